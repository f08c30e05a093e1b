import Derived.Test.YtpohepinmjmbkaaGreatPJ5
namespace Go.Proofs.YtpohepinmjmbkaaGreat.PJ
open Go Go.RowKit Go.Proofs.YtpohepinmjmbkaaGreat.Sl
set_option linter.unusedVariables false
set_option linter.unusedSimpArgs false
set_option maxHeartbeats 4000000
set_option maxRecDepth 100000
mutual
def qBP.j34:Nat→qF × Int→Bool→Option qF
 | 0,_,_=>none
 | k+1,t10,y33=>if y33=true then (qBP.j42 k t10 (w64 (t10.1.f0+1))) else (qBP.j42 k t10 t10.1.f0)
def qBP.j42:Nat→qF × Int→Int→Option qF
 | 0,_,_=>none
 | k+1,t10,x41=>some (⟨x41,t10.1.f1,t10.1.f2,t10.1.f3,t10.1.f4,t10.1.f5,t10.1.f6⟩:qF)
end
theorem qBP.j34_s k t10 y33:type_of% (qBP.j34.eq_2 t10 y33 k):=qBP.j34.eq_2 t10 y33 k
theorem qBP.j42_s k t10 x41:type_of% (qBP.j42.eq_2 t10 x41 k):=qBP.j42.eq_2 t10 x41 k
def qBP.f(k:Nat)(x:qF)(y:qE):Option qF:=(qBd.f k x y).bind fun t10=>(if t10.2=0 then (qBP.j34 k t10 false) else (if t10.1.f0<2147483647 then ((qAP.f k x).bind fun t31=>(qBP.j34 k t10 (t31 == 0))) else (qBP.j34 k t10 false)))
def qBP.Post(W F:World)(r:qF)(v:Value)(w':World):Prop:=∃(F':World)(RA0_4:OA)(rc0_4:Nat)(RA0_5:OA)(rc0_5:Nat)(RA0_6:OA)(rc0_6:Nat),v = .agg #[iv r.f0,iv r.f1,iv r.f2,iv r.f3,.slice RA0_4 r.f4.length rc0_4,.slice RA0_5 r.f5.length rc0_5,.slice RA0_6 r.f6.length rc0_6]∧Sm W F w' F' [row qC.k 49 (.slice RA0_6 r.f6.length rc0_6) r.f6]∧Rd qA.k F' RA0_4 rc0_4 r.f4∧Rd qD.k F' RA0_5 rc0_5 r.f5
theorem qBP.calls(k:Nat)(x:qF)(y:qE)(A0_4:OA)(c0_4:Nat)(A0_5:OA)(c0_5:Nat)(A0_6:OA)(c0_6:Nat)(A1_6:OA)(c1_6:Nat)(r:qF)(W F:World)(hown:Sub F W)(g0_4:Rd qA.k F A0_4 c0_4 x.f4)(g0_5:Rd qD.k F A0_5 c0_5 x.f5)(g0_6:Rd qC.k F A0_6 c0_6 x.f6)(g1_6:Rd ki F A1_6 c1_6 y.f6)(H:qBP.f k x y=some r):
    Cr 31 #[.agg #[iv x.f0,iv x.f1,iv x.f2,iv x.f3,.slice A0_4 x.f4.length c0_4,.slice A0_5 x.f5.length c0_5,.slice A0_6 x.f6.length c0_6],.agg #[iv y.f0,iv y.f1,iv y.f2,iv y.f3,iv y.f4,iv y.f5,.slice A1_6 y.f6.length c1_6]] W (qBP.Post W F r):=by
 have S:=sT hown
 unfold qBP.f at H
 refine ent 30 rfl rfl rfl (fun a E=>?_)
 refine sq fun K1 hK1=>pl0 (plx (t:=26) E S [iv x.f0,iv x.f1,iv x.f2,iv x.f3,.slice A0_4 x.f4.length c0_4,.slice A0_5 x.f5.length c0_5,.slice A0_6 x.f6.length c0_6] fun b2 u3 hb2 S a E=>plx (t:=40) E S [iv y.f0,iv y.f1,iv y.f2,iv y.f3,iv y.f4,iv y.f5,.slice A1_6 y.f6.length c1_6] fun b4 u5 hb4 S a E=>pla (t:=26) E S [iv 0,iv 0,iv 0,iv 0,.slice none 0 0,.slice none 0 0,.slice none 0 0] fun b6 u7 hb6 S a E=>pld (hK1 _ _ (sq fun K8 hK8=>pl0 ?_)))
 have hb2:=S.ba 2
 refine plc E (.bn 0 0 7 hb2<|.bn 1 0 7 (S.ba 1)<|.nil) (fun a E=>?_)
 obtain ⟨t10,h11,H⟩:=bd H
 refine ple E (.cl en26 (qBd.calls k x y _ _ _ _ _ _ _ _ _ _ _ S.own.sub g0_4 g0_5 g0_6 g1_6 h11)) ?_
 rintro _ u9 a ⟨F12,A13,c14,A16,c17,A19,c20,rfl,hC,g15,g18⟩ E
 have hs:=hC.sub
 replace S:=S.called (X:=[]) hC
 replace g0_4:=g0_4.mono hs
 replace g0_5:=g0_5.mono hs
 replace g0_6:=g0_6.mono hs
 replace g1_6:=g1_6.mono hs
 refine plc E (.r 3 3 .nil) (fun a E=>pla (t:=26) E S [iv 0,iv 0,iv 0,iv 0,.slice none 0 0,.slice none 0 0,.slice none 0 0] fun b23 u24 hb23 S a E=>pls E S [iv t10.1.f0,iv t10.1.f1,iv t10.1.f2,iv t10.1.f3,.slice A13 t10.1.f4.length c14,.slice A16 t10.1.f5.length c17,.slice A19 t10.1.f6.length c20] fun u25 hb23 S a E=>plc E (.r 8 1 .nil) (fun a E=>pld (hK8 _ _ (sq fun K26 hK26=>?_))))
 have J45:∀ kq43,kq43≤k→∀(G:NV)(x41:Int)(a:Act)(w':World),Env 30 G a→At G [(4,.pointer (pb b6)),(5,.pointer (pb b23))]→Sm W F w' F12 [box b23 #[iv x41,iv t10.1.f1,iv t10.1.f2,iv t10.1.f3,.slice A13 t10.1.f4.length c14,.slice A16 t10.1.f5.length c17,.slice A19 t10.1.f6.length c20] 26,box b6 #[iv 0,iv 0,iv 0,iv 0,.slice none 0 0,.slice none 0 0,.slice none 0 0] 26,box b4 #[iv y.f0,iv y.f1,iv y.f2,iv y.f3,iv y.f4,iv y.f5,.slice A1_6 y.f6.length c1_6] 40,box b2 #[iv x.f0,iv x.f1,iv x.f2,iv x.f3,.slice A0_4 x.f4.length c0_4,.slice A0_5 x.f5.length c0_5,.slice A0_6 x.f6.length c0_6] 26,row qC.k 49 (.slice A19 t10.1.f6.length c20) t10.1.f6]→qBP.j42 kq43 t10 x41=some r→K26 a w':=by
  intro kq43 hkq G x41 a u46 E A S H
  obtain _ | k44:=kq43
  exact zz H
  rw [qBP.j42_s]at H
  obtain ⟨J,E⟩:=E.at A
  refine hK26 _ _ (sq fun K47 hK47=>pl0 (plc E (.bn 0 0 7 (S.ba 0) .nil) (fun a E=>?_)))
  replace S:=S.front 1 rfl
  refine pls E S [iv x41,iv t10.1.f1,iv t10.1.f2,iv t10.1.f3,.slice A13 t10.1.f4.length c14,.slice A16 t10.1.f5.length c17,.slice A19 t10.1.f6.length c20] fun u48 hb6 S a E=>pld (hK47 _ _ (wp_ret ?_))
  replace S:=S.pm [] 4
  obtain rfl:=si H
  exact ret1 E rfl (.cell (by kernel_rfl) (qDC [iv x41,iv t10.1.f1,iv t10.1.f2,iv t10.1.f3,.slice A13 t10.1.f4.length c14,.slice A16 t10.1.f5.length c17,.slice A19 t10.1.f6.length c20] ag26 sz26 hb6 rfl) .nil) ⟨_,rfl,_,_,_,_,_,_,_,rfl,S,g15,g18⟩
 refine sq fun K27 hK27=>?_
 have J37:∀ kq35,kq35≤k→∀(G:NV)(y33:Bool)(a:Act)(w':World),Env 30 G a→At G [(4,.pointer (pb b6)),(5,.pointer (pb b23)),(24,.bool y33)]→Sm W F w' F12 [box b23 #[iv t10.1.f0,iv t10.1.f1,iv t10.1.f2,iv t10.1.f3,.slice A13 t10.1.f4.length c14,.slice A16 t10.1.f5.length c17,.slice A19 t10.1.f6.length c20] 26,box b6 #[iv 0,iv 0,iv 0,iv 0,.slice none 0 0,.slice none 0 0,.slice none 0 0] 26,box b4 #[iv y.f0,iv y.f1,iv y.f2,iv y.f3,iv y.f4,iv y.f5,.slice A1_6 y.f6.length c1_6] 40,box b2 #[iv x.f0,iv x.f1,iv x.f2,iv x.f3,.slice A0_4 x.f4.length c0_4,.slice A0_5 x.f5.length c0_5,.slice A0_6 x.f6.length c0_6] 26,row qC.k 49 (.slice A19 t10.1.f6.length c20) t10.1.f6]→qBP.j34 kq35 t10 y33=some r→K27 a w':=by
  intro kq35 hkq G y33 a u38 E A S H
  obtain _ | k36:=kq35
  exact zz H
  rw [qBP.j34_s]at H
  obtain ⟨J,E⟩:=E.at A
  refine hK27 _ _ (E.ib 24 H (fun c39 E H=>?_) fun c39 E H=>?_)
  refine pl0 (plc E (.r 0 1<|.b 1 0 (S.ba 0)<|.r 2 2<|.nil) (fun a E=>pls E S [iv (w64 (t10.1.f0+1)),iv t10.1.f1,iv t10.1.f2,iv t10.1.f3,.slice A13 t10.1.f4.length c14,.slice A16 t10.1.f5.length c17,.slice A19 t10.1.f6.length c20] fun u40 hb23 S a E=>pld ?_))
  exact J45 _ (by omega) _ (w64 (t10.1.f0+1)) _ _ E .of S H
  refine wp_skip ?_
  exact J45 _ (by omega) _ t10.1.f0 _ _ E .of S H
 refine pl0 (plc E (.r 0 3 .nil) (fun a E=>E.fkn 15 H (fun c28 E H=>?_) fun c28 E H=>?_))
 refine plc E (.r 3 9 .nil) (fun a E=>pld ?_)
 replace S:=S.pm [0,2,3,4,1] 5
 exact J37 _ (by omega) _ false _ _ E .of S H
 refine plc E (.r 3 1<|.b 4 0 hb23<|.r 5 3<|.nil) (fun a E=>E.fk 20 H (fun c29 E H=>?_) fun c29 E H=>?_)
 refine plc E (.bn 8 0 7 (S.ba 4) .nil) (fun a E=>?_)
 obtain ⟨t31,h32,H⟩:=bd H
 refine plq E S en32 (qAP.calls k x _ _ _ _ _ _ _ _ _ S.own.sub g0_4 g0_5 g0_6 h32) fun u30 S a E=>plc E (.r 10 2 .nil) (fun a E=>pld ?_)
 replace S:=S.pm [0,2,3,4,1] 5
 exact J37 _ (by omega) _ (t31 == 0) _ _ E .of S H
 refine plc E (.r 8 4 .nil) (fun a E=>pld ?_)
 replace S:=S.pm [0,2,3,4,1] 5
 exact J37 _ (by omega) _ false _ _ E .of S H
def qBa.l44:Nat→List qE→Int→Int→Int→Int→Int→List qA→List qD→List qC→Option qF
 | 0,_,_,_,_,_,_,_,_,_=>none
 | k+1,y,x27,x28,x29,x30,x31,l34,l38,l42=>if x27<(y.length:Int) then (if 0≤x27∧x27<(y.length:Int) then ((qBP.f k (⟨x28,x29,x30,x31,l34,l38,l42⟩:qF) (nth qE.z y x27)).bind fun t67=>(qBa.l44 k y (w64 (x27+1)) t67.f0 t67.f1 t67.f2 t67.f3 t67.f4 t67.f5 t67.f6)) else (none)) else ((qAP.f k (⟨x28,x29,x30,x31,l34,l38,l42⟩:qF)).bind fun t88=>(if t88=0 then (some (⟨x28,x29,x30,x31,l34,l38,l42⟩:qF)) else (some (⟨0,0,0,0,[],[],[]⟩:qF))))
theorem qBa.l44_s k y x27 x28 x29 x30 x31 l34 l38 l42:type_of% (qBa.l44.eq_2 y x27 x28 x29 x30 x31 l34 l38 l42 k):=qBa.l44.eq_2 y x27 x28 x29 x30 x31 l34 l38 l42 k
def qBa.f(k:Nat)(x:qF)(y:List qE):Option qF:=(qBL.f k x).bind fun t8=>(qBa.l44 k y 0 t8.f0 t8.f1 t8.f2 t8.f3 t8.f4 t8.f5 t8.f6)
def qBa.Post(W F:World)(r:qF)(v:Value)(w':World):Prop:=∃(F':World)(RA0_4:OA)(rc0_4:Nat)(RA0_5:OA)(rc0_5:Nat)(RA0_6:OA)(rc0_6:Nat),v = .agg #[iv r.f0,iv r.f1,iv r.f2,iv r.f3,.slice RA0_4 r.f4.length rc0_4,.slice RA0_5 r.f5.length rc0_5,.slice RA0_6 r.f6.length rc0_6]∧Sm W F w' F' [row qC.k 49 (.slice RA0_6 r.f6.length rc0_6) r.f6]∧Rd qA.k F' RA0_4 rc0_4 r.f4∧Rd qD.k F' RA0_5 rc0_5 r.f5
theorem qBa.calls(k:Nat)(x:qF)(y:List qE)(A0_4:OA)(c0_4:Nat)(A0_5:OA)(c0_5:Nat)(A0_6:OA)(c0_6:Nat)(A1_0:OA)(c1_0:Nat)(r:qF)(W F:World)(hown:Sub F W)(g0_4:Rd qA.k F A0_4 c0_4 x.f4)(g0_5:Rd qD.k F A0_5 c0_5 x.f5)(g0_6:Rd qC.k F A0_6 c0_6 x.f6)(g1_0:Rd qE.k F A1_0 c1_0 y)(H:qBa.f k x y=some r):
    Cr 29 #[.agg #[iv x.f0,iv x.f1,iv x.f2,iv x.f3,.slice A0_4 x.f4.length c0_4,.slice A0_5 x.f5.length c0_5,.slice A0_6 x.f6.length c0_6],.slice A1_0 y.length c1_0] W (qBa.Post W F r):=by
 have S:=sT hown
 unfold qBa.f at H
 refine ent 24 rfl rfl rfl (fun a E=>?_)
 refine sq fun K1 hK1=>pl0 (plx (t:=26) E S [iv x.f0,iv x.f1,iv x.f2,iv x.f3,.slice A0_4 x.f4.length c0_4,.slice A0_5 x.f5.length c0_5,.slice A0_6 x.f6.length c0_6] fun b2 u3 hb2 S a E=>pla (t:=26) E S [iv 0,iv 0,iv 0,iv 0,.slice none 0 0,.slice none 0 0,.slice none 0 0] fun b4 u5 hb4 S a E=>pld (hK1 _ _ (sq fun K6 hK6=>pl0 (plc E (.bn 0 0 7 (S.ba 1) .nil) (fun a E=>?_)))))
 obtain ⟨t8,h9,H⟩:=bd H
 refine ple E (.cl en77 (qBL.calls k x _ _ _ _ _ _ _ _ _ S.own.sub g0_4 g0_5 g0_6 h9)) ?_
 rintro _ u7 a ⟨F10,A11,c12,A15,c16,A19,c20,rfl,hC⟩ E
 have hs:=hC.sub
 replace S:=S.called (X:=[]) hC
 replace g0_4:=g0_4.mono hs
 replace g0_5:=g0_5.mono hs
 replace g0_6:=g0_6.mono hs
 replace g1_0:=g1_0.mono hs
 replace S:=S.front 4 rfl
 refine pls E S [iv t8.f0,iv t8.f1,iv t8.f2,iv t8.f3,.slice A11 t8.f4.length c12,.slice A15 t8.f5.length c16,.slice A19 t8.f6.length c20] fun u23 hb2 S a E=>pld (hK6 _ _ (sq fun K24 hK24=>rr E fun a E=>(wp_block ?_)))
 replace S:=S.front 1 rfl
 obtain ⟨F81,hs,g82,S⟩:=S.give
 replace g0_4:=g0_4.mono hs
 replace g0_5:=g0_5.mono hs
 replace g0_6:=g0_6.mono hs
 replace g1_0:=g1_0.mono hs
 replace S:=S.front 1 rfl
 obtain ⟨F83,hs,g84,S⟩:=S.give
 replace g0_4:=g0_4.mono hs
 replace g0_5:=g0_5.mono hs
 replace g0_6:=g0_6.mono hs
 replace g1_0:=g1_0.mono hs
 replace g82:=g82.mono hs
 replace S:=S.pm [0,2,1] 3
 refine wp_loop_ghost (fun kq45 a w'=>∃(G:NV)(x27:Int)(x28:Int)(x29:Int)(x30:Int)(x31:Int)(A32:OA)(c33:Nat)(l34:List qA)(A36:OA)(c37:Nat)(l38:List qD)(A40:OA)(c41:Nat)(l42:List qC)(F43:World),kq45≤k∧Env 24 G a∧At G [(2,.pointer (pb b2)),(4,.pointer (pb b4)),(9,.slice A1_0 y.length c1_0),(10,iv (y.length:Int)),(11,iv x27)]∧Sm W F w' F43 [box b2 #[iv x28,iv x29,iv x30,iv x31,.slice A32 l34.length c33,.slice A36 l38.length c37,.slice A40 l42.length c41] 26,box b4 #[iv 0,iv 0,iv 0,iv 0,.slice none 0 0,.slice none 0 0,.slice none 0 0] 26,row qC.k 49 (.slice A40 l42.length c41) l42]∧Rd qA.k F43 A32 c33 l34∧Rd qD.k F43 A36 c37 l38∧Rd qE.k F43 A1_0 c1_0 y∧qBa.l44 kq45 y x27 x28 x29 x30 x31 l34 l38 l42=some r) k ⟨_,0,t8.f0,t8.f1,t8.f2,t8.f3,A11,c12,t8.f4,A15,c16,t8.f5,A19,c20,t8.f6,F83,Nat.le_refl _,E,.of,S,g82,g84,g1_0,H⟩ ?_
 rintro kq45 a u47 ⟨G,x27,x28,x29,x30,x31,A32,c33,l34,A36,c37,l38,A40,c41,l42,F43,hkq,E,A,S,g35,g39,g1_0,H⟩
 obtain _ | k46:=kq45
 exact zz H
 rw [qBa.l44_s]at H
 obtain ⟨J,E⟩:=E.at A
 refine rr E fun a E=>(sq fun K49 hK49=>E.ik 12 H (fun c50 E H=>?_) fun c50 E H=>?_)
 refine wp_skip (hK49 _ _ (sq fun K51 hK51=>wp_block (sq fun K52 hK52=>pl0 ?_)))
 obtain ⟨c53,H⟩:=gd H
 have hE_:=E
 obtain ⟨ad54,rfl⟩:=g1_0.addr c53.1 c53.2
 replace E:=hE_
 obtain ⟨cs56,⟨A58,c59,rfl,g60⟩,hc57⟩:=g1_0.el qE.z x27 c53.1 c53.2
 refine plc E (.x 0 c53<|.cs 1 (S.fcs hc57)<|.nil) (fun a E=>pla (t:=40) E S [iv 0,iv 0,iv 0,iv 0,iv 0,iv 0,.slice none 0 0] fun b61 u62 hb61 S a E=>pls E S [iv ((nth qE.z y x27).f0),iv ((nth qE.z y x27).f1),iv ((nth qE.z y x27).f2),iv ((nth qE.z y x27).f3),iv ((nth qE.z y x27).f4),iv ((nth qE.z y x27).f5),.slice A58 (((nth qE.z y x27).f6).length) c59] fun u63 hb61 S a E=>pld (hK52 _ _ (pl0 (plc E (.bn 0 0 7 (S.ba 1)<|.bn 1 0 7 hb61<|.nil) (fun a E=>?_)))))
 replace S:=S.front 3 rfl
 obtain ⟨F64,hs,g65,S⟩:=S.give
 replace g1_0:=g1_0.mono hs
 replace g60:=g60.mono hs
 replace g35:=g35.mono hs
 replace g39:=g39.mono hs
 obtain ⟨t67,h68,H⟩:=bd H
 refine ple E (.cl en31 (qBP.calls k46 (⟨x28,x29,x30,x31,l34,l38,l42⟩:qF) (nth qE.z y x27) _ _ _ _ _ _ _ _ _ _ _ S.own.sub g35 g39 g65 g60 h68)) ?_
 rintro _ u66 a ⟨F69,A70,c71,A73,c74,A76,c77,rfl,hC,g72,g75⟩ E
 have hs:=hC.sub
 replace S:=S.called (X:=[]) hC
 replace g1_0:=g1_0.mono hs
 replace g60:=g60.mono hs
 replace g35:=g35.mono hs
 replace g39:=g39.mono hs
 replace g65:=g65.mono hs
 replace S:=S.front 2 rfl
 refine pls E S [iv t67.f0,iv t67.f1,iv t67.f2,iv t67.f3,.slice A70 t67.f4.length c71,.slice A73 t67.f5.length c74,.slice A76 t67.f6.length c77] fun u80 hb2 S a E=>pld ?_
 refine qCp ?_
 refine hK51 _ _ (pl0 (plc E (.r 0 2 .nil) (fun a E=>pld ?_)))
 replace S:=S.pm [0,3,1] 4
 exact qCq ⟨k46,by omega,_,(w64 (x27+1)),t67.f0,t67.f1,t67.f2,t67.f3,A70,c71,t67.f4,A73,c74,t67.f5,A76,c77,t67.f6,F69,by omega,E,.of,S,g72,g75,g1_0,H⟩
 refine wp_exit ?_
 refine hK24 _ _ (sq fun K85 hK85=>sq fun K86 hK86=>pl0 ?_)
 have hb2:=S.ba 0
 refine plc E (.bn 0 0 7 hb2 .nil) (fun a E=>?_)
 obtain ⟨t88,h89,H⟩:=bd H
 refine plq E S en32 (qAP.calls k46 (⟨x28,x29,x30,x31,l34,l38,l42⟩:qF) _ _ _ _ _ _ _ _ _ (Sub.refl _) (g35.mono S.own.sub) (g39.mono S.own.sub) (S.rd_at (i:=2) rfl) h89) fun u87 S a E=>plc E (.r 2 1 .nil) (fun a E=>pld (hK86 _ _ (E.ikn 21 H (fun c90 E H=>?_) fun c90 E H=>?_)))
 refine wp_skip (hK85 _ _ (sq fun K94 hK94=>pl0 (plc E (.bn 0 0 7 (S.ba 0) .nil) (fun a E=>?_))))
 replace S:=S.front 1 rfl
 refine pls E S [iv x28,iv x29,iv x30,iv x31,.slice A32 l34.length c33,.slice A36 l38.length c37,.slice A40 l42.length c41] fun u95 hb4 S a E=>pld (hK94 _ _ (wp_ret ?_))
 replace S:=S.pm [] 2
 obtain rfl:=si H
 exact ret1 E rfl (.cell (by kernel_rfl) (qDC [iv x28,iv x29,iv x30,iv x31,.slice A32 l34.length c33,.slice A36 l38.length c37,.slice A40 l42.length c41] ag26 sz26 hb4 rfl) .nil) ⟨_,rfl,_,_,_,_,_,_,_,rfl,S,g35,g39⟩
 refine sq fun K91 hK91=>pl0 (plc E (.r 0 1 .nil) (fun a E=>?_))
 replace S:=S.front 1 rfl
 refine pls E S [iv 0,iv 0,iv 0,iv 0,.slice none 0 0,.slice none 0 0,.slice none 0 0] fun u92 hb4 S a E=>pld (hK91 _ _ (wp_ret (qCn ?_)))
 replace S:=S.nilrow qC.k 49
 replace S:=S.pm [0] 4
 obtain rfl:=si H
 exact ret1 E rfl (.cell (by kernel_rfl) (qDC [iv 0,iv 0,iv 0,iv 0,.slice none 0 0,.slice none 0 0,.slice none 0 0] ag26 sz26 hb4 rfl) .nil) ⟨_,rfl,_,_,_,_,_,_,_,rfl,S,(Rd.nil _ _),(Rd.nil _ _)⟩
def qBq.f(k:Nat)(x:qE):Option Bool:=(acceptor_CheckDelta.f k x).bind fun t6=>(some (!(t6 == 0)))
def qBq.Post(W F:World)(r:Bool)(v:Value)(w':World):Prop:=∃(F':World),v = .bool r∧Sm W F w' F' []
theorem qBq.calls(k:Nat)(x:qE)(A0_6:OA)(c0_6:Nat)(r:Bool)(W F:World)(hown:Sub F W)(g0_6:Rd ki F A0_6 c0_6 x.f6)(H:qBq.f k x=some r):
    Cr 152 #[.agg #[iv x.f0,iv x.f1,iv x.f2,iv x.f3,iv x.f4,iv x.f5,.slice A0_6 x.f6.length c0_6]] W (qBq.Post W F r):=by
 have S:=sT hown
 unfold qBq.f at H
 refine ent 6 rfl rfl rfl (fun a E=>?_)
 refine sq fun K1 hK1=>pl0 (plx (t:=40) E S [iv x.f0,iv x.f1,iv x.f2,iv x.f3,iv x.f4,iv x.f5,.slice A0_6 x.f6.length c0_6] fun b2 u3 hb2 S a E=>plc E (.r 1 1 .nil) (fun a E=>pld (hK1 _ _ (sq fun K4 hK4=>pl0 (plc E (.bn 0 0 7 hb2 .nil) (fun a E=>?_))))))
 obtain ⟨t6,h7,H⟩:=bd H
 refine plq E S en97 (acceptor_CheckDelta.calls k x _ _ _ _ _ S.own.sub g0_6 h7) fun u5 S a E=>plc E (.r 2 2 .nil) (fun a E=>pld (hK4 _ _ (wp_ret ?_)))
 replace S:=S.tail
 obtain rfl:=si H
 exact rt1 E ⟨_,rfl,_,rfl,S⟩
def qR.l5:Nat→List qE→Int→Option Int
 | 0,_,_=>none
 | k+1,x,x4=>if x4<(x.length:Int) then (if 0≤x4∧x4<(x.length:Int) then ((qBq.f k (nth qE.z x x4)).bind fun t24=>(if t24=true then (some x4) else (qR.l5 k x (w64 (x4+1))))) else (none)) else (some (-1))
theorem qR.l5_s k x x4:type_of% (qR.l5.eq_2 x x4 k):=qR.l5.eq_2 x x4 k
def qR.f(k:Nat)(x:List qE):Option Int:=qR.l5 k x 0
def qR.Post(W F:World)(r:Int)(v:Value)(w':World):Prop:=∃(F':World),v=iv r∧Sm W F w' F' []
theorem qR.calls(k:Nat)(x:List qE)(A0_0:OA)(c0_0:Nat)(r:Int)(W F:World)(hown:Sub F W)(g0_0:Rd qE.k F A0_0 c0_0 x)(H:qR.f k x=some r):
    Cr 189 #[.slice A0_0 x.length c0_0,.func (.func 152) #[] #[]] W (qR.Post W F r):=by
 have S:=sT hown
 unfold qR.f at H
 refine ent 19 rfl rfl rfl (fun a E=>?_)
 refine rr E fun a E=>(sq fun K2 hK2=>rr E fun a E=>(wp_block ?_))
 refine wp_loop_ghost (fun kq6 a w'=>∃(G:NV)(x4:Int),kq6≤k∧Env 19 G a∧At G [(0,.slice A0_0 x.length c0_0),(1,.func (.func 152) #[] #[]),(7,iv (x.length:Int)),(8,iv x4)]∧Sm W F w' F []∧qR.l5 kq6 x x4=some r) k ⟨_,0,Nat.le_refl _,E,.of,S,H⟩ ?_
 rintro kq6 a u8 ⟨G,x4,hkq,E,A,S,H⟩
 obtain _ | k7:=kq6
 exact zz H
 rw [qR.l5_s]at H
 obtain ⟨J,E⟩:=E.at A
 refine rr E fun a E=>(sq fun K10 hK10=>E.ik 9 H (fun c11 E H=>?_) fun c11 E H=>?_)
 refine wp_skip (hK10 _ _ (sq fun K12 hK12=>wp_block (rr E fun a E=>(sq fun K14 hK14=>pl0 ?_))))
 obtain ⟨c15,H⟩:=gd H
 have hE_:=E
 obtain ⟨ad16,rfl⟩:=g0_0.addr c15.1 c15.2
 replace E:=hE_
 obtain ⟨cs18,⟨A20,c21,rfl,g22⟩,hc19⟩:=g0_0.el qE.z x4 c15.1 c15.2
 refine plc E (.r 0 3<|.x 3 c15<|.cs 4 (S.fcs hc19)<|.nil) (fun a E=>?_)
 obtain ⟨t24,h25,H⟩:=bd H
 refine plq E S en152 (qBq.calls k7 (nth qE.z x x4) _ _ _ _ _ S.own.sub g22 h25) fun u23 S a E=>pld (hK14 _ _ (E.ib 16 H (fun c26 E H=>?_) fun c26 E H=>?_))
 refine rr E fun a E=>(wp_ret (qCo (qCn (qCn (qCo (qCn ?_))))))
 obtain rfl:=si H
 exact rt1 E ⟨_,rfl,_,rfl,S⟩
 refine wp_skip ?_
 refine qCp ?_
 refine hK12 _ _ (pl0 (plc E (.r 0 2 .nil) (fun a E=>pld ?_)))
 exact qCq ⟨k7,by omega,_,(w64 (x4+1)),by omega,E,.of,S,H⟩
 refine wp_exit ?_
 refine hK2 _ _ (rr E fun a E=>(wp_ret ?_))
 obtain rfl:=si H
 exact rt1 E ⟨_,rfl,_,rfl,S⟩
def qr.f(k:Nat)(x:List qE):Option Bool:=(qR.f k x).bind fun t4=>(some (decide (t4≥0)))
def qr.Post(W F:World)(r:Bool)(v:Value)(w':World):Prop:=∃(F':World),v = .bool r∧Sm W F w' F' []
theorem qr.calls(k:Nat)(x:List qE)(A0_0:OA)(c0_0:Nat)(r:Bool)(W F:World)(hown:Sub F W)(g0_0:Rd qE.k F A0_0 c0_0 x)(H:qr.f k x=some r):
    Cr 151 #[.slice A0_0 x.length c0_0,.func (.func 152) #[] #[]] W (qr.Post W F r):=by
 have S:=sT hown
 unfold qr.f at H
 refine ent 9 rfl rfl rfl (fun a E=>?_)
 refine rr E fun a E=>(sq fun K2 hK2=>pl0 (plc E (.r 0 2 .nil) (fun a E=>?_)))
 obtain ⟨t4,h5,H⟩:=bd H
 refine plq E S en189 (qR.calls k x _ _ _ _ _ S.own.sub g0_0 h5) fun u3 S a E=>plc E (.r 3 2 .nil) (fun a E=>pld (hK2 _ _ (wp_ret ?_)))
 obtain rfl:=si H
 exact rt1 E ⟨_,rfl,_,rfl,S⟩
def qBN.j16:Nat→Bool→Option Int
 | 0,_=>none
 | k+1,y15=>if y15=true then (some 1) else (some 0)
theorem qBN.j16_s k y15:type_of% (qBN.j16.eq_2 y15 k):=qBN.j16.eq_2 y15 k
def qBN.f(k:Nat)(x:qp):Option Int:=(qr.f k x.f1).bind fun t6=>((qAP.f k x.f0).bind fun t11=>(if t11=0 then (if (x.f1.length:Int)>8 then (qBN.j16 k true) else (qBN.j16 k t6)) else (qBN.j16 k true)))
def qBN.Post(W F:World)(r:Int)(v:Value)(w':World):Prop:=∃(F':World),v=iv r∧Sm W F w' F' []
theorem qBN.calls(k:Nat)(x:qp)(A0_4:OA)(c0_4:Nat)(A0_5:OA)(c0_5:Nat)(A0_6:OA)(c0_6:Nat)(A0_7:OA)(c0_7:Nat)(r:Int)(W F:World)(hown:Sub F W)(g0_4:Rd qA.k F A0_4 c0_4 x.f0.f4)(g0_5:Rd qD.k F A0_5 c0_5 x.f0.f5)(g0_6:Rd qC.k F A0_6 c0_6 x.f0.f6)(g0_7:Rd qE.k F A0_7 c0_7 x.f1)(H:qBN.f k x=some r):
    Cr 95 #[.agg #[iv x.f0.f0,iv x.f0.f1,iv x.f0.f2,iv x.f0.f3,.slice A0_4 x.f0.f4.length c0_4,.slice A0_5 x.f0.f5.length c0_5,.slice A0_6 x.f0.f6.length c0_6,.slice A0_7 x.f1.length c0_7]] W (qBN.Post W F r):=by
 have S:=sT hown
 unfold qBN.f at H
 refine ent 20 rfl rfl rfl (fun a E=>?_)
 refine sq fun K1 hK1=>pl0 (plx (t:=59) E S [iv x.f0.f0,iv x.f0.f1,iv x.f0.f2,iv x.f0.f3,.slice A0_4 x.f0.f4.length c0_4,.slice A0_5 x.f0.f5.length c0_5,.slice A0_6 x.f0.f6.length c0_6,.slice A0_7 x.f1.length c0_7] fun b2 u3 hb2 S a E=>plc E (.r 1 1 .nil) (fun a E=>pld (hK1 _ _ (sq fun K4 hK4=>pl0 (plc E (.r 0 1<|.b 1 7 hb2<|.nil) (fun a E=>?_))))))
 obtain ⟨t6,h7,H⟩:=bd H
 refine plq E S en151 (qr.calls k x.f1 _ _ _ _ _ S.own.sub g0_7 h7) fun u5 S a E=>plc E (.r 3 1 .nil) (fun a E=>pld (hK4 _ _ (sq fun K8 hK8=>sq fun K9 hK9=>?_)))
 have J19:∀ kq17,kq17≤k→∀(G:NV)(y15:Bool)(a:Act)(w':World),Env 20 G a→At G [(19,.bool y15)]→Sm W F w' F [box b2 #[iv x.f0.f0,iv x.f0.f1,iv x.f0.f2,iv x.f0.f3,.slice A0_4 x.f0.f4.length c0_4,.slice A0_5 x.f0.f5.length c0_5,.slice A0_6 x.f0.f6.length c0_6,.slice A0_7 x.f1.length c0_7] 59]→qBN.j16 kq17 y15=some r→K9 a w':=by
  intro kq17 hkq G y15 a u20 E A S H
  obtain _ | k18:=kq17
  exact zz H
  rw [qBN.j16_s]at H
  obtain ⟨J,E⟩:=E.at A
  refine hK9 _ _ (E.ib 19 H (fun c21 E H=>?_) fun c21 E H=>?_)
  refine rr E fun a E=>(wp_ret (qCn ?_))
  replace S:=S.tail
  obtain rfl:=si H
  exact rt1 E ⟨_,rfl,_,rfl,S⟩
  refine wp_skip (hK8 _ _ (rr E fun a E=>(wp_ret ?_)))
  replace S:=S.tail
  obtain rfl:=si H
  exact rt1 E ⟨_,rfl,_,rfl,S⟩
 refine pl0 ?_
 have hb2:=S.ba 0
 refine plc E (.r 0 1<|.bn 1 0 7 hb2<|.nil) (fun a E=>?_)
 obtain ⟨t11,h12,H⟩:=bd H
 refine plq E S en32 (qAP.calls k x.f0 _ _ _ _ _ _ _ _ _ S.own.sub g0_4 g0_5 g0_6 h12) fun u10 S a E=>plc E (.r 3 2 .nil) (fun a E=>E.fkn 11 H (fun c13 E H=>?_) fun c13 E H=>?_)
 refine plc E (.r 5 1<|.b 6 7 (S.ba 0)<|.r 7 4<|.nil) (fun a E=>E.fk 17 H (fun c14 E H=>?_) fun c14 E H=>?_)
 refine plc E (.r 11 2 .nil) (fun a E=>pld ?_)
 exact J19 _ (by omega) _ true _ _ E .of S H
 refine plc E (.r 11 2 .nil) (fun a E=>pld ?_)
 exact J19 _ (by omega) _ t6 _ _ E .of S H
 refine plc E (.r 5 8 .nil) (fun a E=>pld ?_)
 exact J19 _ (by omega) _ true _ _ E .of S H
def qCD.f(k:Nat)(x:qp):Option qF:=(qBN.f k x).bind fun t9=>(if t9=0 then ((qBa.f k x.f0 x.f1).bind fun t17=>(some t17)) else (some (⟨0,0,0,0,[],[],[]⟩:qF)))
def qCD.Post(W F:World)(r:qF)(v:Value)(w':World):Prop:=∃(F':World)(RA0_4:OA)(rc0_4:Nat)(RA0_5:OA)(rc0_5:Nat)(RA0_6:OA)(rc0_6:Nat),v = .agg #[iv r.f0,iv r.f1,iv r.f2,iv r.f3,.slice RA0_4 r.f4.length rc0_4,.slice RA0_5 r.f5.length rc0_5,.slice RA0_6 r.f6.length rc0_6]∧Sm W F w' F' [row qC.k 49 (.slice RA0_6 r.f6.length rc0_6) r.f6]∧Rd qA.k F' RA0_4 rc0_4 r.f4∧Rd qD.k F' RA0_5 rc0_5 r.f5
theorem qCD.calls(k:Nat)(x:qp)(A0_4:OA)(c0_4:Nat)(A0_5:OA)(c0_5:Nat)(A0_6:OA)(c0_6:Nat)(A0_7:OA)(c0_7:Nat)(r:qF)(W F:World)(hown:Sub F W)(g0_4:Rd qA.k F A0_4 c0_4 x.f0.f4)(g0_5:Rd qD.k F A0_5 c0_5 x.f0.f5)(g0_6:Rd qC.k F A0_6 c0_6 x.f0.f6)(g0_7:Rd qE.k F A0_7 c0_7 x.f1)(H:qCD.f k x=some r):
    Cr 39 #[.agg #[iv x.f0.f0,iv x.f0.f1,iv x.f0.f2,iv x.f0.f3,.slice A0_4 x.f0.f4.length c0_4,.slice A0_5 x.f0.f5.length c0_5,.slice A0_6 x.f0.f6.length c0_6,.slice A0_7 x.f1.length c0_7]] W (qCD.Post W F r):=by
 have S:=sT hown
 unfold qCD.f at H
 refine ent 12 rfl rfl rfl (fun a E=>?_)
 refine sq fun K1 hK1=>pl0 (plx (t:=59) E S [iv x.f0.f0,iv x.f0.f1,iv x.f0.f2,iv x.f0.f3,.slice A0_4 x.f0.f4.length c0_4,.slice A0_5 x.f0.f5.length c0_5,.slice A0_6 x.f0.f6.length c0_6,.slice A0_7 x.f1.length c0_7] fun b2 u3 hb2 S a E=>pla (t:=26) E S [iv 0,iv 0,iv 0,iv 0,.slice none 0 0,.slice none 0 0,.slice none 0 0] fun b4 u5 hb4 S a E=>pld (hK1 _ _ (sq fun K6 hK6=>sq fun K7 hK7=>pl0 ?_)))
 have hb2:=S.ba 1
 refine plc E (.bn 0 0 8 hb2 .nil) (fun a E=>?_)
 obtain ⟨t9,h10,H⟩:=bd H
 refine plq E S en95 (qBN.calls k x _ _ _ _ _ _ _ _ _ _ _ S.own.sub g0_4 g0_5 g0_6 g0_7 h10) fun u8 S a E=>plc E (.r 2 1 .nil) (fun a E=>pld (hK7 _ _ (E.ikn 5 H (fun c11 E H=>?_) fun c11 E H=>?_)))
 refine wp_skip (hK6 _ _ (sq fun K15 hK15=>pl0 ?_))
 have hb2:=S.ba 1
 refine plc E (.r 0 1<|.bn 1 0 7 hb2<|.r 2 1<|.b 3 7 hb2<|.nil) (fun a E=>?_)
 obtain ⟨t17,h18,H⟩:=bd H
 refine ple E (.cl en29 (qBa.calls k x.f0 x.f1 _ _ _ _ _ _ _ _ _ _ _ S.own.sub g0_4 g0_5 g0_6 g0_7 h18)) ?_
 rintro _ u16 a ⟨F19,A20,c21,A23,c24,A26,c27,rfl,hC,g22,g25⟩ E
 have hs:=hC.sub
 replace S:=S.called (X:=[]) hC
 replace g0_4:=g0_4.mono hs
 replace g0_5:=g0_5.mono hs
 replace g0_6:=g0_6.mono hs
 replace g0_7:=g0_7.mono hs
 replace S:=S.front 1 rfl
 refine pls E S [iv t17.f0,iv t17.f1,iv t17.f2,iv t17.f3,.slice A20 t17.f4.length c21,.slice A23 t17.f5.length c24,.slice A26 t17.f6.length c27] fun u30 hb4 S a E=>pld (hK15 _ _ (wp_ret ?_))
 replace S:=S.pm [1] 3
 obtain rfl:=si H
 exact ret1 E rfl (.cell (by kernel_rfl) (qDC [iv t17.f0,iv t17.f1,iv t17.f2,iv t17.f3,.slice A20 t17.f4.length c21,.slice A23 t17.f5.length c24,.slice A26 t17.f6.length c27] ag26 sz26 hb4 rfl) .nil) ⟨_,rfl,_,_,_,_,_,_,_,rfl,S,g22,g25⟩
 refine sq fun K12 hK12=>pl0 (plc E (.r 0 1 .nil) (fun a E=>pls E S [iv 0,iv 0,iv 0,iv 0,.slice none 0 0,.slice none 0 0,.slice none 0 0] fun u13 hb4 S a E=>pld (hK12 _ _ (wp_ret (qCn ?_)))))
 replace S:=S.nilrow qC.k 49
 replace S:=S.pm [0] 3
 obtain rfl:=si H
 exact ret1 E rfl (.cell (by kernel_rfl) (qDC [iv 0,iv 0,iv 0,iv 0,.slice none 0 0,.slice none 0 0,.slice none 0 0] ag26 sz26 hb4 rfl) .nil) ⟨_,rfl,_,_,_,_,_,_,_,rfl,S,(Rd.nil _ _),(Rd.nil _ _)⟩
def qAq.f(x:List qE):Option (List qE):=if ((([]:List qE).length:Int)+(x.length:Int)) * 72≤140737488355328 then (some (([]:List qE)++x)) else (none)
def qAq.Post(W F:World)(r:List qE)(v:Value)(w':World):Prop:=∃(F':World)(RA0_0:OA)(rc0_0:Nat),v = .slice RA0_0 r.length rc0_0∧Sm W F w' F' [row qE.k 40 (.slice RA0_0 r.length rc0_0) r]
theorem qAq.calls(x:List qE)(A0_0:OA)(c0_0:Nat)(r:List qE)(W F:World)(hown:Sub F W)(g0_0:Rd qE.k F A0_0 c0_0 x)(H:qAq.f x=some r):
    Cr 99 #[.slice A0_0 x.length c0_0] W (qAq.Post W F r):=by
 have S:=sT hown
 unfold qAq.f at H
 refine ent 8 rfl rfl rfl (fun a E=>?_)
 rcases A0_0 with _ | ad1
 have hnil:=g0_0.none_nil
 replace H:(some [])=some r:=by simpa [hnil] using H
 refine rr E fun a E=>(sq fun K3 hK3=>rr E fun a E=>(ct E (rr E fun a E=>(wp_ret (qCn ?_)))))
 replace S:=S.nilrow qE.k 40
 obtain rfl:=si H
 exact rt1 E ⟨_,rfl,_,_,_,rfl,S⟩
 refine rr E fun a E=>(sq fun K8 hK8=>rr E fun a E=>(cf E (wp_skip (hK8 _ _ (sq fun K10 hK10=>pl0 (ple E (.lit (d:=qE.k) (e:=40) S ([]:List qE) (.nil)) ?_))))))
 rintro _ u11 a ⟨A12,c13,rfl,S,hg⟩ E
 refine plc E (.r 1 1 .nil) (fun a E=>?_)
 obtain ⟨c15,H⟩:=gd H
 refine ple E (.ap (d:=qE.k) 72 S (g0_0.src S.own.sub) c15 c0_0) ?_
 rintro _ u18 a ⟨A16,c17,rfl,S,hz⟩ E
 refine plc E (.r 3 1 .nil) (fun a E=>pld (hK10 _ _ (wp_ret ?_)))
 obtain rfl:=si H
 exact rt1 E ⟨_,rfl,_,_,_,rfl,S⟩
def qBQ.l16:Nat→List qE→List qE→Int→Option (List qE)
 | 0,_,_,_=>none
 | k+1,t4,l13,x14=>if x14<(t4.length:Int) then (if 0≤x14∧x14<(t4.length:Int) then ((qAf.f ((nth qE.z l13 x14).f6)).bind fun t39=>(qBQ.l16 k t4 (l13.set (x14).toNat (⟨(nth qE.z l13 x14).f0,(nth qE.z l13 x14).f1,(nth qE.z l13 x14).f2,(nth qE.z l13 x14).f3,(nth qE.z l13 x14).f4,(nth qE.z l13 x14).f5,t39⟩:qE)) (w64 (x14+1)))) else (none)) else (some l13)
theorem qBQ.l16_s k t4 l13 x14:type_of% (qBQ.l16.eq_2 t4 l13 x14 k):=qBQ.l16.eq_2 t4 l13 x14 k
def qBQ.f(k:Nat)(x:List qE):Option (List qE):=(qAq.f x).bind fun t4=>(qBQ.l16 k t4 t4 0)
def qBQ.Post(W F:World)(r:List qE)(v:Value)(w':World):Prop:=∃(F':World)(RA0_0:OA)(rc0_0:Nat),v = .slice RA0_0 r.length rc0_0∧Sm W F w' F' [row qE.k 40 (.slice RA0_0 r.length rc0_0) r]
theorem qBQ.calls(k:Nat)(x:List qE)(A0_0:OA)(c0_0:Nat)(r:List qE)(W F:World)(hown:Sub F W)(g0_0:Rd qE.k F A0_0 c0_0 x)(H:qBQ.f k x=some r):
    Cr 98 #[.slice A0_0 x.length c0_0] W (qBQ.Post W F r):=by
 have S:=sT hown
 unfold qBQ.f at H
 refine ent 23 rfl rfl rfl (fun a E=>?_)
 refine rr E fun a E=>(sq fun K2 hK2=>pl0 (plc E (.r 0 1 .nil) (fun a E=>?_)))
 obtain ⟨t4,h5,H⟩:=bd H
 refine ple E (.cl en99 (qAq.calls x _ _ _ _ _ S.own.sub g0_0 h5)) ?_
 rintro _ u3 a ⟨F6,A7,c8,rfl,hC⟩ E
 have hs:=hC.sub
 replace S:=S.called (X:=[]) hC
 replace g0_0:=g0_0.mono hs
 refine plc E (.r 2 1 .nil) (fun a E=>pld (hK2 _ _ (sq fun K11 hK11=>rr E fun a E=>(wp_block ?_))))
 refine wp_loop_ghost (fun kq17 a w'=>∃(G:NV)(l13:List qE)(x14:Int)(F15:World),kq17≤k∧Env 23 G a∧At G [(0,.slice A7 t4.length c8),(7,.slice A7 t4.length c8),(8,iv (t4.length:Int)),(9,iv x14)]∧Sm W F w' F15 [row qE.k 40 (.slice A7 t4.length c8) l13]∧qBQ.l16 kq17 t4 l13 x14=some r) k ⟨_,t4,0,F6,Nat.le_refl _,E,.of,S,H⟩ ?_
 rintro kq17 a u19 ⟨G,l13,x14,F15,hkq,E,A,S,H⟩
 obtain _ | k18:=kq17
 exact zz H
 rw [qBQ.l16_s]at H
 obtain ⟨J,E⟩:=E.at A
 refine rr E fun a E=>(sq fun K21 hK21=>E.ik 10 H (fun c22 E H=>?_) fun c22 E H=>?_)
 refine wp_skip (hK21 _ _ (sq fun K23 hK23=>wp_block (sq fun K24 hK24=>pl0 ?_)))
 obtain ⟨c25,H⟩:=gd H
 have hr26:=S.ra 0
 have c27:0≤x14∧x14<(l13.length:Int):=by rw [← (qCr hr26).1]; exact c25
 have hE_:=E
 obtain ⟨b28,rfl⟩:=qCv hr26 c27.1 c27.2
 replace E:=hE_
 have hr_:=S.ra 0
 obtain ⟨cs30,⟨A32,c33,rfl,g34⟩,hc31⟩:=qCs hr_ qE.z x14 c27.1 c27.2
 refine plc E (.r 0 1<|.x 1 c25<|.cs 2 hc31<|.nil) (fun a E=>pla (t:=40) E S [iv 0,iv 0,iv 0,iv 0,iv 0,iv 0,.slice none 0 0] fun b35 u36 hb35 S a E=>plc E (.r 4 1 .nil) (fun a E=>pls E S [iv ((nth qE.z l13 x14).f0),iv ((nth qE.z l13 x14).f1),iv ((nth qE.z l13 x14).f2),iv ((nth qE.z l13 x14).f3),iv ((nth qE.z l13 x14).f4),iv ((nth qE.z l13 x14).f5),.slice A32 (((nth qE.z l13 x14).f6).length) c33] fun u37 hb35 S a E=>pld (hK24 _ _ (pl0 (plc E (.r 0 3<|.b 3 6 hb35<|.nil) (fun a E=>?_))))))
 obtain ⟨t39,h40,H⟩:=bd H
 refine ple E (.cl en112 (qAf.calls ((nth qE.z l13 x14).f6) _ _ _ _ _ S.own.sub g34 h40)) ?_
 rintro _ u38 a ⟨F41,A42,c43,rfl,hC⟩ E
 have hs:=hC.sub
 replace S:=S.called (X:=[]) hC
 replace g34:=g34.mono hs
 have hr46:=S.ra 2
 have c47:0≤x14∧x14<(l13.length:Int):=by rw [← (qCr hr46).1]; exact c25
 have hr_:=S.ra 2
 obtain ⟨cs49,⟨A51,c52,rfl,g53⟩,hc50⟩:=qCs hr_ qE.z x14 c47.1 c47.2
 refine plc E (.x 5 c25<|.r 6 1<|.nil) (fun a E=>?_)
 obtain ⟨F55,hs,g56,S⟩:=S.give
 replace g34:=g34.mono hs
 replace S:=S.front 1 rfl
 obtain ⟨cs60,⟨A57,c58,rfl,g59⟩,hc61⟩:=qCs (S.row_at (i:=0) rfl) qE.z x14 c47.1 c47.2
 refine ple E (.set (d:=qE.k) (n:=t4.length) (i:=x14) (⟨(nth qE.z l13 x14).f0,(nth qE.z l13 x14).f1,(nth qE.z l13 x14).f2,(nth qE.z l13 x14).f3,(nth qE.z l13 x14).f4,(nth qE.z l13 x14).f5,t39⟩:qE) 6 (ea1 _ _ _) S c47 [iv ((nth qE.z l13 x14).f0),iv ((nth qE.z l13 x14).f1),iv ((nth qE.z l13 x14).f2),iv ((nth qE.z l13 x14).f3),iv ((nth qE.z l13 x14).f4),iv ((nth qE.z l13 x14).f5),.slice A57 (((nth qE.z l13 x14).f6).length) c58] hc61 [iv ((nth qE.z l13 x14).f0),iv ((nth qE.z l13 x14).f1),iv ((nth qE.z l13 x14).f2),iv ((nth qE.z l13 x14).f3),iv ((nth qE.z l13 x14).f4),iv ((nth qE.z l13 x14).f5),.slice A42 t39.length c43] ⟨_,_,rfl,g56⟩) ?_
 rintro _ u54 a ⟨rfl,S,hz⟩ E
 refine pld ?_
 refine qCp ?_
 refine hK23 _ _ (pl0 (plc E (.r 0 2 .nil) (fun a E=>pld ?_)))
 replace S:=S.pm [0] 2
 exact qCq ⟨k18,by omega,_,(l13.set (x14).toNat (⟨(nth qE.z l13 x14).f0,(nth qE.z l13 x14).f1,(nth qE.z l13 x14).f2,(nth qE.z l13 x14).f3,(nth qE.z l13 x14).f4,(nth qE.z l13 x14).f5,t39⟩:qE)),(w64 (x14+1)),F55,by omega,E,.of,S,H⟩
 refine wp_exit ?_
 refine hK11 _ _ (rr E fun a E=>(wp_ret ?_))
 have hn63:=(qCr (S.row_at (i:=0) rfl)).1
 replace E:=E.set (d:=2) (v:=.slice A7 l13.length c8) (Eq.trans (b:=.slice A7 t4.length c8) (by kernel_rfl) (by rw [← hn63]))
 replace S:Sm W F u19 F15 [row qE.k 40 (.slice A7 l13.length c8) l13]:=by rw [← hn63]; exact S
 obtain rfl:=si H
 exact rt1 E ⟨_,rfl,_,_,_,rfl,S⟩
def qBV.j24:Nat→qp→Int→Bool→Option ((List qE) × Bool)
 | 0,_,_,_=>none
 | k+1,x,y,y23=>if y23=true then (some ([],false)) else (if 0≤(if (w64 (y - x.f0.f0))<(x.f1.length:Int) then (w64 (y - x.f0.f0)) else (x.f1.length:Int))∧(if (w64 (y - x.f0.f0))<(x.f1.length:Int) then (w64 (y - x.f0.f0)) else (x.f1.length:Int))≤(x.f1.length:Int) then ((qBQ.f k (cutl x.f1 (if (w64 (y - x.f0.f0))<(x.f1.length:Int) then (w64 (y - x.f0.f0)) else (x.f1.length:Int)) (x.f1.length:Int))).bind fun t39=>(some (t39,true))) else (none))
theorem qBV.j24_s k x y y23:type_of% (qBV.j24.eq_2 x y y23 k):=qBV.j24.eq_2 x y y23 k
def qBV.f(k:Nat)(x:qp)(y:Int):Option ((List qE) × Bool):=(qBN.f k x).bind fun t7=>(if t7=0 then (if y<x.f0.f0 then (qBV.j24 k x y true) else ((qCD.f k x).bind fun t12=>(qBV.j24 k x y (decide (y>t12.f0))))) else (qBV.j24 k x y true))
def qBV.Post(W F:World)(r:(List qE) × Bool)(v:Value)(w':World):Prop:=∃(F':World)(RA0_0:OA)(rc0_0:Nat),v = .tuple #[.slice RA0_0 r.1.length rc0_0,.bool r.2]∧Sm W F w' F' [row qE.k 40 (.slice RA0_0 r.1.length rc0_0) r.1]
theorem qBV.calls(k:Nat)(x:qp)(y:Int)(A0_4:OA)(c0_4:Nat)(A0_5:OA)(c0_5:Nat)(A0_6:OA)(c0_6:Nat)(A0_7:OA)(c0_7:Nat)(r:(List qE) × Bool)(W F:World)(hown:Sub F W)(g0_4:Rd qA.k F A0_4 c0_4 x.f0.f4)(g0_5:Rd qD.k F A0_5 c0_5 x.f0.f5)(g0_6:Rd qC.k F A0_6 c0_6 x.f0.f6)(g0_7:Rd qE.k F A0_7 c0_7 x.f1)(H:qBV.f k x y=some r):
    Cr 41 #[.agg #[iv x.f0.f0,iv x.f0.f1,iv x.f0.f2,iv x.f0.f3,.slice A0_4 x.f0.f4.length c0_4,.slice A0_5 x.f0.f5.length c0_5,.slice A0_6 x.f0.f6.length c0_6,.slice A0_7 x.f1.length c0_7],iv y] W (qBV.Post W F r):=by
 have S:=sT hown
 unfold qBV.f at H
 refine ent 36 rfl rfl rfl (fun a E=>?_)
 refine sq fun K1 hK1=>pl0 (plx (t:=59) E S [iv x.f0.f0,iv x.f0.f1,iv x.f0.f2,iv x.f0.f3,.slice A0_4 x.f0.f4.length c0_4,.slice A0_5 x.f0.f5.length c0_5,.slice A0_6 x.f0.f6.length c0_6,.slice A0_7 x.f1.length c0_7] fun b2 u3 hb2 S a E=>plc E (.r 1 2 .nil) (fun a E=>pld (hK1 _ _ (sq fun K4 hK4=>sq fun K5 hK5=>?_))))
 have J27:∀ kq25,kq25≤k→∀(G:NV)(y23:Bool)(a:Act)(w':World),Env 36 G a→At G [(1,iv y),(2,.pointer (pb b2)),(22,.bool y23)]→Sm W F w' F [box b2 #[iv x.f0.f0,iv x.f0.f1,iv x.f0.f2,iv x.f0.f3,.slice A0_4 x.f0.f4.length c0_4,.slice A0_5 x.f0.f5.length c0_5,.slice A0_6 x.f0.f6.length c0_6,.slice A0_7 x.f1.length c0_7] 59]→qBV.j24 kq25 x y y23=some r→K5 a w':=by
  intro kq25 hkq G y23 a u28 E A S H
  obtain _ | k26:=kq25
  exact zz H
  rw [qBV.j24_s]at H
  obtain ⟨J,E⟩:=E.at A
  refine hK5 _ _ (E.ib 22 H (fun c29 E H=>?_) fun c29 E H=>?_)
  refine rr E fun a E=>(wp_ret (qCn ?_))
  replace S:=S.nilrow qE.k 40
  replace S:=S.pm [0] 2
  obtain rfl:=si H
  exact rtN E ⟨_,rfl,_,_,_,rfl,S⟩
  refine wp_skip (hK4 _ _ (sq fun K32 hK32=>pl0 ?_))
  have hb2:=S.ba 0
  obtain ⟨c33,H⟩:=gd H
  obtain ⟨A34,c35,g36,hv37⟩:=qEN (P:=Tryz.prog) g0_7 ⟨c33.1,c33.2,Int.le_refl _⟩ sz40
  refine plc E (.r 0 1<|.b 1 7 hb2<|.r 2 1<|.b 3 7 hb2<|.r 4 4<|.b 8 0 hb2<|.r 9 2<|.y 11 (hv37 (by kernel_rfl))<|.nil) (fun a E=>?_)
  obtain ⟨t39,h40,H⟩:=bd H
  refine ple E (.cl en98 (qBQ.calls k26 (cutl x.f1 (if (w64 (y - x.f0.f0))<(x.f1.length:Int) then (w64 (y - x.f0.f0)) else (x.f1.length:Int)) (x.f1.length:Int)) _ _ _ _ _ S.own.sub g36 h40)) ?_
  rintro _ u38 a ⟨F41,A42,c43,rfl,hC⟩ E
  have hs:=hC.sub
  replace S:=S.called (X:=[]) hC
  replace g0_7:=g0_7.mono hs
  replace g36:=g36.mono hs
  replace g0_4:=g0_4.mono hs
  replace g0_5:=g0_5.mono hs
  replace g0_6:=g0_6.mono hs
  refine plc E (.r 13 2 .nil) (fun a E=>pld (hK32 _ _ (wp_ret ?_)))
  replace S:=S.pm [0] 2
  obtain rfl:=si H
  exact rtN E ⟨_,rfl,_,_,_,rfl,S⟩
 refine pl0 (plc E (.bn 0 0 8 hb2 .nil) (fun a E=>?_))
 obtain ⟨t7,h8,H⟩:=bd H
 refine plq E S en95 (qBN.calls k x _ _ _ _ _ _ _ _ _ _ _ S.own.sub g0_4 g0_5 g0_6 g0_7 h8) fun u6 S a E=>plc E (.r 2 2 .nil) (fun a E=>E.fkn 9 H (fun c9 E H=>?_) fun c9 E H=>?_)
 have hb2:=S.ba 0
 refine plc E (.r 4 3<|.b 7 0 hb2<|.r 8 3<|.nil) (fun a E=>E.fk 16 H (fun c10 E H=>?_) fun c10 E H=>?_)
 refine plc E (.r 11 6 .nil) (fun a E=>pld ?_)
 exact J27 _ (by omega) _ true _ _ E .of S H
 refine plc E (.r 11 1<|.bn 12 0 8 hb2<|.nil) (fun a E=>?_)
 obtain ⟨t12,h13,H⟩:=bd H
 refine ple E (.cl en39 (qCD.calls k x _ _ _ _ _ _ _ _ _ _ _ S.own.sub g0_4 g0_5 g0_6 g0_7 h13)) ?_
 rintro _ u11 a ⟨_,A14,c15,A17,c18,A20,c21,rfl,hC,g16,g19⟩ E
 replace S:=S.lent hC
 refine plc E (.r 14 3 .nil) (fun a E=>pld ?_)
 exact J27 _ (by omega) _ (decide (y>t12.f0)) _ _ E .of S H
 refine plc E (.r 4 13 .nil) (fun a E=>pld ?_)
 exact J27 _ (by omega) _ true _ _ E .of S H
mutual
def qu.l5:Nat→List qA→Int→Option Bool
 | 0,_,_=>none
 | k+1,x,x4=>if x4<(x.length:Int) then (if 0≤x4∧x4<(x.length:Int) then (if (nth qA.z x x4).f0<1 then (qu.j37 k x x4 true) else (if (nth qA.z x x4).f0>999 then (qu.j37 k x x4 true) else (if (nth qA.z x x4).f1<1 then (qu.j37 k x x4 true) else (if (nth qA.z x x4).f1>9 then (qu.j37 k x x4 true) else (if (nth qA.z x x4).f2<1 then (qu.j37 k x x4 true) else (if (nth qA.z x x4).f2>9 then (qu.j37 k x x4 true) else (if (nth qA.z x x4).f3<0 then (qu.j37 k x x4 true) else (if (nth qA.z x x4).f3>65536 then (qu.j37 k x x4 true) else (if x4>0 then (if 0≤(w64 (x4 - 1))∧(w64 (x4 - 1))<(x.length:Int) then (qu.j37 k x x4 (decide ((nth qA.z x (w64 (x4 - 1))).f0≥(nth qA.z x x4).f0))) else (none)) else (qu.j37 k x x4 false)))))))))) else (none)) else (some (decide ((x.length:Int)≤12)))
def qu.j37:Nat→List qA→Int→Bool→Option Bool
 | 0,_,_,_=>none
 | k+1,x,x4,y36=>if y36=true then (some false) else (qu.l5 k x (w64 (x4+1)))
end
theorem qu.l5_s k x x4:type_of% (qu.l5.eq_2 x x4 k):=qu.l5.eq_2 x x4 k
theorem qu.j37_s k x x4 y36:type_of% (qu.j37.eq_2 x x4 y36 k):=qu.j37.eq_2 x x4 y36 k
def qu.f(k:Nat)(x:List qA):Option Bool:=qu.l5 k x 0
def qu.Post(W F:World)(r:Bool)(v:Value)(w':World):Prop:=∃(F':World),v = .bool r∧Sm W F w' F' []
theorem qu.calls(k:Nat)(x:List qA)(A0_0:OA)(c0_0:Nat)(r:Bool)(W F:World)(hown:Sub F W)(g0_0:Rd qA.k F A0_0 c0_0 x)(H:qu.f k x=some r):
    Cr 67 #[.slice A0_0 x.length c0_0] W (qu.Post W F r):=by
 have S:=sT hown
 unfold qu.f at H
 refine ent 71 rfl rfl rfl (fun a E=>?_)
 refine rr E fun a E=>(sq fun K2 hK2=>rr E fun a E=>(wp_block ?_))
 refine wp_loop_ghost (fun kq6 a w'=>∃(G:NV)(x4:Int),kq6≤k∧Env 71 G a∧At G [(0,.slice A0_0 x.length c0_0),(3,iv x4)]∧Sm W F w' F []∧qu.l5 kq6 x x4=some r) k ⟨_,0,Nat.le_refl _,E,.of,S,H⟩ ?_
 rintro kq6 a u8 ⟨G,x4,hkq,E,A,S,H⟩
 obtain _ | k7:=kq6
 exact zz H
 rw [qu.l5_s]at H
 obtain ⟨J,E⟩:=E.at A
 refine sq fun K9 hK9=>rr E fun a E=>(E.ik 8 H (fun c11 E H=>?_) fun c11 E H=>?_)
 refine wp_skip (hK9 _ _ (sq fun K12 hK12=>wp_block (sq fun K13 hK13=>pl0 ?_)))
 obtain ⟨c14,H⟩:=gd H
 have hE_:=E
 obtain ⟨ad15,rfl⟩:=g0_0.addr c14.1 c14.2
 replace E:=hE_
 obtain ⟨cs17,rfl,hc18⟩:=g0_0.el qA.z x4 c14.1 c14.2
 refine plc E (.r 0 2<|.x 2 c14<|.cs 3 (S.fcs hc18)<|.nil) (fun a E=>pla (t:=104) E S [iv 0,iv 0,iv 0,iv 0,.bool false,.bool false] fun b19 u20 hb19 S a E=>pls E S [iv ((nth qA.z x x4).f0),iv ((nth qA.z x x4).f1),iv ((nth qA.z x x4).f2),iv ((nth qA.z x x4).f3),.bool ((nth qA.z x x4).f4),.bool ((nth qA.z x x4).f5)] fun u21 hb19 S a E=>pld (hK13 _ _ (sq fun K22 hK22=>?_)))
 have J40:∀ kq38,kq38≤k7→∀(G:NV)(y36:Bool)(a:Act)(w':World),Env 71 G a→At G [(0,.slice (some ad15) x.length c0_0),(3,iv x4),(67,.bool y36)]→Sm W F w' F [box b19 #[iv ((nth qA.z x x4).f0),iv ((nth qA.z x x4).f1),iv ((nth qA.z x x4).f2),iv ((nth qA.z x x4).f3),.bool ((nth qA.z x x4).f4),.bool ((nth qA.z x x4).f5)] 104]→qu.j37 kq38 x x4 y36=some r→K22 a w':=by
  intro kq38 hkq G y36 a u41 E A S H
  obtain _ | k39:=kq38
  exact zz H
  rw [qu.j37_s]at H
  obtain ⟨J,E⟩:=E.at A
  refine hK22 _ _ (E.ib 67 H (fun c42 E H=>?_) fun c42 E H=>?_)
  refine rr E fun a E=>(wp_ret (qCo (qCn (qCn (qCo (qCn ?_))))))
  replace S:=S.tail
  obtain rfl:=si H
  exact rt1 E ⟨_,rfl,_,rfl,S⟩
  refine wp_skip ?_
  refine qCp ?_
  refine hK12 _ _ (pl0 (plc E (.r 0 3 .nil) (fun a E=>pld ?_)))
  replace S:=S.tail
  exact qCq ⟨k39,by omega,_,(w64 (x4+1)),by omega,E,.of,S,H⟩
 refine drawn 53 ⟨[],[],fun q=>False⟩ mixed rfl (by kernel_rfl) (fun hst=>?_)
 replace S:=S.drew
 have hb19:=S.ba 0
 refine mny 49 hst E (.r 0 1<|.b 1 0 hb19<|.r 2 2<|.nil) (fun a E=>?_)
 refine E.fk 18 H (fun c23 E H=>?_) fun c23 E H=>?_
 refine mny 0 hst E (.r 4 49 .nil) (fun a E=>?_)
 refine dn ?_
 exact J40 _ (by omega) _ true _ _ E .of S H
 refine mny 44 hst E (.r 4 1<|.b 5 0 hb19<|.r 6 3<|.nil) (fun a E=>?_)
 refine E.fk 23 H (fun c24 E H=>?_) fun c24 E H=>?_
 refine mny 0 hst E (.r 9 44 .nil) (fun a E=>?_)
 refine dn ?_
 exact J40 _ (by omega) _ true _ _ E .of S H
 refine mny 39 hst E (.r 9 1<|.b 10 1 hb19<|.r 11 3<|.nil) (fun a E=>?_)
 refine E.fk 28 H (fun c25 E H=>?_) fun c25 E H=>?_
 refine mny 0 hst E (.r 14 39 .nil) (fun a E=>?_)
 refine dn ?_
 exact J40 _ (by omega) _ true _ _ E .of S H
 refine mny 34 hst E (.r 14 1<|.b 15 1 hb19<|.r 16 3<|.nil) (fun a E=>?_)
 refine E.fk 33 H (fun c26 E H=>?_) fun c26 E H=>?_
 refine mny 0 hst E (.r 19 34 .nil) (fun a E=>?_)
 refine dn ?_
 exact J40 _ (by omega) _ true _ _ E .of S H
 refine mny 29 hst E (.r 19 1<|.b 20 2 hb19<|.r 21 3<|.nil) (fun a E=>?_)
 refine E.fk 38 H (fun c27 E H=>?_) fun c27 E H=>?_
 refine mny 0 hst E (.r 24 29 .nil) (fun a E=>?_)
 refine dn ?_
 exact J40 _ (by omega) _ true _ _ E .of S H
 refine mny 24 hst E (.r 24 1<|.b 25 2 hb19<|.r 26 3<|.nil) (fun a E=>?_)
 refine E.fk 43 H (fun c28 E H=>?_) fun c28 E H=>?_
 refine mny 0 hst E (.r 29 24 .nil) (fun a E=>?_)
 refine dn ?_
 exact J40 _ (by omega) _ true _ _ E .of S H
 refine mny 19 hst E (.r 29 1<|.b 30 3 hb19<|.r 31 3<|.nil) (fun a E=>?_)
 refine E.fk 48 H (fun c29 E H=>?_) fun c29 E H=>?_
 refine mny 0 hst E (.r 34 19 .nil) (fun a E=>?_)
 refine dn ?_
 exact J40 _ (by omega) _ true _ _ E .of S H
 refine mny 14 hst E (.r 34 1<|.b 35 3 hb19<|.r 36 3<|.nil) (fun a E=>?_)
 refine E.fk 53 H (fun c30 E H=>?_) fun c30 E H=>?_
 refine mny 0 hst E (.r 39 14 .nil) (fun a E=>?_)
 refine dn ?_
 exact J40 _ (by omega) _ true _ _ E .of S H
 refine mny 11 hst E (.r 39 3 .nil) (fun a E=>?_)
 refine E.fk 56 H (fun c31 E H=>?_) fun c31 E H=>?_
 obtain ⟨c32,H⟩:=gd H
 obtain ⟨cs34,rfl,hc35⟩:=g0_0.el qA.z (w64 (x4 - 1)) c32.1 c32.2
 refine mny 0 hst E (.r 42 3<|.x 45 c32<|.r 46 1<|.c 47 (S.fc hc35 0)<|.r 48 1<|.b 49 0 hb19<|.r 50 3<|.nil) (fun a E=>?_)
 refine dn ?_
 exact J40 _ (by omega) _ (decide ((nth qA.z x (w64 (x4 - 1))).f0≥(nth qA.z x x4).f0)) _ _ E .of S H
 refine mny 0 hst E (.r 42 11 .nil) (fun a E=>?_)
 refine dn ?_
 exact J40 _ (by omega) _ false _ _ E .of S H
 refine wp_exit ?_
 refine hK2 _ _ (rr E fun a E=>(wp_ret ?_))
 obtain rfl:=si H
 exact rt1 E ⟨_,rfl,_,rfl,S⟩
def qAQ.l7:Nat→List qA→Int→Int→Option (qA × Bool)
 | 0,_,_,_=>none
 | k+1,x,y,x6=>if x6<(x.length:Int) then (if 0≤x6∧x6<(x.length:Int) then (if (nth qA.z x x6).f0=y then (some ((nth qA.z x x6),true)) else (qAQ.l7 k x y (w64 (x6+1)))) else (none)) else (some ((⟨0,0,0,0,false,false⟩:qA),false))
theorem qAQ.l7_s k x y x6:type_of% (qAQ.l7.eq_2 x y x6 k):=qAQ.l7.eq_2 x y x6 k
def qAQ.f(k:Nat)(x:List qA)(y:Int):Option (qA × Bool):=qAQ.l7 k x y 0
def qAQ.Post(W F:World)(r:qA × Bool)(v:Value)(w':World):Prop:=∃(F':World),v = .tuple #[.agg #[iv r.1.f0,iv r.1.f1,iv r.1.f2,iv r.1.f3,.bool r.1.f4,.bool r.1.f5],.bool r.2]∧Sm W F w' F' []
theorem qAQ.calls(k:Nat)(x:List qA)(y:Int)(A0_0:OA)(c0_0:Nat)(r:qA × Bool)(W F:World)(hown:Sub F W)(g0_0:Rd qA.k F A0_0 c0_0 x)(H:qAQ.f k x y=some r):
    Cr 75 #[.slice A0_0 x.length c0_0,iv y] W (qAQ.Post W F r):=by
 have S:=sT hown
 unfold qAQ.f at H
 refine ent 25 rfl rfl rfl (fun a E=>?_)
 refine sq fun K1 hK1=>pl0 (pla (t:=104) E S [iv 0,iv 0,iv 0,iv 0,.bool false,.bool false] fun b2 u3 hb2 S a E=>plc E (.r 1 1 .nil) (fun a E=>pld (hK1 _ _ (sq fun K4 hK4=>rr E fun a E=>(wp_block ?_)))))
 refine wp_loop_ghost (fun kq8 a w'=>∃(G:NV)(x6:Int),kq8≤k∧Env 25 G a∧At G [(0,.slice A0_0 x.length c0_0),(1,iv y),(4,.pointer (pb b2)),(6,iv x6)]∧Sm W F w' F [box b2 #[iv 0,iv 0,iv 0,iv 0,.bool false,.bool false] 104]∧qAQ.l7 kq8 x y x6=some r) k ⟨_,0,Nat.le_refl _,E,.of,S,H⟩ ?_
 rintro kq8 a u10 ⟨G,x6,hkq,E,A,S,H⟩
 obtain _ | k9:=kq8
 exact zz H
 rw [qAQ.l7_s]at H
 obtain ⟨J,E⟩:=E.at A
 refine sq fun K11 hK11=>rr E fun a E=>(E.ik 10 H (fun c13 E H=>?_) fun c13 E H=>?_)
 refine wp_skip (hK11 _ _ (sq fun K14 hK14=>wp_block (sq fun K15 hK15=>pl0 ?_)))
 obtain ⟨c16,H⟩:=gd H
 have hE_:=E
 obtain ⟨ad17,rfl⟩:=g0_0.addr c16.1 c16.2
 replace E:=hE_
 obtain ⟨cs19,rfl,hc20⟩:=g0_0.el qA.z x6 c16.1 c16.2
 refine plc E (.r 0 2<|.x 2 c16<|.r 3 1<|.c 4 (S.fc hc20 0)<|.r 5 2<|.nil) (fun a E=>pld (hK15 _ _ (E.ik 19 H (fun c21 E H=>?_) fun c21 E H=>?_)))
 refine sq fun K22 hK22=>pl0 (plc E (.r 0 2<|.x 2 c16<|.cs 3 (S.fcs hc20)<|.nil) (fun a E=>pls E S [iv ((nth qA.z x x6).f0),iv ((nth qA.z x x6).f1),iv ((nth qA.z x x6).f2),iv ((nth qA.z x x6).f3),.bool ((nth qA.z x x6).f4),.bool ((nth qA.z x x6).f5)] fun u26 hb2 S a E=>plc E (.r 5 1 .nil) (fun a E=>pld (hK22 _ _ (wp_ret (qCo (qCn (qCn (qCo (qCn ?_))))))))))
 replace S:=S.tail
 obtain rfl:=si H
 exact rtm E (.b hb2 ag104 sz104 (.t .nil)) ⟨_,rfl,_,rfl,S⟩
 refine wp_skip ?_
 refine qCp ?_
 refine hK14 _ _ (pl0 (plc E (.r 0 3 .nil) (fun a E=>pld ?_)))
 exact qCq ⟨k9,by omega,_,(w64 (x6+1)),by omega,E,.of,S,H⟩
 refine wp_exit ?_
 refine hK4 _ _ (sq fun K27 hK27=>pl0 (plc E (.r 0 1 .nil) (fun a E=>pls E S [iv 0,iv 0,iv 0,iv 0,.bool false,.bool false] fun u28 hb2 S a E=>plc E (.r 2 1 .nil) (fun a E=>pld (hK27 _ _ (wp_ret ?_))))))
 replace S:=S.tail
 obtain rfl:=si H
 exact rtm E (.b hb2 ag104 sz104 (.t .nil)) ⟨_,rfl,_,rfl,S⟩
mutual
def qw.l5:Nat→List qA→List Int→Int→Option Bool
 | 0,_,_,_=>none
 | k+1,x,y,x4=>if x4<(y.length:Int) then (if 0≤x4∧x4<(y.length:Int) then ((qAQ.f k x (nth 0 y x4)).bind fun t20=>(if t20.2=true then (qw.l31 k x y x4 t20 0) else (some false))) else (none)) else (some true)
def qw.l31:Nat→List qA→List Int→Int→qA × Bool→Int→Option Bool
 | 0,_,_,_,_,_=>none
 | k+1,x,y,x4,t20,x30=>if x30<x4 then (if 0≤x30∧x30<(y.length:Int) then ((qAQ.f k x (nth 0 y x30)).bind fun t45=>(if t20.1.f1=t45.1.f1 then (some false) else (qw.l31 k x y x4 t20 (w64 (x30+1))))) else (none)) else (qw.l5 k x y (w64 (x4+1)))
end
theorem qw.l5_s k x y x4:type_of% (qw.l5.eq_2 x y x4 k):=qw.l5.eq_2 x y x4 k
theorem qw.l31_s k x y x4 t20 x30:type_of% (qw.l31.eq_2 x y x4 t20 x30 k):=qw.l31.eq_2 x y x4 t20 x30 k
def qw.f(k:Nat)(x:List qA)(y:List Int):Option Bool:=qw.l5 k x y 0
def qw.Post(W F:World)(r:Bool)(v:Value)(w':World):Prop:=∃(F':World),v = .bool r∧Sm W F w' F' []
theorem qw.calls(k:Nat)(x:List qA)(y:List Int)(A0_0:OA)(c0_0:Nat)(A1_0:OA)(c1_0:Nat)(r:Bool)(W F:World)(hown:Sub F W)(g0_0:Rd qA.k F A0_0 c0_0 x)(g1_0:Rd ki F A1_0 c1_0 y)(H:qw.f k x y=some r):
    Cr 68 #[.slice A0_0 x.length c0_0,.slice A1_0 y.length c1_0] W (qw.Post W F r):=by
 have S:=sT hown
 unfold qw.f at H
 refine ent 47 rfl rfl rfl (fun a E=>?_)
 refine rr E fun a E=>(sq fun K2 hK2=>rr E fun a E=>(wp_block ?_))
 refine wp_loop_ghost (fun kq6 a w'=>∃(G:NV)(x4:Int),kq6≤k∧Env 47 G a∧At G [(0,.slice A0_0 x.length c0_0),(1,.slice A1_0 y.length c1_0),(5,iv x4)]∧Sm W F w' F []∧qw.l5 kq6 x y x4=some r) k ⟨_,0,Nat.le_refl _,E,.of,S,H⟩ ?_
 rintro kq6 a u8 ⟨G,x4,hkq,E,A,S,H⟩
 obtain _ | k7:=kq6
 exact zz H
 rw [qw.l5_s]at H
 obtain ⟨J,E⟩:=E.at A
 refine sq fun K9 hK9=>rr E fun a E=>(E.ik 14 H (fun c11 E H=>?_) fun c11 E H=>?_)
 refine wp_skip (hK9 _ _ (sq fun K12 hK12=>wp_block (sq fun K13 hK13=>pl0 ?_)))
 obtain ⟨c14,H⟩:=gd H
 have hE_:=E
 obtain ⟨ad15,rfl⟩:=g1_0.addr c14.1 c14.2
 replace E:=hE_
 obtain ⟨cs17,rfl,hc18⟩:=g1_0.el 0 x4 c14.1 c14.2
 refine plc E (.r 0 3<|.x 3 c14<|.c 4 (S.fc hc18 0)<|.nil) (fun a E=>?_)
 obtain ⟨t20,h21,H⟩:=bd H
 refine plq E S en75 (qAQ.calls k7 x (nth 0 y x4) _ _ _ _ _ S.own.sub g0_0 h21) fun u19 S a E=>plc E (.r 6 3 .nil) (fun a E=>pla (t:=104) E S [iv 0,iv 0,iv 0,iv 0,.bool false,.bool false] fun b22 u23 hb22 S a E=>pls E S [iv t20.1.f0,iv t20.1.f1,iv t20.1.f2,iv t20.1.f3,.bool t20.1.f4,.bool t20.1.f5] fun u24 hb22 S a E=>plc E (.r 11 1 .nil) (fun a E=>pld (hK13 _ _ (sq fun K25 hK25=>rr E fun a E=>(E.ibn 27 H (fun c27 E H=>?_) fun c27 E H=>?_)))))
 refine wp_skip (hK25 _ _ (rr E fun a E=>(wp_block ?_)))
 refine wp_loop_ghost (fun kq32 a w'=>∃(G:NV)(x30:Int),kq32≤k7∧Env 47 G a∧At G [(0,.slice A0_0 x.length c0_0),(1,.slice (some ad15) y.length c1_0),(5,iv x4),(6,.pointer (pb b22)),(8,iv x30)]∧Sm W F w' F [box b22 #[iv t20.1.f0,iv t20.1.f1,iv t20.1.f2,iv t20.1.f3,.bool t20.1.f4,.bool t20.1.f5] 104]∧qw.l31 kq32 x y x4 t20 x30=some r) k7 ⟨_,0,Nat.le_refl _,E,.of,S,H⟩ ?_
 rintro kq32 a u34 ⟨G,x30,hkq,E,A,S,H⟩
 obtain _ | k33:=kq32
 exact zz H
 rw [qw.l31_s]at H
 obtain ⟨J,E⟩:=E.at A
 refine sq fun K35 hK35=>rr E fun a E=>(E.ik 30 H (fun c37 E H=>?_) fun c37 E H=>?_)
 refine wp_skip (hK35 _ _ (sq fun K38 hK38=>wp_block (sq fun K39 hK39=>pl0 ?_)))
 obtain ⟨c40,H⟩:=gd H
 obtain ⟨cs42,rfl,hc43⟩:=g1_0.el 0 x30 c40.1 c40.2
 refine plc E (.r 0 3<|.x 3 c40<|.c 4 (S.fc hc43 0)<|.nil) (fun a E=>?_)
 obtain ⟨t45,h46,H⟩:=bd H
 refine plq E S en75 (qAQ.calls k33 x (nth 0 y x30) _ _ _ _ _ S.own.sub g0_0 h46) fun u44 S a E=>plc E (.r 6 3 .nil) (fun a E=>pla (t:=104) E S [iv 0,iv 0,iv 0,iv 0,.bool false,.bool false] fun b47 u48 hb47 S a E=>pls E S [iv t45.1.f0,iv t45.1.f1,iv t45.1.f2,iv t45.1.f3,.bool t45.1.f4,.bool t45.1.f5] fun u49 hb47 S a E=>plc E (.r 11 1 .nil) (fun a E=>pld (hK39 _ _ (rg E (.r 0 1<|.b 1 1 (S.ba 1)<|.r 2 1<|.b 3 1 hb47<|.r 4 1<|.nil) fun a E=>(E.ik 46 H (fun c51 E H=>?_) fun c51 E H=>?_)))))
 refine rr E fun a E=>(wp_ret (qCo (qCn (qCn (qCo (qCo (qCn (qCn (qCo (qCn ?_))))))))))
 replace S:=S.pm [] 2
 obtain rfl:=si H
 exact rt1 E ⟨_,rfl,_,rfl,S⟩
 refine wp_skip ?_
 refine qCp ?_
 refine hK38 _ _ (pl0 (plc E (.r 0 3 .nil) (fun a E=>pld ?_)))
 replace S:=S.tail
 exact qCq ⟨k33,by omega,_,(w64 (x30+1)),by omega,E,.of,S,H⟩
 refine wp_exit ?_
 refine hK12 _ _ (pl0 (plc E (.r 0 3 .nil) (fun a E=>pld ?_)))
 replace S:=S.tail
 exact qCq ⟨k33,by omega,_,(w64 (x4+1)),by omega,E,.of,S,H⟩
 refine rr E fun a E=>(wp_ret (qCn (qCo (qCn (qCn (qCo (qCn ?_)))))))
 replace S:=S.tail
 obtain rfl:=si H
 exact rt1 E ⟨_,rfl,_,rfl,S⟩
 refine wp_exit ?_
 refine hK2 _ _ (rr E fun a E=>(wp_ret ?_))
 obtain rfl:=si H
 exact rt1 E ⟨_,rfl,_,rfl,S⟩
mutual
def qK.l7:Nat→qF→Int→Option Bool
 | 0,_,_=>none
 | k+1,x,x6=>if x6<(x.f6.length:Int) then (if 0≤x6∧x6<(x.f6.length:Int) then (if (nth qC.z x.f6 x6).f0<0 then (qK.j31 k x x6 true) else (qK.j31 k x x6 (decide ((nth qC.z x.f6 x6).f0>x.f0)))) else (none)) else (some ((x.f6.length:Int) == x.f3))
def qK.j31:Nat→qF→Int→Bool→Option Bool
 | 0,_,_,_=>none
 | k+1,x,x6,y30=>if y30=true then (some false) else (qK.l40 k x x6 0)
def qK.l40:Nat→qF→Int→Int→Option Bool
 | 0,_,_,_=>none
 | k+1,x,x6,x39=>if x39<(((nth qC.z x.f6 x6).f1).length:Int) then (if 0≤x39∧x39<(((nth qC.z x.f6 x6).f1).length:Int) then (if (nth qG.z ((nth qC.z x.f6 x6).f1) x39).f0<0 then (qK.j66 k x x6 x39 true) else (if (nth qG.z ((nth qC.z x.f6 x6).f1) x39).f0≥(nth qC.z x.f6 x6).f0 then (qK.j66 k x x6 x39 true) else (if (((nth qG.z ((nth qC.z x.f6 x6).f1) x39).f1).length:Int)<x.f2 then (qK.j66 k x x6 x39 true) else (qK.j66 k x x6 x39 (decide ((((nth qG.z ((nth qC.z x.f6 x6).f1) x39).f1).length:Int)>x.f1)))))) else (none)) else (qK.l7 k x (w64 (x6+1)))
def qK.j66:Nat→qF→Int→Int→Bool→Option Bool
 | 0,_,_,_,_=>none
 | k+1,x,x6,x39,y65=>if y65=true then (some false) else (qK.l76 k x x6 x39 0)
def qK.l76:Nat→qF→Int→Int→Int→Option Bool
 | 0,_,_,_,_=>none
 | k+1,x,x6,x39,x75=>if x75<(((nth qG.z ((nth qC.z x.f6 x6).f1) x39).f1).length:Int) then (if 0≤x75∧x75<(((nth qG.z ((nth qC.z x.f6 x6).f1) x39).f1).length:Int) then (if (nth 0 ((nth qG.z ((nth qC.z x.f6 x6).f1) x39).f1) x75)<1 then (qK.j104 k x x6 x39 x75 true) else (if (nth 0 ((nth qG.z ((nth qC.z x.f6 x6).f1) x39).f1) x75)>999 then (qK.j104 k x x6 x39 x75 true) else (if x75>0 then (if 0≤(w64 (x75 - 1))∧(w64 (x75 - 1))<(((nth qG.z ((nth qC.z x.f6 x6).f1) x39).f1).length:Int) then (qK.j104 k x x6 x39 x75 (decide ((nth 0 ((nth qG.z ((nth qC.z x.f6 x6).f1) x39).f1) (w64 (x75 - 1)))≥(nth 0 ((nth qG.z ((nth qC.z x.f6 x6).f1) x39).f1) x75)))) else (none)) else (qK.j104 k x x6 x39 x75 false)))) else (none)) else (qK.l113 k x x6 x39 0)
def qK.j104:Nat→qF→Int→Int→Int→Bool→Option Bool
 | 0,_,_,_,_,_=>none
 | k+1,x,x6,x39,x75,y103=>if y103=true then (some false) else (qK.l76 k x x6 x39 (w64 (x75+1)))
def qK.l113:Nat→qF→Int→Int→Int→Option Bool
 | 0,_,_,_,_=>none
 | k+1,x,x6,x39,x112=>if x112<x39 then (if 0≤x112∧x112<(((nth qC.z x.f6 x6).f1).length:Int) then (if (nth qG.z ((nth qC.z x.f6 x6).f1) x112).f0≥(nth qG.z ((nth qC.z x.f6 x6).f1) x39).f0 then (qK.j137 k x x6 x39 x112 true) else ((qAD.f k ((nth qG.z ((nth qC.z x.f6 x6).f1) x112).f1) ((nth qG.z ((nth qC.z x.f6 x6).f1) x39).f1)).bind fun t134=>(qK.j137 k x x6 x39 x112 t134))) else (none)) else (qK.l40 k x x6 (w64 (x39+1)))
def qK.j137:Nat→qF→Int→Int→Int→Bool→Option Bool
 | 0,_,_,_,_,_=>none
 | k+1,x,x6,x39,x112,y136=>if y136=true then (some false) else (qK.l113 k x x6 x39 (w64 (x112+1)))
end
theorem qK.l7_s k x x6:type_of% (qK.l7.eq_2 x x6 k):=qK.l7.eq_2 x x6 k
theorem qK.j31_s k x x6 y30:type_of% (qK.j31.eq_2 x x6 y30 k):=qK.j31.eq_2 x x6 y30 k
theorem qK.l40_s k x x6 x39:type_of% (qK.l40.eq_2 x x6 x39 k):=qK.l40.eq_2 x x6 x39 k
theorem qK.j66_s k x x6 x39 y65:type_of% (qK.j66.eq_2 x x6 x39 y65 k):=qK.j66.eq_2 x x6 x39 y65 k
theorem qK.l76_s k x x6 x39 x75:type_of% (qK.l76.eq_2 x x6 x39 x75 k):=qK.l76.eq_2 x x6 x39 x75 k
theorem qK.j104_s k x x6 x39 x75 y103:type_of% (qK.j104.eq_2 x x6 x39 x75 y103 k):=qK.j104.eq_2 x x6 x39 x75 y103 k
theorem qK.l113_s k x x6 x39 x112:type_of% (qK.l113.eq_2 x x6 x39 x112 k):=qK.l113.eq_2 x x6 x39 x112 k
theorem qK.j137_s k x x6 x39 x112 y136:type_of% (qK.j137.eq_2 x x6 x39 x112 y136 k):=qK.j137.eq_2 x x6 x39 x112 y136 k
def qK.f(k:Nat)(x:qF):Option Bool:=qK.l7 k x 0
def qK.Post(W F:World)(r:Bool)(v:Value)(w':World):Prop:=∃(F':World),v = .bool r∧Sm W F w' F' []
theorem qK.calls(k:Nat)(x:qF)(A0_4:OA)(c0_4:Nat)(A0_5:OA)(c0_5:Nat)(A0_6:OA)(c0_6:Nat)(r:Bool)(W F:World)(hown:Sub F W)(g0_4:Rd qA.k F A0_4 c0_4 x.f4)(g0_5:Rd qD.k F A0_5 c0_5 x.f5)(g0_6:Rd qC.k F A0_6 c0_6 x.f6)(H:qK.f k x=some r):
    Cr 69 #[.agg #[iv x.f0,iv x.f1,iv x.f2,iv x.f3,.slice A0_4 x.f4.length c0_4,.slice A0_5 x.f5.length c0_5,.slice A0_6 x.f6.length c0_6]] W (qK.Post W F r):=by
 have S:=sT hown
 unfold qK.f at H
 refine ent 139 rfl rfl rfl (fun a E=>?_)
 refine sq fun K1 hK1=>pl0 (plx (t:=26) E S [iv x.f0,iv x.f1,iv x.f2,iv x.f3,.slice A0_4 x.f4.length c0_4,.slice A0_5 x.f5.length c0_5,.slice A0_6 x.f6.length c0_6] fun b2 u3 hb2 S a E=>plc E (.r 1 1 .nil) (fun a E=>pld (hK1 _ _ (sq fun K4 hK4=>rr E fun a E=>(wp_block ?_)))))
 refine wp_loop_ghost (fun kq8 a w'=>∃(G:NV)(x6:Int),kq8≤k∧Env 139 G a∧At G [(1,.pointer (pb b2)),(3,iv x6)]∧Sm W F w' F [box b2 #[iv x.f0,iv x.f1,iv x.f2,iv x.f3,.slice A0_4 x.f4.length c0_4,.slice A0_5 x.f5.length c0_5,.slice A0_6 x.f6.length c0_6] 26]∧qK.l7 kq8 x x6=some r) k ⟨_,0,Nat.le_refl _,E,.of,S,H⟩ ?_
 rintro kq8 a u10 ⟨G,x6,hkq,E,A,S,H⟩
 obtain _ | k9:=kq8
 exact zz H
 rw [qK.l7_s]at H
 obtain ⟨J,E⟩:=E.at A
 refine sq fun K11 hK11=>sq fun K12 hK12=>pl0 ?_
 have hb2:=S.ba 0
 refine plc E (.r 0 2<|.b 2 6 hb2<|.r 3 2<|.nil) (fun a E=>pld (hK12 _ _ (E.ik 13 H (fun c13 E H=>?_) fun c13 E H=>?_)))
 refine wp_skip (hK11 _ _ (sq fun K14 hK14=>wp_block (sq fun K15 hK15=>pl0 ?_)))
 obtain ⟨c16,H⟩:=gd H
 have hE_:=E
 obtain ⟨ad17,rfl⟩:=g0_6.addr c16.1 c16.2
 replace E:=hE_
 obtain ⟨cs19,⟨A21,c22,rfl,g23⟩,hc20⟩:=g0_6.el qC.z x6 c16.1 c16.2
 refine plc E (.r 0 1<|.b 1 6 hb2<|.r 2 1<|.x 3 c16<|.cs 4 (S.fcs hc20)<|.nil) (fun a E=>pla (t:=49) E S [iv 0,.slice none 0 0] fun b24 u25 hb24 S a E=>pls E S [iv ((nth qC.z x.f6 x6).f0),.slice A21 (((nth qC.z x.f6 x6).f1).length) c22] fun u26 hb24 S a E=>pld (hK15 _ _ (sq fun K27 hK27=>sq fun K28 hK28=>?_)))
 have J34:∀ kq32,kq32≤k9→∀(G:NV)(y30:Bool)(a:Act)(w':World),Env 139 G a→At G [(1,.pointer (pb b2)),(3,iv x6),(4,.pointer (pb b24)),(30,.bool y30)]→Sm W F w' F [box b24 #[iv ((nth qC.z x.f6 x6).f0),.slice A21 (((nth qC.z x.f6 x6).f1).length) c22] 49,box b2 #[iv x.f0,iv x.f1,iv x.f2,iv x.f3,.slice A0_4 x.f4.length c0_4,.slice A0_5 x.f5.length c0_5,.slice (some ad17) x.f6.length c0_6] 26]→qK.j31 kq32 x x6 y30=some r→K28 a w':=by
  intro kq32 hkq G y30 a u35 E A S H
  obtain _ | k33:=kq32
  exact zz H
  rw [qK.j31_s]at H
  obtain ⟨J,E⟩:=E.at A
  refine hK28 _ _ (E.ib 30 H (fun c36 E H=>?_) fun c36 E H=>?_)
  refine rr E fun a E=>(wp_ret (qCn (qCo (qCn (qCn (qCo (qCn ?_)))))))
  replace S:=S.pm [] 2
  obtain rfl:=si H
  exact rt1 E ⟨_,rfl,_,rfl,S⟩
  refine wp_skip (hK27 _ _ (rr E fun a E=>(wp_block ?_)))
  refine wp_loop_ghost (fun kq41 a w'=>∃(G:NV)(x39:Int),kq41≤k33∧Env 139 G a∧At G [(1,.pointer (pb b2)),(3,iv x6),(4,.pointer (pb b24)),(5,iv x39)]∧Sm W F w' F [box b24 #[iv ((nth qC.z x.f6 x6).f0),.slice A21 (((nth qC.z x.f6 x6).f1).length) c22] 49,box b2 #[iv x.f0,iv x.f1,iv x.f2,iv x.f3,.slice A0_4 x.f4.length c0_4,.slice A0_5 x.f5.length c0_5,.slice (some ad17) x.f6.length c0_6] 26]∧qK.l40 kq41 x x6 x39=some r) k33 ⟨_,0,Nat.le_refl _,E,.of,S,H⟩ ?_
  rintro kq41 a u43 ⟨G,x39,hkq,E,A,S,H⟩
  obtain _ | k42:=kq41
  exact zz H
  rw [qK.l40_s]at H
  obtain ⟨J,E⟩:=E.at A
  refine sq fun K44 hK44=>sq fun K45 hK45=>pl0 ?_
  have hb24:=S.ba 0
  refine plc E (.r 0 2<|.b 2 1 hb24<|.r 3 2<|.nil) (fun a E=>pld (hK45 _ _ (E.ik 35 H (fun c46 E H=>?_) fun c46 E H=>?_)))
  refine wp_skip (hK44 _ _ (sq fun K47 hK47=>wp_block (sq fun K48 hK48=>pl0 ?_)))
  obtain ⟨c49,H⟩:=gd H
  have hE_:=E
  obtain ⟨ad50,rfl⟩:=g23.addr c49.1 c49.2
  replace E:=hE_
  obtain ⟨cs52,⟨A54,c55,rfl,g56⟩,hc53⟩:=g23.el qG.z x39 c49.1 c49.2
  refine plc E (.r 0 1<|.b 1 1 hb24<|.r 2 1<|.x 3 c49<|.cs 4 (S.fcs hc53)<|.nil) (fun a E=>pla (t:=51) E S [iv 0,.slice none 0 0] fun b57 u58 hb57 S a E=>pls E S [iv ((nth qG.z ((nth qC.z x.f6 x6).f1) x39).f0),.slice A54 (((nth qG.z ((nth qC.z x.f6 x6).f1) x39).f1).length) c55] fun u59 hb57 S a E=>pld (hK48 _ _ (sq fun K60 hK60=>sq fun K61 hK61=>?_)))
  have J69:∀ kq67,kq67≤k42→∀(G:NV)(y65:Bool)(a:Act)(w':World),Env 139 G a→At G [(1,.pointer (pb b2)),(3,iv x6),(4,.pointer (pb b24)),(5,iv x39),(6,.pointer (pb b57)),(68,.bool y65)]→Sm W F w' F [box b57 #[iv ((nth qG.z ((nth qC.z x.f6 x6).f1) x39).f0),.slice A54 (((nth qG.z ((nth qC.z x.f6 x6).f1) x39).f1).length) c55] 51,box b24 #[iv ((nth qC.z x.f6 x6).f0),.slice (some ad50) (((nth qC.z x.f6 x6).f1).length) c22] 49,box b2 #[iv x.f0,iv x.f1,iv x.f2,iv x.f3,.slice A0_4 x.f4.length c0_4,.slice A0_5 x.f5.length c0_5,.slice (some ad17) x.f6.length c0_6] 26]→qK.j66 kq67 x x6 x39 y65=some r→K61 a w':=by
   intro kq67 hkq G y65 a u70 E A S H
   obtain _ | k68:=kq67
   exact zz H
   rw [qK.j66_s]at H
   obtain ⟨J,E⟩:=E.at A
   refine hK61 _ _ (E.ib 68 H (fun c71 E H=>?_) fun c71 E H=>?_)
   refine rr E fun a E=>(wp_ret (qCn (qCo (qCn (qCn (qCo (qCo (qCn (qCn (qCo (qCn ?_)))))))))))
   replace S:=S.pm [] 3
   obtain rfl:=si H
   exact rt1 E ⟨_,rfl,_,rfl,S⟩
   refine wp_skip (hK60 _ _ (sq fun K73 hK73=>rr E fun a E=>(wp_block ?_)))
   refine wp_loop_ghost (fun kq77 a w'=>∃(G:NV)(x75:Int),kq77≤k68∧Env 139 G a∧At G [(1,.pointer (pb b2)),(3,iv x6),(4,.pointer (pb b24)),(5,iv x39),(6,.pointer (pb b57)),(7,iv x75)]∧Sm W F w' F [box b57 #[iv ((nth qG.z ((nth qC.z x.f6 x6).f1) x39).f0),.slice A54 (((nth qG.z ((nth qC.z x.f6 x6).f1) x39).f1).length) c55] 51,box b24 #[iv ((nth qC.z x.f6 x6).f0),.slice (some ad50) (((nth qC.z x.f6 x6).f1).length) c22] 49,box b2 #[iv x.f0,iv x.f1,iv x.f2,iv x.f3,.slice A0_4 x.f4.length c0_4,.slice A0_5 x.f5.length c0_5,.slice (some ad17) x.f6.length c0_6] 26]∧qK.l76 kq77 x x6 x39 x75=some r) k68 ⟨_,0,Nat.le_refl _,E,.of,S,H⟩ ?_
   rintro kq77 a u79 ⟨G,x75,hkq,E,A,S,H⟩
   obtain _ | k78:=kq77
   exact zz H
   rw [qK.l76_s]at H
   obtain ⟨J,E⟩:=E.at A
   refine sq fun K80 hK80=>sq fun K81 hK81=>pl0 ?_
   have hb57:=S.ba 0
   refine plc E (.r 0 2<|.b 2 1 hb57<|.r 3 2<|.nil) (fun a E=>pld (hK81 _ _ (E.ik 73 H (fun c82 E H=>?_) fun c82 E H=>?_)))
   refine wp_skip (hK80 _ _ (sq fun K83 hK83=>wp_block (sq fun K84 hK84=>?_)))
   have J107:∀ kq105,kq105≤k78→∀(G:NV)(y103:Bool)(a:Act)(w':World),Env 139 G a→At G [(1,.pointer (pb b2)),(3,iv x6),(4,.pointer (pb b24)),(5,iv x39),(6,.pointer (pb b57)),(7,iv x75),(107,.bool y103)]→Sm W F w' F [box b57 #[iv ((nth qG.z ((nth qC.z x.f6 x6).f1) x39).f0),.slice A54 (((nth qG.z ((nth qC.z x.f6 x6).f1) x39).f1).length) c55] 51,box b24 #[iv ((nth qC.z x.f6 x6).f0),.slice (some ad50) (((nth qC.z x.f6 x6).f1).length) c22] 49,box b2 #[iv x.f0,iv x.f1,iv x.f2,iv x.f3,.slice A0_4 x.f4.length c0_4,.slice A0_5 x.f5.length c0_5,.slice (some ad17) x.f6.length c0_6] 26]→qK.j104 kq105 x x6 x39 x75 y103=some r→K84 a w':=by
    intro kq105 hkq G y103 a u108 E A S H
    obtain _ | k106:=kq105
    exact zz H
    rw [qK.j104_s]at H
    obtain ⟨J,E⟩:=E.at A
    refine hK84 _ _ (E.ib 107 H (fun c109 E H=>?_) fun c109 E H=>?_)
    refine rr E fun a E=>(wp_ret (qCo (qCn (qCn (qCo (qCn (qCo (qCn (qCn (qCo (qCo (qCn (qCn (qCo (qCn ?_)))))))))))))))
    replace S:=S.pm [] 3
    obtain rfl:=si H
    exact rt1 E ⟨_,rfl,_,rfl,S⟩
    refine wp_skip ?_
    refine qCp ?_
    refine hK83 _ _ (pl0 (plc E (.r 0 3 .nil) (fun a E=>pld ?_)))
    exact qCq ⟨k106,by omega,_,(w64 (x75+1)),by omega,E,.of,S,H⟩
   refine drawn 32 ⟨[],[],fun q=>False⟩ mixed rfl (by kernel_rfl) (fun hst=>?_)
   replace S:=S.drew
   have hb57:=S.ba 0
   obtain ⟨c85,H⟩:=gd H
   have hE_:=E
   obtain ⟨ad86,rfl⟩:=g56.addr c85.1 c85.2
   replace E:=hE_
   obtain ⟨cs88,rfl,hc89⟩:=g56.el 0 x75 c85.1 c85.2
   refine mny 25 hst E (.r 0 1<|.b 1 1 hb57<|.r 2 1<|.x 3 c85<|.c 4 (S.fc hc89 0)<|.r 5 2<|.nil) (fun a E=>?_)
   refine E.fk 82 H (fun c90 E H=>?_) fun c90 E H=>?_
   refine mny 0 hst E (.r 7 25 .nil) (fun a E=>?_)
   refine dn ?_
   exact J107 _ (by omega) _ true _ _ E .of S H
   refine mny 17 hst E (.r 7 1<|.b 8 1 hb57<|.r 9 1<|.x 10 c85<|.c 11 (S.fc hc89 0)<|.r 12 3<|.nil) (fun a E=>?_)
   refine E.fk 90 H (fun c94 E H=>?_) fun c94 E H=>?_
   refine mny 0 hst E (.r 15 17 .nil) (fun a E=>?_)
   refine dn ?_
   exact J107 _ (by omega) _ true _ _ E .of S H
   refine mny 14 hst E (.r 15 3 .nil) (fun a E=>?_)
   refine E.fk 93 H (fun c95 E H=>?_) fun c95 E H=>?_
   obtain ⟨c96,H⟩:=gd H
   obtain ⟨cs98,rfl,hc99⟩:=g56.el 0 (w64 (x75 - 1)) c96.1 c96.2
   refine mny 0 hst E (.r 18 1<|.b 19 1 hb57<|.r 20 2<|.x 22 c96<|.c 23 (S.fc hc99 0)<|.r 24 1<|.b 25 1 hb57<|.r 26 1<|.x 27 c85<|.c 28 (S.fc hc89 0)<|.r 29 3<|.nil) (fun a E=>?_)
   refine dn ?_
   exact J107 _ (by omega) _ (decide ((nth 0 ((nth qG.z ((nth qC.z x.f6 x6).f1) x39).f1) (w64 (x75 - 1)))≥(nth 0 ((nth qG.z ((nth qC.z x.f6 x6).f1) x39).f1) x75))) _ _ E .of S H
   refine mny 0 hst E (.r 18 14 .nil) (fun a E=>?_)
   refine dn ?_
   exact J107 _ (by omega) _ false _ _ E .of S H
   refine wp_exit ?_
   refine hK73 _ _ (rr E fun a E=>(wp_block ?_))
   refine wp_loop_ghost (fun kq114 a w'=>∃(G:NV)(x112:Int),kq114≤k78∧Env 139 G a∧At G [(1,.pointer (pb b2)),(3,iv x6),(4,.pointer (pb b24)),(5,iv x39),(6,.pointer (pb b57)),(8,iv x112)]∧Sm W F w' F [box b57 #[iv ((nth qG.z ((nth qC.z x.f6 x6).f1) x39).f0),.slice A54 (((nth qG.z ((nth qC.z x.f6 x6).f1) x39).f1).length) c55] 51,box b24 #[iv ((nth qC.z x.f6 x6).f0),.slice (some ad50) (((nth qC.z x.f6 x6).f1).length) c22] 49,box b2 #[iv x.f0,iv x.f1,iv x.f2,iv x.f3,.slice A0_4 x.f4.length c0_4,.slice A0_5 x.f5.length c0_5,.slice (some ad17) x.f6.length c0_6] 26]∧qK.l113 kq114 x x6 x39 x112=some r) k78 ⟨_,0,Nat.le_refl _,E,.of,S,H⟩ ?_
   rintro kq114 a u116 ⟨G,x112,hkq,E,A,S,H⟩
   obtain _ | k115:=kq114
   exact zz H
   rw [qK.l113_s]at H
   obtain ⟨J,E⟩:=E.at A
   refine sq fun K117 hK117=>rr E fun a E=>(E.ik 110 H (fun c119 E H=>?_) fun c119 E H=>?_)
   refine wp_skip (hK117 _ _ (sq fun K120 hK120=>wp_block (sq fun K121 hK121=>?_)))
   have J140:∀ kq138,kq138≤k115→∀(G:NV)(y136:Bool)(a:Act)(w':World),Env 139 G a→At G [(1,.pointer (pb b2)),(3,iv x6),(4,.pointer (pb b24)),(5,iv x39),(6,.pointer (pb b57)),(8,iv x112),(132,.bool y136)]→Sm W F w' F [box b57 #[iv ((nth qG.z ((nth qC.z x.f6 x6).f1) x39).f0),.slice A54 (((nth qG.z ((nth qC.z x.f6 x6).f1) x39).f1).length) c55] 51,box b24 #[iv ((nth qC.z x.f6 x6).f0),.slice (some ad50) (((nth qC.z x.f6 x6).f1).length) c22] 49,box b2 #[iv x.f0,iv x.f1,iv x.f2,iv x.f3,.slice A0_4 x.f4.length c0_4,.slice A0_5 x.f5.length c0_5,.slice (some ad17) x.f6.length c0_6] 26]→qK.j137 kq138 x x6 x39 x112 y136=some r→K121 a w':=by
    intro kq138 hkq G y136 a u141 E A S H
    obtain _ | k139:=kq138
    exact zz H
    rw [qK.j137_s]at H
    obtain ⟨J,E⟩:=E.at A
    refine hK121 _ _ (E.ib 132 H (fun c142 E H=>?_) fun c142 E H=>?_)
    refine rr E fun a E=>(wp_ret (qCo (qCn (qCn (qCo (qCo (qCn (qCn (qCo (qCo (qCn (qCn (qCo (qCn ?_))))))))))))))
    replace S:=S.pm [] 3
    obtain rfl:=si H
    exact rt1 E ⟨_,rfl,_,rfl,S⟩
    refine wp_skip ?_
    refine qCp ?_
    refine hK120 _ _ (pl0 (plc E (.r 0 3 .nil) (fun a E=>pld ?_)))
    exact qCq ⟨k139,by omega,_,(w64 (x112+1)),by omega,E,.of,S,H⟩
   refine drawn 20 ⟨[],[],fun q=>False⟩ mixed rfl (by kernel_rfl) (fun hst=>?_)
   replace S:=S.drew
   have hb24:=S.ba 1
   obtain ⟨c122,H⟩:=gd H
   obtain ⟨cs124,⟨A126,c127,rfl,g128⟩,hc125⟩:=g23.el qG.z x112 c122.1 c122.2
   have hb57:=S.ba 0
   refine mny 10 hst E (.r 0 1<|.b 1 1 hb24<|.r 2 1<|.x 3 c122<|.r 4 1<|.c 5 (S.fc hc125 0)<|.r 6 1<|.b 7 0 hb57<|.r 8 2<|.nil) (fun a E=>?_)
   refine E.fk 122 H (fun c129 E H=>?_) fun c129 E H=>?_
   refine mny 0 hst E (.r 10 10 .nil) (fun a E=>?_)
   refine dn ?_
   exact J140 _ (by omega) _ true _ _ E .of S H
   refine mny 2 hst E (.r 10 1<|.b 11 1 hb24<|.r 12 1<|.x 13 c122<|.r 14 1<|.c 15 (S.fc hc125 1)<|.r 16 1<|.b 17 1 hb57<|.nil) (fun a E=>?_)
   obtain ⟨t134,h135,H⟩:=bd H
   refine on1 18 E (.cl en21 (qAD.calls k115 ((nth qG.z ((nth qC.z x.f6 x6).f1) x112).f1) ((nth qG.z ((nth qC.z x.f6 x6).f1) x39).f1) _ _ _ _ _ _ _ S.own.sub g128 g56 h135)) ?_
   rintro _ u133 a ⟨_,rfl,hC⟩ E
   refine ⟨.of hC.agr,?_⟩
   replace S:=S.lent hC
   refine mny 0 hst E (.r 19 1 .nil) (fun a E=>?_)
   refine dn ?_
   exact J140 _ (by omega) _ t134 _ _ E .of S H
   refine wp_exit ?_
   refine hK47 _ _ (pl0 (plc E (.r 0 3 .nil) (fun a E=>pld ?_)))
   replace S:=S.tail
   exact qCq ⟨k115,by omega,_,(w64 (x39+1)),by omega,E,.of,S,H⟩
  refine pl0 (plc E (.r 0 1<|.b 1 0 hb57<|.r 2 2<|.nil) (fun a E=>E.fk 46 H (fun c62 E H=>?_) fun c62 E H=>?_))
  refine plc E (.r 4 22 .nil) (fun a E=>pld ?_)
  exact J69 _ (by omega) _ true _ _ E .of S H
  refine plc E (.r 4 1<|.b 5 0 hb57<|.r 6 1<|.b 7 0 (S.ba 1)<|.r 8 3<|.nil) (fun a E=>E.fk 53 H (fun c63 E H=>?_) fun c63 E H=>?_)
  refine plc E (.r 11 15 .nil) (fun a E=>pld ?_)
  exact J69 _ (by omega) _ true _ _ E .of S H
  have hb2:=S.ba 2
  refine plc E (.r 11 1<|.b 12 1 hb57<|.r 13 2<|.b 15 2 hb2<|.r 16 3<|.nil) (fun a E=>E.fk 61 H (fun c64 E H=>?_) fun c64 E H=>?_)
  refine plc E (.r 19 7 .nil) (fun a E=>pld ?_)
  exact J69 _ (by omega) _ true _ _ E .of S H
  refine plc E (.r 19 1<|.b 20 1 hb57<|.r 21 2<|.b 23 1 hb2<|.r 24 2<|.nil) (fun a E=>pld ?_)
  exact J69 _ (by omega) _ (decide ((((nth qG.z ((nth qC.z x.f6 x6).f1) x39).f1).length:Int)>x.f1)) _ _ E .of S H
  refine wp_exit ?_
  refine hK14 _ _ (pl0 (plc E (.r 0 3 .nil) (fun a E=>pld ?_)))
  replace S:=S.tail
  exact qCq ⟨k42,by omega,_,(w64 (x6+1)),by omega,E,.of,S,H⟩
 refine pl0 (plc E (.r 0 1<|.b 1 0 hb24<|.r 2 2<|.nil) (fun a E=>E.fk 24 H (fun c29 E H=>?_) fun c29 E H=>?_))
 refine plc E (.r 4 6 .nil) (fun a E=>pld ?_)
 exact J34 _ (by omega) _ true _ _ E .of S H
 refine plc E (.r 4 1<|.b 5 0 hb24<|.r 6 1<|.b 7 0 (S.ba 1)<|.r 8 2<|.nil) (fun a E=>pld ?_)
 exact J34 _ (by omega) _ (decide ((nth qC.z x.f6 x6).f0>x.f0)) _ _ E .of S H
 refine wp_exit ?_
 refine hK4 _ _ (rg E (.r 0 1<|.b 1 6 hb2<|.r 2 2<|.b 4 3 hb2<|.r 5 2<|.nil) fun a E=>(wp_ret ?_))
 replace S:=S.tail
 obtain rfl:=si H
 exact rt1 E ⟨_,rfl,_,rfl,S⟩
mutual
def qg.j18:Nat→qF→Bool→Option Bool
 | 0,_,_=>none
 | k+1,x,y17=>if y17=true then (some false) else (qg.l28 k x 0)
def qg.l28:Nat→qF→Int→Option Bool
 | 0,_,_=>none
 | k+1,x,x27=>if x27<(x.f5.length:Int) then (if 0≤x27∧x27<(x.f5.length:Int) then (if (nth qD.z x.f5 x27).f0<0 then (qg.j71 k x x27 true) else (if (nth qD.z x.f5 x27).f0≥x.f3 then (qg.j71 k x x27 true) else (if x27>0 then (if 0≤(w64 (x27 - 1))∧(w64 (x27 - 1))<(x.f5.length:Int) then (if (nth qD.z x.f5 (w64 (x27 - 1))).f0≥(nth qD.z x.f5 x27).f0 then (qg.j71 k x x27 true) else (if (((nth qD.z x.f5 x27).f1).length:Int)<1 then (qg.j71 k x x27 true) else (if (((nth qD.z x.f5 x27).f1).length:Int)>x.f1 then (qg.j71 k x x27 true) else ((qw.f k x.f4 ((nth qD.z x.f5 x27).f1)).bind fun t63=>(qg.j71 k x x27 (!t63)))))) else (none)) else (if (((nth qD.z x.f5 x27).f1).length:Int)<1 then (qg.j71 k x x27 true) else (if (((nth qD.z x.f5 x27).f1).length:Int)>x.f1 then (qg.j71 k x x27 true) else ((qw.f k x.f4 ((nth qD.z x.f5 x27).f1)).bind fun t68=>(qg.j71 k x x27 (!t68)))))))) else (none)) else ((qK.f k x).bind fun t80=>(some t80))
def qg.j71:Nat→qF→Int→Bool→Option Bool
 | 0,_,_,_=>none
 | k+1,x,x27,y70=>if y70=true then (some false) else (qg.l28 k x (w64 (x27+1)))
end
theorem qg.j18_s k x y17:type_of% (qg.j18.eq_2 x y17 k):=qg.j18.eq_2 x y17 k
theorem qg.l28_s k x x27:type_of% (qg.l28.eq_2 x x27 k):=qg.l28.eq_2 x x27 k
theorem qg.j71_s k x x27 y70:type_of% (qg.j71.eq_2 x x27 y70 k):=qg.j71.eq_2 x x27 y70 k
def qg.f(k:Nat)(x:qF):Option Bool:=if x.f0<0 then (qg.j18 k x true) else (if x.f0≥2147483648 then (qg.j18 k x true) else (if x.f1<1 then (qg.j18 k x true) else (if x.f1>3 then (qg.j18 k x true) else (if x.f2<1 then (qg.j18 k x true) else (if x.f2>x.f1 then (qg.j18 k x true) else (if x.f3<1 then (qg.j18 k x true) else (if x.f3>8 then (qg.j18 k x true) else ((qu.f k x.f4).bind fun t15=>(qg.j18 k x (!t15))))))))))
def qg.Post(W F:World)(r:Bool)(v:Value)(w':World):Prop:=∃(F':World),v = .bool r∧Sm W F w' F' []
theorem qg.calls(k:Nat)(x:qF)(A0_4:OA)(c0_4:Nat)(A0_5:OA)(c0_5:Nat)(A0_6:OA)(c0_6:Nat)(r:Bool)(W F:World)(hown:Sub F W)(g0_4:Rd qA.k F A0_4 c0_4 x.f4)(g0_5:Rd qD.k F A0_5 c0_5 x.f5)(g0_6:Rd qC.k F A0_6 c0_6 x.f6)(H:qg.f k x=some r):
    Cr 19 #[.agg #[iv x.f0,iv x.f1,iv x.f2,iv x.f3,.slice A0_4 x.f4.length c0_4,.slice A0_5 x.f5.length c0_5,.slice A0_6 x.f6.length c0_6]] W (qg.Post W F r):=by
 have S:=sT hown
 unfold qg.f at H
 refine ent 113 rfl rfl rfl (fun a E=>?_)
 refine sq fun K1 hK1=>pl0 (plx (t:=26) E S [iv x.f0,iv x.f1,iv x.f2,iv x.f3,.slice A0_4 x.f4.length c0_4,.slice A0_5 x.f5.length c0_5,.slice A0_6 x.f6.length c0_6] fun b2 u3 hb2 S a E=>plc E (.r 1 1 .nil) (fun a E=>pld (hK1 _ _ (sq fun K4 hK4=>sq fun K5 hK5=>?_))))
 have J21:∀ kq19,kq19≤k→∀(G:NV)(y17:Bool)(a:Act)(w':World),Env 113 G a→At G [(1,.pointer (pb b2)),(50,.bool y17)]→Sm W F w' F [box b2 #[iv x.f0,iv x.f1,iv x.f2,iv x.f3,.slice A0_4 x.f4.length c0_4,.slice A0_5 x.f5.length c0_5,.slice A0_6 x.f6.length c0_6] 26]→qg.j18 kq19 x y17=some r→K5 a w':=by
  intro kq19 hkq G y17 a u22 E A S H
  obtain _ | k20:=kq19
  exact zz H
  rw [qg.j18_s]at H
  obtain ⟨J,E⟩:=E.at A
  refine hK5 _ _ (E.ib 50 H (fun c23 E H=>?_) fun c23 E H=>?_)
  refine rr E fun a E=>(wp_ret (qCn ?_))
  replace S:=S.tail
  obtain rfl:=si H
  exact rt1 E ⟨_,rfl,_,rfl,S⟩
  refine wp_skip (hK4 _ _ (sq fun K25 hK25=>rr E fun a E=>(wp_block ?_)))
  refine wp_loop_ghost (fun kq29 a w'=>∃(G:NV)(x27:Int),kq29≤k20∧Env 113 G a∧At G [(1,.pointer (pb b2)),(3,iv x27)]∧Sm W F w' F [box b2 #[iv x.f0,iv x.f1,iv x.f2,iv x.f3,.slice A0_4 x.f4.length c0_4,.slice A0_5 x.f5.length c0_5,.slice A0_6 x.f6.length c0_6] 26]∧qg.l28 kq29 x x27=some r) k20 ⟨_,0,Nat.le_refl _,E,.of,S,H⟩ ?_
  rintro kq29 a u31 ⟨G,x27,hkq,E,A,S,H⟩
  obtain _ | k30:=kq29
  exact zz H
  rw [qg.l28_s]at H
  obtain ⟨J,E⟩:=E.at A
  refine sq fun K32 hK32=>sq fun K33 hK33=>pl0 ?_
  have hb2:=S.ba 0
  refine plc E (.r 0 2<|.b 2 5 hb2<|.r 3 2<|.nil) (fun a E=>pld (hK33 _ _ (E.ik 55 H (fun c34 E H=>?_) fun c34 E H=>?_)))
  refine wp_skip (hK32 _ _ (sq fun K35 hK35=>wp_block (sq fun K36 hK36=>pl0 ?_)))
  obtain ⟨c37,H⟩:=gd H
  have hE_:=E
  obtain ⟨ad38,rfl⟩:=g0_5.addr c37.1 c37.2
  replace E:=hE_
  obtain ⟨cs40,⟨A42,c43,rfl,g44⟩,hc41⟩:=g0_5.el qD.z x27 c37.1 c37.2
  refine plc E (.r 0 1<|.b 1 5 hb2<|.r 2 1<|.x 3 c37<|.cs 4 (S.fcs hc41)<|.nil) (fun a E=>pla (t:=97) E S [iv 0,.slice none 0 0] fun b45 u46 hb45 S a E=>pls E S [iv ((nth qD.z x.f5 x27).f0),.slice A42 (((nth qD.z x.f5 x27).f1).length) c43] fun u47 hb45 S a E=>pld (hK36 _ _ (sq fun K48 hK48=>?_)))
  have J74:∀ kq72,kq72≤k30→∀(G:NV)(y70:Bool)(a:Act)(w':World),Env 113 G a→At G [(1,.pointer (pb b2)),(3,iv x27),(110,.bool y70)]→Sm W F w' F [box b45 #[iv ((nth qD.z x.f5 x27).f0),.slice A42 (((nth qD.z x.f5 x27).f1).length) c43] 97,box b2 #[iv x.f0,iv x.f1,iv x.f2,iv x.f3,.slice A0_4 x.f4.length c0_4,.slice (some ad38) x.f5.length c0_5,.slice A0_6 x.f6.length c0_6] 26]→qg.j71 kq72 x x27 y70=some r→K48 a w':=by
   intro kq72 hkq G y70 a u75 E A S H
   obtain _ | k73:=kq72
   exact zz H
   rw [qg.j71_s]at H
   obtain ⟨J,E⟩:=E.at A
   refine hK48 _ _ (E.ib 110 H (fun c76 E H=>?_) fun c76 E H=>?_)
   refine rr E fun a E=>(wp_ret (qCo (qCn (qCn (qCo (qCn ?_))))))
   replace S:=S.pm [] 2
   obtain rfl:=si H
   exact rt1 E ⟨_,rfl,_,rfl,S⟩
   refine wp_skip ?_
   refine qCp ?_
   refine hK35 _ _ (pl0 (plc E (.r 0 3 .nil) (fun a E=>pld ?_)))
   replace S:=S.tail
   exact qCq ⟨k73,by omega,_,(w64 (x27+1)),by omega,E,.of,S,H⟩
  refine drawn 48 ⟨[],[],fun q=>False⟩ mixed rfl (by kernel_rfl) (fun hst=>?_)
  replace S:=S.drew
  have hb45:=S.ba 0
  refine mny 44 hst E (.r 0 1<|.b 1 0 hb45<|.r 2 2<|.nil) (fun a E=>?_)
  refine E.fk 66 H (fun c49 E H=>?_) fun c49 E H=>?_
  refine mny 0 hst E (.r 4 44 .nil) (fun a E=>?_)
  refine dn ?_
  exact J74 _ (by omega) _ true _ _ E .of S H
  have hb2:=S.ba 1
  refine mny 37 hst E (.r 4 1<|.b 5 0 hb45<|.r 6 1<|.b 7 3 hb2<|.r 8 3<|.nil) (fun a E=>?_)
  refine E.fk 73 H (fun c50 E H=>?_) fun c50 E H=>?_
  refine mny 0 hst E (.r 11 37 .nil) (fun a E=>?_)
  refine dn ?_
  exact J74 _ (by omega) _ true _ _ E .of S H
  refine mny 34 hst E (.r 11 3 .nil) (fun a E=>?_)
  refine E.fk 76 H (fun c51 E H=>?_) fun c51 E H=>?_
  obtain ⟨c52,H⟩:=gd H
  obtain ⟨cs54,⟨A56,c57,rfl,g58⟩,hc55⟩:=g0_5.el qD.z (w64 (x27 - 1)) c52.1 c52.2
  refine mny 21 hst E (.r 14 1<|.b 15 5 hb2<|.r 16 2<|.x 18 c52<|.r 19 1<|.c 20 (S.fc hc55 0)<|.r 21 1<|.b 22 0 hb45<|.r 23 4<|.nil) (fun a E=>?_)
  refine E.fk 89 H (fun c59 E H=>?_) fun c59 E H=>?_
  refine mny 0 hst E (.r 27 21 .nil) (fun a E=>?_)
  refine dn ?_
  exact J74 _ (by omega) _ true _ _ E .of S H
  refine mny 15 hst E (.r 27 1<|.b 28 1 hb45<|.r 29 4<|.nil) (fun a E=>?_)
  refine E.fk 95 H (fun c60 E H=>?_) fun c60 E H=>?_
  refine mny 0 hst E (.r 33 15 .nil) (fun a E=>?_)
  refine dn ?_
  exact J74 _ (by omega) _ true _ _ E .of S H
  refine mny 7 hst E (.r 33 1<|.b 34 1 hb45<|.r 35 2<|.b 37 1 hb2<|.r 38 3<|.nil) (fun a E=>?_)
  refine E.fk 103 H (fun c61 E H=>?_) fun c61 E H=>?_
  refine mny 0 hst E (.r 41 7 .nil) (fun a E=>?_)
  refine dn ?_
  exact J74 _ (by omega) _ true _ _ E .of S H
  refine mny 3 hst E (.r 41 1<|.b 42 4 hb2<|.r 43 1<|.b 44 1 hb45<|.nil) (fun a E=>?_)
  obtain ⟨t63,h64,H⟩:=bd H
  refine on1 45 E (.cl en68 (qw.calls k30 x.f4 ((nth qD.z x.f5 x27).f1) _ _ _ _ _ _ _ S.own.sub g0_4 g44 h64)) ?_
  rintro _ u62 a ⟨_,rfl,hC⟩ E
  refine ⟨.of hC.agr,?_⟩
  replace S:=S.lent hC
  refine mny 0 hst E (.r 46 2 .nil) (fun a E=>?_)
  refine dn ?_
  exact J74 _ (by omega) _ (!t63) _ _ E .of S H
  refine mny 15 hst E (.r 14 14<|.b 28 1 hb45<|.r 29 4<|.nil) (fun a E=>?_)
  refine E.fk 95 H (fun c65 E H=>?_) fun c65 E H=>?_
  refine mny 0 hst E (.r 33 15 .nil) (fun a E=>?_)
  refine dn ?_
  exact J74 _ (by omega) _ true _ _ E .of S H
  refine mny 7 hst E (.r 33 1<|.b 34 1 hb45<|.r 35 2<|.b 37 1 hb2<|.r 38 3<|.nil) (fun a E=>?_)
  refine E.fk 103 H (fun c66 E H=>?_) fun c66 E H=>?_
  refine mny 0 hst E (.r 41 7 .nil) (fun a E=>?_)
  refine dn ?_
  exact J74 _ (by omega) _ true _ _ E .of S H
  refine mny 3 hst E (.r 41 1<|.b 42 4 hb2<|.r 43 1<|.b 44 1 hb45<|.nil) (fun a E=>?_)
  obtain ⟨t68,h69,H⟩:=bd H
  refine on1 45 E (.cl en68 (qw.calls k30 x.f4 ((nth qD.z x.f5 x27).f1) _ _ _ _ _ _ _ S.own.sub g0_4 g44 h69)) ?_
  rintro _ u67 a ⟨_,rfl,hC⟩ E
  refine ⟨.of hC.agr,?_⟩
  replace S:=S.lent hC
  refine mny 0 hst E (.r 46 2 .nil) (fun a E=>?_)
  refine dn ?_
  exact J74 _ (by omega) _ (!t68) _ _ E .of S H
  refine wp_exit ?_
  refine hK25 _ _ (sq fun K78 hK78=>pl0 (plc E (.bn 0 0 7 hb2 .nil) (fun a E=>?_)))
  obtain ⟨t80,h81,H⟩:=bd H
  refine plq E S en69 (qK.calls k30 x _ _ _ _ _ _ _ _ _ S.own.sub g0_4 g0_5 g0_6 h81) fun u79 S a E=>plc E (.r 2 1 .nil) (fun a E=>pld (hK78 _ _ (wp_ret ?_)))
  replace S:=S.tail
  obtain rfl:=si H
  exact rt1 E ⟨_,rfl,_,rfl,S⟩
 refine pl0 (plc E (.r 0 1<|.b 1 0 hb2<|.r 2 2<|.nil) (fun a E=>E.fk 8 H (fun c6 E H=>?_) fun c6 E H=>?_))
 refine plc E (.r 4 42 .nil) (fun a E=>pld ?_)
 exact J21 _ (by omega) _ true _ _ E .of S H
 refine plc E (.r 4 1<|.b 5 0 hb2<|.r 6 3<|.nil) (fun a E=>E.fk 13 H (fun c7 E H=>?_) fun c7 E H=>?_)
 refine plc E (.r 9 37 .nil) (fun a E=>pld ?_)
 exact J21 _ (by omega) _ true _ _ E .of S H
 refine plc E (.r 9 1<|.b 10 1 hb2<|.r 11 3<|.nil) (fun a E=>E.fk 18 H (fun c8 E H=>?_) fun c8 E H=>?_)
 refine plc E (.r 14 32 .nil) (fun a E=>pld ?_)
 exact J21 _ (by omega) _ true _ _ E .of S H
 refine plc E (.r 14 1<|.b 15 1 hb2<|.r 16 3<|.nil) (fun a E=>E.fk 23 H (fun c9 E H=>?_) fun c9 E H=>?_)
 refine plc E (.r 19 27 .nil) (fun a E=>pld ?_)
 exact J21 _ (by omega) _ true _ _ E .of S H
 refine plc E (.r 19 1<|.b 20 2 hb2<|.r 21 3<|.nil) (fun a E=>E.fk 28 H (fun c10 E H=>?_) fun c10 E H=>?_)
 refine plc E (.r 24 22 .nil) (fun a E=>pld ?_)
 exact J21 _ (by omega) _ true _ _ E .of S H
 refine plc E (.r 24 1<|.b 25 2 hb2<|.r 26 1<|.b 27 1 hb2<|.r 28 3<|.nil) (fun a E=>E.fk 35 H (fun c11 E H=>?_) fun c11 E H=>?_)
 refine plc E (.r 31 15 .nil) (fun a E=>pld ?_)
 exact J21 _ (by omega) _ true _ _ E .of S H
 refine plc E (.r 31 1<|.b 32 3 hb2<|.r 33 3<|.nil) (fun a E=>E.fk 40 H (fun c12 E H=>?_) fun c12 E H=>?_)
 refine plc E (.r 36 10 .nil) (fun a E=>pld ?_)
 exact J21 _ (by omega) _ true _ _ E .of S H
 refine plc E (.r 36 1<|.b 37 3 hb2<|.r 38 3<|.nil) (fun a E=>E.fk 45 H (fun c13 E H=>?_) fun c13 E H=>?_)
 refine plc E (.r 41 5 .nil) (fun a E=>pld ?_)
 exact J21 _ (by omega) _ true _ _ E .of S H
 refine plc E (.r 41 1<|.b 42 4 hb2<|.nil) (fun a E=>?_)
 obtain ⟨t15,h16,H⟩:=bd H
 refine plq E S en67 (qu.calls k x.f4 _ _ _ _ _ S.own.sub g0_4 h16) fun u14 S a E=>plc E (.r 44 2 .nil) (fun a E=>pld ?_)
 exact J21 _ (by omega) _ (!t15) _ _ E .of S H
def qBI.f(k:Nat)(x:qE)(y:qE):Option Bool:=if x.f0=y.f0 then (if x.f1=y.f1 then (if x.f2=y.f2 then (if x.f3=y.f3 then (if x.f4=y.f4 then (if x.f5=y.f5 then ((qAD.f k x.f6 y.f6).bind fun t14=>(some t14)) else (some false)) else (some false)) else (some false)) else (some false)) else (some false)) else (some false)
def qBI.Post(W F:World)(r:Bool)(v:Value)(w':World):Prop:=∃(F':World),v = .bool r∧Sm W F w' F' []
theorem qBI.calls(k:Nat)(x:qE)(y:qE)(A0_6:OA)(c0_6:Nat)(A1_6:OA)(c1_6:Nat)(r:Bool)(W F:World)(hown:Sub F W)(g0_6:Rd ki F A0_6 c0_6 x.f6)(g1_6:Rd ki F A1_6 c1_6 y.f6)(H:qBI.f k x y=some r):
    Cr 83 #[.agg #[iv x.f0,iv x.f1,iv x.f2,iv x.f3,iv x.f4,iv x.f5,.slice A0_6 x.f6.length c0_6],.agg #[iv y.f0,iv y.f1,iv y.f2,iv y.f3,iv y.f4,iv y.f5,.slice A1_6 y.f6.length c1_6]] W (qBI.Post W F r):=by
 have S:=sT hown
 unfold qBI.f at H
 refine ent 52 rfl rfl rfl (fun a E=>?_)
 refine sq fun K1 hK1=>pl0 (plx (t:=40) E S [iv x.f0,iv x.f1,iv x.f2,iv x.f3,iv x.f4,iv x.f5,.slice A0_6 x.f6.length c0_6] fun b2 u3 hb2 S a E=>plx (t:=40) E S [iv y.f0,iv y.f1,iv y.f2,iv y.f3,iv y.f4,iv y.f5,.slice A1_6 y.f6.length c1_6] fun b4 u5 hb4 S a E=>plc E (.r 2 1 .nil) (fun a E=>pld (hK1 _ _ (sq fun K6 hK6=>pl0 ?_))))
 have hb2:=S.ba 1
 refine plc E (.r 0 1<|.b 1 0 hb2<|.r 2 1<|.b 3 0 hb4<|.r 4 2<|.nil) (fun a E=>E.fk 10 H (fun c7 E H=>?_) fun c7 E H=>?_)
 refine plc E (.r 6 1<|.b 7 1 hb2<|.r 8 1<|.b 9 1 hb4<|.r 10 3<|.nil) (fun a E=>E.fk 17 H (fun c8 E H=>?_) fun c8 E H=>?_)
 refine plc E (.r 13 1<|.b 14 2 hb2<|.r 15 1<|.b 16 2 hb4<|.r 17 3<|.nil) (fun a E=>E.fk 24 H (fun c9 E H=>?_) fun c9 E H=>?_)
 refine plc E (.r 20 1<|.b 21 3 hb2<|.r 22 1<|.b 23 3 hb4<|.r 24 3<|.nil) (fun a E=>E.fk 31 H (fun c10 E H=>?_) fun c10 E H=>?_)
 refine plc E (.r 27 1<|.b 28 4 hb2<|.r 29 1<|.b 30 4 hb4<|.r 31 3<|.nil) (fun a E=>E.fk 38 H (fun c11 E H=>?_) fun c11 E H=>?_)
 refine plc E (.r 34 1<|.b 35 5 hb2<|.r 36 1<|.b 37 5 hb4<|.r 38 3<|.nil) (fun a E=>E.fk 45 H (fun c12 E H=>?_) fun c12 E H=>?_)
 refine plc E (.r 41 1<|.b 42 6 hb2<|.r 43 1<|.b 44 6 hb4<|.nil) (fun a E=>?_)
 obtain ⟨t14,h15,H⟩:=bd H
 refine plq E S en21 (qAD.calls k x.f6 y.f6 _ _ _ _ _ _ _ S.own.sub g0_6 g1_6 h15) fun u13 S a E=>plc E (.r 46 2 .nil) (fun a E=>pld (hK6 _ _ (wp_ret ?_)))
 replace S:=S.pm [] 2
 obtain rfl:=si H
 exact rt1 E ⟨_,rfl,_,rfl,S⟩
 refine plc E (.r 41 7 .nil) (fun a E=>pld (hK6 _ _ (wp_ret ?_)))
 replace S:=S.pm [] 2
 obtain rfl:=si H
 exact rt1 E ⟨_,rfl,_,rfl,S⟩
 refine plc E (.r 34 14 .nil) (fun a E=>pld (hK6 _ _ (wp_ret ?_)))
 replace S:=S.pm [] 2
 obtain rfl:=si H
 exact rt1 E ⟨_,rfl,_,rfl,S⟩
 refine plc E (.r 27 21 .nil) (fun a E=>pld (hK6 _ _ (wp_ret ?_)))
 replace S:=S.pm [] 2
 obtain rfl:=si H
 exact rt1 E ⟨_,rfl,_,rfl,S⟩
 refine plc E (.r 20 28 .nil) (fun a E=>pld (hK6 _ _ (wp_ret ?_)))
 replace S:=S.pm [] 2
 obtain rfl:=si H
 exact rt1 E ⟨_,rfl,_,rfl,S⟩
 refine plc E (.r 13 35 .nil) (fun a E=>pld (hK6 _ _ (wp_ret ?_)))
 replace S:=S.pm [] 2
 obtain rfl:=si H
 exact rt1 E ⟨_,rfl,_,rfl,S⟩
 refine plc E (.r 6 42 .nil) (fun a E=>pld (hK6 _ _ (wp_ret ?_)))
 replace S:=S.pm [] 2
 obtain rfl:=si H
 exact rt1 E ⟨_,rfl,_,rfl,S⟩
def qBS.f(x:qE):Option qE:=if x.f0=1 then (some (⟨x.f0,x.f1,x.f2,x.f3,x.f4,0,[]⟩:qE)) else (if x.f0=2 then (some (⟨x.f0,x.f1,0,0,x.f4,0,[]⟩:qE)) else (if x.f0=8 then (some (⟨x.f0,0,0,0,0,x.f5,x.f6⟩:qE)) else (if x.f0=9 then (some (⟨x.f0,0,0,0,0,0,[]⟩:qE)) else (if x.f0=10 then (some (⟨x.f0,0,0,0,x.f4,x.f5,[]⟩:qE)) else (some (⟨x.f0,x.f1,0,0,0,0,[]⟩:qE))))))
def qBS.Post(W F:World)(r:qE)(v:Value)(w':World):Prop:=∃(F':World)(RA0_6:OA)(rc0_6:Nat),v = .agg #[iv r.f0,iv r.f1,iv r.f2,iv r.f3,iv r.f4,iv r.f5,.slice RA0_6 r.f6.length rc0_6]∧Sm W F w' F' []∧Rd ki F' RA0_6 rc0_6 r.f6
theorem qBS.calls(x:qE)(A0_6:OA)(c0_6:Nat)(r:qE)(W F:World)(hown:Sub F W)(g0_6:Rd ki F A0_6 c0_6 x.f6)(H:qBS.f x=some r):
    Cr 84 #[.agg #[iv x.f0,iv x.f1,iv x.f2,iv x.f3,iv x.f4,iv x.f5,.slice A0_6 x.f6.length c0_6]] W (qBS.Post W F r):=by
 have S:=sT hown
 unfold qBS.f at H
 refine ent 55 rfl rfl rfl (fun a E=>?_)
 refine sq fun K1 hK1=>pl0 (plx (t:=40) E S [iv x.f0,iv x.f1,iv x.f2,iv x.f3,iv x.f4,iv x.f5,.slice A0_6 x.f6.length c0_6] fun b2 u3 hb2 S a E=>pla (t:=40) E S [iv 0,iv 0,iv 0,iv 0,iv 0,iv 0,.slice none 0 0] fun b4 u5 hb4 S a E=>pld (hK1 _ _ (sq fun K6 hK6=>sq fun K7 hK7=>pl0 ?_)))
 have hb2:=S.ba 1
 refine plc E (.r 0 1<|.b 1 0 hb2<|.nil) (fun a E=>pld (hK7 _ _ (wp_block (rr E fun a E=>(E.ik 5 H (fun c9 E H=>?_) fun c9 E H=>?_)))))
 refine sq fun K10 hK10=>pl0 (plc E (.r 0 1<|.b 1 0 hb2<|.r 2 1<|.b 3 1 hb2<|.r 4 1<|.b 5 2 hb2<|.r 6 1<|.b 7 3 hb2<|.r 8 1<|.b 9 4 hb2<|.r 10 1<|.nil) (fun a E=>pls E S [iv x.f0,iv x.f1,iv x.f2,iv x.f3,iv x.f4,iv 0,.slice none 0 0] fun u11 hb4 S a E=>pld (hK10 _ _ (wp_ret (qCo (qCn ?_))))))
 replace S:=S.pm [] 2
 obtain rfl:=si H
 exact ret1 E rfl (.cell (by kernel_rfl) (qDC [iv x.f0,iv x.f1,iv x.f2,iv x.f3,iv x.f4,iv 0,.slice none 0 0] ag40 sz40 hb4 rfl) .nil) ⟨_,rfl,_,_,_,rfl,S,(Rd.nil _ _)⟩
 refine rr E fun a E=>(E.ik 18 H (fun c13 E H=>?_) fun c13 E H=>?_)
 refine sq fun K14 hK14=>pl0 (plc E (.r 0 1<|.b 1 0 hb2<|.r 2 1<|.b 3 1 hb2<|.r 4 1<|.b 5 4 hb2<|.r 6 1<|.nil) (fun a E=>pls E S [iv x.f0,iv x.f1,iv 0,iv 0,iv x.f4,iv 0,.slice none 0 0] fun u15 hb4 S a E=>pld (hK14 _ _ (wp_ret (qCo (qCn ?_))))))
 replace S:=S.pm [] 2
 obtain rfl:=si H
 exact ret1 E rfl (.cell (by kernel_rfl) (qDC [iv x.f0,iv x.f1,iv 0,iv 0,iv x.f4,iv 0,.slice none 0 0] ag40 sz40 hb4 rfl) .nil) ⟨_,rfl,_,_,_,rfl,S,(Rd.nil _ _)⟩
 refine rr E fun a E=>(E.ik 27 H (fun c17 E H=>?_) fun c17 E H=>?_)
 refine sq fun K18 hK18=>pl0 (plc E (.r 0 1<|.b 1 0 hb2<|.r 2 1<|.b 3 5 hb2<|.r 4 1<|.b 5 6 hb2<|.r 6 1<|.nil) (fun a E=>pls E S [iv x.f0,iv 0,iv 0,iv 0,iv 0,iv x.f5,.slice A0_6 x.f6.length c0_6] fun u19 hb4 S a E=>pld (hK18 _ _ (wp_ret (qCo (qCn ?_))))))
 replace S:=S.pm [] 2
 obtain rfl:=si H
 exact ret1 E rfl (.cell (by kernel_rfl) (qDC [iv x.f0,iv 0,iv 0,iv 0,iv 0,iv x.f5,.slice A0_6 x.f6.length c0_6] ag40 sz40 hb4 rfl) .nil) ⟨_,rfl,_,_,_,rfl,S,g0_6⟩
 refine rr E fun a E=>(E.ik 36 H (fun c21 E H=>?_) fun c21 E H=>?_)
 refine sq fun K22 hK22=>pl0 (plc E (.r 0 1<|.b 1 0 hb2<|.r 2 1<|.nil) (fun a E=>pls E S [iv x.f0,iv 0,iv 0,iv 0,iv 0,iv 0,.slice none 0 0] fun u23 hb4 S a E=>pld (hK22 _ _ (wp_ret (qCo (qCn ?_))))))
 replace S:=S.pm [] 2
 obtain rfl:=si H
 exact ret1 E rfl (.cell (by kernel_rfl) (qDC [iv x.f0,iv 0,iv 0,iv 0,iv 0,iv 0,.slice none 0 0] ag40 sz40 hb4 rfl) .nil) ⟨_,rfl,_,_,_,rfl,S,(Rd.nil _ _)⟩
 refine rr E fun a E=>(E.ik 41 H (fun c25 E H=>?_) fun c25 E H=>?_)
 refine sq fun K26 hK26=>pl0 (plc E (.r 0 1<|.b 1 0 hb2<|.r 2 1<|.b 3 5 hb2<|.r 4 1<|.b 5 4 hb2<|.r 6 1<|.nil) (fun a E=>pls E S [iv x.f0,iv 0,iv 0,iv 0,iv x.f4,iv x.f5,.slice none 0 0] fun u27 hb4 S a E=>pld (hK26 _ _ (wp_ret (qCo (qCn ?_))))))
 replace S:=S.pm [] 2
 obtain rfl:=si H
 exact ret1 E rfl (.cell (by kernel_rfl) (qDC [iv x.f0,iv 0,iv 0,iv 0,iv x.f4,iv x.f5,.slice none 0 0] ag40 sz40 hb4 rfl) .nil) ⟨_,rfl,_,_,_,rfl,S,(Rd.nil _ _)⟩
 refine wp_skip ?_
 refine qCp ?_
 refine hK6 _ _ (sq fun K28 hK28=>pl0 (plc E (.r 0 1<|.b 1 0 hb2<|.r 2 1<|.b 3 1 hb2<|.r 4 1<|.nil) (fun a E=>pls E S [iv x.f0,iv x.f1,iv 0,iv 0,iv 0,iv 0,.slice none 0 0] fun u29 hb4 S a E=>pld (hK28 _ _ (wp_ret ?_)))))
 replace S:=S.pm [] 2
 obtain rfl:=si H
 exact ret1 E rfl (.cell (by kernel_rfl) (qDC [iv x.f0,iv x.f1,iv 0,iv 0,iv 0,iv 0,.slice none 0 0] ag40 sz40 hb4 rfl) .nil) ⟨_,rfl,_,_,_,rfl,S,(Rd.nil _ _)⟩
def qBC.f(x:Int):Option Bool:=if x≥0 then (some (decide (x<2147483648))) else (some false)
def qBC.Post(W F:World)(r:Bool)(v:Value)(w':World):Prop:=∃(F':World),v = .bool r∧Sm W F w' F' []
theorem qBC.calls(x:Int)(r:Bool)(W F:World)(hown:Sub F W)(H:qBC.f x=some r):
    Cr 149 #[iv x] W (qBC.Post W F r):=by
 have S:=sT hown
 unfold qBC.f at H
 refine ent 9 rfl rfl rfl (fun a E=>?_)
 refine rr E fun a E=>(sq fun K2 hK2=>pl0 (plc E (.r 0 3 .nil) (fun a E=>E.fk 5 H (fun c3 E H=>?_) fun c3 E H=>?_)))
 refine plc E (.r 3 4 .nil) (fun a E=>pld (hK2 _ _ (wp_ret ?_)))
 obtain rfl:=si H
 exact rt1 E ⟨_,rfl,_,rfl,S⟩
 refine plc E (.r 3 4 .nil) (fun a E=>pld (hK2 _ _ (wp_ret ?_)))
 obtain rfl:=si H
 exact rt1 E ⟨_,rfl,_,rfl,S⟩
def qAj.l7:Nat→qE→Int→Option Bool
 | 0,_,_=>none
 | k+1,x,x6=>if x6<(x.f6.length:Int) then (if 0≤x6∧x6<(x.f6.length:Int) then ((qBC.f (nth 0 x.f6 x6)).bind fun t22=>(if t22=true then (qAj.l7 k x (w64 (x6+1))) else (some false))) else (none)) else (if x.f0≥1 then (if x.f0≤10 then ((qBS.f x).bind fun t30=>((qBI.f k x t30).bind fun t37=>(if t37=true then (if (x.f6.length:Int)≤3 then ((qBC.f x.f1).bind fun t42=>(if t42=true then ((qBC.f x.f2).bind fun t46=>(if t46=true then ((qBC.f x.f3).bind fun t50=>(if t50=true then ((qBC.f x.f4).bind fun t54=>(if t54=true then ((qBC.f x.f5).bind fun t58=>(some t58)) else (some false))) else (some false))) else (some false))) else (some false))) else (some false)) else (some false)))) else (some false)) else (some false))
theorem qAj.l7_s k x x6:type_of% (qAj.l7.eq_2 x x6 k):=qAj.l7.eq_2 x x6 k
def qAj.f(k:Nat)(x:qE):Option Bool:=qAj.l7 k x 0
def qAj.Post(W F:World)(r:Bool)(v:Value)(w':World):Prop:=∃(F':World),v = .bool r∧Sm W F w' F' []
theorem qAj.calls(k:Nat)(x:qE)(A0_6:OA)(c0_6:Nat)(r:Bool)(W F:World)(hown:Sub F W)(g0_6:Rd ki F A0_6 c0_6 x.f6)(H:qAj.f k x=some r):
    Cr 93 #[.agg #[iv x.f0,iv x.f1,iv x.f2,iv x.f3,iv x.f4,iv x.f5,.slice A0_6 x.f6.length c0_6]] W (qAj.Post W F r):=by
 have S:=sT hown
 unfold qAj.f at H
 refine ent 63 rfl rfl rfl (fun a E=>?_)
 refine sq fun K1 hK1=>pl0 (plx (t:=40) E S [iv x.f0,iv x.f1,iv x.f2,iv x.f3,iv x.f4,iv x.f5,.slice A0_6 x.f6.length c0_6] fun b2 u3 hb2 S a E=>plc E (.r 1 1 .nil) (fun a E=>pld (hK1 _ _ (sq fun K4 hK4=>rr E fun a E=>(wp_block ?_)))))
 refine wp_loop_ghost (fun kq8 a w'=>∃(G:NV)(x6:Int),kq8≤k∧Env 63 G a∧At G [(1,.pointer (pb b2)),(3,iv x6)]∧Sm W F w' F [box b2 #[iv x.f0,iv x.f1,iv x.f2,iv x.f3,iv x.f4,iv x.f5,.slice A0_6 x.f6.length c0_6] 40]∧qAj.l7 kq8 x x6=some r) k ⟨_,0,Nat.le_refl _,E,.of,S,H⟩ ?_
 rintro kq8 a u10 ⟨G,x6,hkq,E,A,S,H⟩
 obtain _ | k9:=kq8
 exact zz H
 rw [qAj.l7_s]at H
 obtain ⟨J,E⟩:=E.at A
 refine sq fun K11 hK11=>sq fun K12 hK12=>pl0 ?_
 have hb2:=S.ba 0
 refine plc E (.r 0 2<|.b 2 6 hb2<|.r 3 2<|.nil) (fun a E=>pld (hK12 _ _ (E.ik 8 H (fun c13 E H=>?_) fun c13 E H=>?_)))
 refine wp_skip (hK11 _ _ (sq fun K14 hK14=>wp_block (sq fun K15 hK15=>pl0 ?_)))
 obtain ⟨c16,H⟩:=gd H
 have hE_:=E
 obtain ⟨ad17,rfl⟩:=g0_6.addr c16.1 c16.2
 replace E:=hE_
 obtain ⟨cs19,rfl,hc20⟩:=g0_6.el 0 x6 c16.1 c16.2
 refine plc E (.r 0 1<|.b 1 6 hb2<|.r 2 1<|.x 3 c16<|.c 4 (S.fc hc20 0)<|.nil) (fun a E=>?_)
 obtain ⟨t22,h23,H⟩:=bd H
 refine plq E S en149 (qBC.calls (nth 0 x.f6 x6) _ _ _ S.own.sub h23) fun u21 S a E=>plc E (.r 6 1 .nil) (fun a E=>pld (hK15 _ _ (E.ibn 17 H (fun c24 E H=>?_) fun c24 E H=>?_)))
 refine wp_skip ?_
 refine qCp ?_
 refine hK14 _ _ (pl0 (plc E (.r 0 3 .nil) (fun a E=>pld ?_)))
 exact qCq ⟨k9,by omega,_,(w64 (x6+1)),by omega,E,.of,S,H⟩
 refine rr E fun a E=>(wp_ret (qCo (qCn (qCn (qCo (qCn ?_))))))
 replace S:=S.tail
 obtain rfl:=si H
 exact rt1 E ⟨_,rfl,_,rfl,S⟩
 refine wp_exit ?_
 refine hK4 _ _ (sq fun K26 hK26=>?_)
 refine drawn 46 ⟨[],[],fun q=>False⟩ mixed rfl (by kernel_rfl) (fun hst=>?_)
 replace S:=S.drew
 have hb2:=S.ba 0
 refine mny 42 hst E (.r 0 1<|.b 1 0 hb2<|.r 2 2<|.nil) (fun a E=>?_)
 refine E.fk 21 H (fun c27 E H=>?_) fun c27 E H=>?_
 refine mny 37 hst E (.r 4 1<|.b 5 0 hb2<|.r 6 3<|.nil) (fun a E=>?_)
 refine E.fk 26 H (fun c28 E H=>?_) fun c28 E H=>?_
 refine mny 35 hst E (.bn 9 0 7 hb2<|.bn 10 0 7 hb2<|.nil) (fun a E=>?_)
 obtain ⟨t30,h31,H⟩:=bd H
 refine on1 11 E (.cl en84 (qBS.calls x _ _ _ _ _ S.own.sub g0_6 h31)) ?_
 rintro _ u29 a ⟨F32,A33,c34,rfl,hC,g35⟩ E
 refine ⟨.of hC.agr,?_⟩
 have hs:=hC.sub
 replace S:=S.called (X:=[]) hC
 replace g0_6:=g0_6.mono hs
 obtain ⟨t37,h38,H⟩:=bd H
 refine on1 12 E (.cl en83 (qBI.calls k9 x t30 _ _ _ _ _ _ _ S.own.sub g0_6 g35 h38)) ?_
 rintro _ u36 a ⟨_,rfl,hC⟩ E
 refine ⟨.of hC.agr,?_⟩
 replace S:=S.lent hC
 refine mny 31 hst E (.r 13 2 .nil) (fun a E=>?_)
 refine E.fb 32 H (fun c39 E H=>?_) fun c39 E H=>?_
 have hb2:=S.ba 0
 refine mny 25 hst E (.r 15 1<|.b 16 6 hb2<|.r 17 4<|.nil) (fun a E=>?_)
 refine E.fk 38 H (fun c40 E H=>?_) fun c40 E H=>?_
 refine mny 23 hst E (.r 21 1<|.b 22 1 hb2<|.nil) (fun a E=>?_)
 obtain ⟨t42,h43,H⟩:=bd H
 refine on1 23 E (.cl en149 (qBC.calls x.f1 _ _ _ S.own.sub h43)) ?_
 rintro _ u41 a ⟨_,rfl,hC⟩ E
 refine ⟨.of hC.agr,?_⟩
 replace S:=S.lent hC
 refine mny 20 hst E (.r 24 2 .nil) (fun a E=>?_)
 refine E.fb 43 H (fun c44 E H=>?_) fun c44 E H=>?_
 have hb2:=S.ba 0
 refine mny 18 hst E (.r 26 1<|.b 27 2 hb2<|.nil) (fun a E=>?_)
 obtain ⟨t46,h47,H⟩:=bd H
 refine on1 28 E (.cl en149 (qBC.calls x.f2 _ _ _ S.own.sub h47)) ?_
 rintro _ u45 a ⟨_,rfl,hC⟩ E
 refine ⟨.of hC.agr,?_⟩
 replace S:=S.lent hC
 refine mny 15 hst E (.r 29 2 .nil) (fun a E=>?_)
 refine E.fb 48 H (fun c48 E H=>?_) fun c48 E H=>?_
 have hb2:=S.ba 0
 refine mny 13 hst E (.r 31 1<|.b 32 3 hb2<|.nil) (fun a E=>?_)
 obtain ⟨t50,h51,H⟩:=bd H
 refine on1 33 E (.cl en149 (qBC.calls x.f3 _ _ _ S.own.sub h51)) ?_
 rintro _ u49 a ⟨_,rfl,hC⟩ E
 refine ⟨.of hC.agr,?_⟩
 replace S:=S.lent hC
 refine mny 10 hst E (.r 34 2 .nil) (fun a E=>?_)
 refine E.fb 53 H (fun c52 E H=>?_) fun c52 E H=>?_
 have hb2:=S.ba 0
 refine mny 8 hst E (.r 36 1<|.b 37 4 hb2<|.nil) (fun a E=>?_)
 obtain ⟨t54,h55,H⟩:=bd H
 refine on1 38 E (.cl en149 (qBC.calls x.f4 _ _ _ S.own.sub h55)) ?_
 rintro _ u53 a ⟨_,rfl,hC⟩ E
 refine ⟨.of hC.agr,?_⟩
 replace S:=S.lent hC
 refine mny 5 hst E (.r 39 2 .nil) (fun a E=>?_)
 refine E.fb 58 H (fun c56 E H=>?_) fun c56 E H=>?_
 have hb2:=S.ba 0
 refine mny 3 hst E (.r 41 1<|.b 42 5 hb2<|.nil) (fun a E=>?_)
 obtain ⟨t58,h59,H⟩:=bd H
 refine on1 43 E (.cl en149 (qBC.calls x.f5 _ _ _ S.own.sub h59)) ?_
 rintro _ u57 a ⟨_,rfl,hC⟩ E
 refine ⟨.of hC.agr,?_⟩
 replace S:=S.lent hC
 refine mny 0 hst E (.r 44 2 .nil) (fun a E=>?_)
 refine dn ?_
 refine hK26 _ _ (wp_ret ?_)
 replace S:=S.tail
 obtain rfl:=si H
 exact rt1 E ⟨_,rfl,_,rfl,S⟩
 refine mny 0 hst E (.r 41 5 .nil) (fun a E=>?_)
 refine dn ?_
 refine hK26 _ _ (wp_ret ?_)
 replace S:=S.tail
 obtain rfl:=si H
 exact rt1 E ⟨_,rfl,_,rfl,S⟩
 refine mny 0 hst E (.r 36 10 .nil) (fun a E=>?_)
 refine dn ?_
 refine hK26 _ _ (wp_ret ?_)
 replace S:=S.tail
 obtain rfl:=si H
 exact rt1 E ⟨_,rfl,_,rfl,S⟩
 refine mny 0 hst E (.r 31 15 .nil) (fun a E=>?_)
 refine dn ?_
 refine hK26 _ _ (wp_ret ?_)
 replace S:=S.tail
 obtain rfl:=si H
 exact rt1 E ⟨_,rfl,_,rfl,S⟩
 refine mny 0 hst E (.r 26 20 .nil) (fun a E=>?_)
 refine dn ?_
 refine hK26 _ _ (wp_ret ?_)
 replace S:=S.tail
 obtain rfl:=si H
 exact rt1 E ⟨_,rfl,_,rfl,S⟩
 refine mny 0 hst E (.r 21 25 .nil) (fun a E=>?_)
 refine dn ?_
 refine hK26 _ _ (wp_ret ?_)
 replace S:=S.tail
 obtain rfl:=si H
 exact rt1 E ⟨_,rfl,_,rfl,S⟩
 refine mny 0 hst E (.r 15 31 .nil) (fun a E=>?_)
 refine dn ?_
 refine hK26 _ _ (wp_ret ?_)
 replace S:=S.tail
 obtain rfl:=si H
 exact rt1 E ⟨_,rfl,_,rfl,S⟩
 refine mny 0 hst E (.r 9 37 .nil) (fun a E=>?_)
 refine dn ?_
 refine hK26 _ _ (wp_ret ?_)
 replace S:=S.tail
 obtain rfl:=si H
 exact rt1 E ⟨_,rfl,_,rfl,S⟩
 refine mny 0 hst E (.r 4 42 .nil) (fun a E=>?_)
 refine dn ?_
 refine hK26 _ _ (wp_ret ?_)
 replace S:=S.tail
 obtain rfl:=si H
 exact rt1 E ⟨_,rfl,_,rfl,S⟩
def qAr.l7:Nat→qp→Int→Option Bool
 | 0,_,_=>none
 | k+1,x,x6=>if x6<(x.f1.length:Int) then (if 0≤x6∧x6<(x.f1.length:Int) then ((qAj.f k (nth qE.z x.f1 x6)).bind fun t25=>(if t25=true then (qAr.l7 k x (w64 (x6+1))) else (some false))) else (none)) else ((qg.f k x.f0).bind fun t31=>(if t31=true then (some (decide ((x.f1.length:Int)≤8))) else (some false)))
theorem qAr.l7_s k x x6:type_of% (qAr.l7.eq_2 x x6 k):=qAr.l7.eq_2 x x6 k
def qAr.f(k:Nat)(x:qp):Option Bool:=qAr.l7 k x 0
def qAr.Post(W F:World)(r:Bool)(v:Value)(w':World):Prop:=∃(F':World),v = .bool r∧Sm W F w' F' []
theorem qAr.calls(k:Nat)(x:qp)(A0_4:OA)(c0_4:Nat)(A0_5:OA)(c0_5:Nat)(A0_6:OA)(c0_6:Nat)(A0_7:OA)(c0_7:Nat)(r:Bool)(W F:World)(hown:Sub F W)(g0_4:Rd qA.k F A0_4 c0_4 x.f0.f4)(g0_5:Rd qD.k F A0_5 c0_5 x.f0.f5)(g0_6:Rd qC.k F A0_6 c0_6 x.f0.f6)(g0_7:Rd qE.k F A0_7 c0_7 x.f1)(H:qAr.f k x=some r):
    Cr 42 #[.agg #[iv x.f0.f0,iv x.f0.f1,iv x.f0.f2,iv x.f0.f3,.slice A0_4 x.f0.f4.length c0_4,.slice A0_5 x.f0.f5.length c0_5,.slice A0_6 x.f0.f6.length c0_6,.slice A0_7 x.f1.length c0_7]] W (qAr.Post W F r):=by
 have S:=sT hown
 unfold qAr.f at H
 refine ent 27 rfl rfl rfl (fun a E=>?_)
 refine sq fun K1 hK1=>pl0 (plx (t:=59) E S [iv x.f0.f0,iv x.f0.f1,iv x.f0.f2,iv x.f0.f3,.slice A0_4 x.f0.f4.length c0_4,.slice A0_5 x.f0.f5.length c0_5,.slice A0_6 x.f0.f6.length c0_6,.slice A0_7 x.f1.length c0_7] fun b2 u3 hb2 S a E=>plc E (.r 1 1 .nil) (fun a E=>pld (hK1 _ _ (sq fun K4 hK4=>rr E fun a E=>(wp_block ?_)))))
 refine wp_loop_ghost (fun kq8 a w'=>∃(G:NV)(x6:Int),kq8≤k∧Env 27 G a∧At G [(1,.pointer (pb b2)),(3,iv x6)]∧Sm W F w' F [box b2 #[iv x.f0.f0,iv x.f0.f1,iv x.f0.f2,iv x.f0.f3,.slice A0_4 x.f0.f4.length c0_4,.slice A0_5 x.f0.f5.length c0_5,.slice A0_6 x.f0.f6.length c0_6,.slice A0_7 x.f1.length c0_7] 59]∧qAr.l7 kq8 x x6=some r) k ⟨_,0,Nat.le_refl _,E,.of,S,H⟩ ?_
 rintro kq8 a u10 ⟨G,x6,hkq,E,A,S,H⟩
 obtain _ | k9:=kq8
 exact zz H
 rw [qAr.l7_s]at H
 obtain ⟨J,E⟩:=E.at A
 refine sq fun K11 hK11=>sq fun K12 hK12=>pl0 ?_
 have hb2:=S.ba 0
 refine plc E (.r 0 2<|.b 2 7 hb2<|.r 3 2<|.nil) (fun a E=>pld (hK12 _ _ (E.ik 8 H (fun c13 E H=>?_) fun c13 E H=>?_)))
 refine wp_skip (hK11 _ _ (sq fun K14 hK14=>wp_block (sq fun K15 hK15=>pl0 ?_)))
 obtain ⟨c16,H⟩:=gd H
 have hE_:=E
 obtain ⟨ad17,rfl⟩:=g0_7.addr c16.1 c16.2
 replace E:=hE_
 obtain ⟨cs19,⟨A21,c22,rfl,g23⟩,hc20⟩:=g0_7.el qE.z x6 c16.1 c16.2
 refine plc E (.r 0 1<|.b 1 7 hb2<|.r 2 1<|.x 3 c16<|.cs 4 (S.fcs hc20)<|.nil) (fun a E=>?_)
 obtain ⟨t25,h26,H⟩:=bd H
 refine plq E S en93 (qAj.calls k9 (nth qE.z x.f1 x6) _ _ _ _ _ S.own.sub g23 h26) fun u24 S a E=>plc E (.r 6 1 .nil) (fun a E=>pld (hK15 _ _ (E.ibn 17 H (fun c27 E H=>?_) fun c27 E H=>?_)))
 refine wp_skip ?_
 refine qCp ?_
 refine hK14 _ _ (pl0 (plc E (.r 0 3 .nil) (fun a E=>pld ?_)))
 exact qCq ⟨k9,by omega,_,(w64 (x6+1)),by omega,E,.of,S,H⟩
 refine rr E fun a E=>(wp_ret (qCo (qCn (qCn (qCo (qCn ?_))))))
 replace S:=S.tail
 obtain rfl:=si H
 exact rt1 E ⟨_,rfl,_,rfl,S⟩
 refine wp_exit ?_
 refine hK4 _ _ (sq fun K29 hK29=>pl0 (plc E (.r 0 1<|.bn 1 0 7 hb2<|.nil) (fun a E=>?_)))
 obtain ⟨t31,h32,H⟩:=bd H
 refine plq E S en19 (qg.calls k9 x.f0 _ _ _ _ _ _ _ _ _ S.own.sub g0_4 g0_5 g0_6 h32) fun u30 S a E=>plc E (.r 3 1 .nil) (fun a E=>E.fb 21 H (fun c33 E H=>?_) fun c33 E H=>?_)
 refine plc E (.r 4 1<|.b 5 7 (S.ba 0)<|.r 6 4<|.nil) (fun a E=>pld (hK29 _ _ (wp_ret ?_)))
 replace S:=S.tail
 obtain rfl:=si H
 exact rt1 E ⟨_,rfl,_,rfl,S⟩
 refine plc E (.r 4 6 .nil) (fun a E=>pld (hK29 _ _ (wp_ret ?_)))
 replace S:=S.tail
 obtain rfl:=si H
 exact rt1 E ⟨_,rfl,_,rfl,S⟩
end Go.Proofs.YtpohepinmjmbkaaGreat.PJ
