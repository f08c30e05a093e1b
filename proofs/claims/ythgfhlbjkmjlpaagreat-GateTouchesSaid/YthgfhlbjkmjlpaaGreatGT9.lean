import Derived.Test.YthgfhlbjkmjlpaaGreatGT8
namespace Go.Proofs.YthgfhlbjkmjlpaaGreat.GT
open Go Go.RowKit Go.Proofs.YthgfhlbjkmjlpaaGreat.Sl
set_option linter.unusedVariables false
set_option linter.unusedSimpArgs false
set_option maxHeartbeats 4000000
set_option maxRecDepth 100000
def qBE.f(k:Nat)(x:qE)(y:List Bool):Option Bool:=(qc.f k x).bind fun t6=>(if t6=true then (some ((y.length:Int) == x.f3)) else (some false))
def qBE.Post(W F:World)(r:Bool)(v:Value)(w':World):Prop:=∃(F':World),v = .bool r∧Sm W F w' F' []
theorem qBE.calls(k:Nat)(x:qE)(y:List Bool)(A0_4:OA)(c0_4:Nat)(A0_5:OA)(c0_5:Nat)(A0_6:OA)(c0_6:Nat)(A1_0:OA)(c1_0:Nat)(r:Bool)(W F:World)(hown:Sub F W)(g0_4:Rd qA.k F A0_4 c0_4 x.f4)(g0_5:Rd qD.k F A0_5 c0_5 x.f5)(g0_6:Rd qC.k F A0_6 c0_6 x.f6)(g1_0:Rd Kn.bool F A1_0 c1_0 y)(H:qBE.f k x y=some r):
    Cr 20 #[.agg #[iv x.f0,iv x.f1,iv x.f2,iv x.f3,.slice A0_4 x.f4.length c0_4,.slice A0_5 x.f5.length c0_5,.slice A0_6 x.f6.length c0_6],.slice A1_0 y.length c1_0] W (qBE.Post W F r):=by
 have S:=sT hown
 unfold qBE.f at H
 refine ent 14 rfl rfl rfl (fun a E=>?_)
 refine sq fun K1 hK1=>pl0 (plx (t:=26) E S [iv x.f0,iv x.f1,iv x.f2,iv x.f3,.slice A0_4 x.f4.length c0_4,.slice A0_5 x.f5.length c0_5,.slice A0_6 x.f6.length c0_6] fun b2 u3 hb2 S a E=>plc E (.r 1 1 .nil) (fun a E=>pld (hK1 _ _ (sq fun K4 hK4=>pl0 (plc E (.bn 0 0 7 hb2 .nil) (fun a E=>?_))))))
 obtain ⟨t6,h7,H⟩:=bd H
 refine plq E S en22 (qc.calls k x _ _ _ _ _ _ _ _ _ S.own.sub g0_4 g0_5 g0_6 h7) fun u5 S a E=>plc E (.r 2 1 .nil) (fun a E=>E.fb 7 H (fun c8 E H=>?_) fun c8 E H=>?_)
 refine plc E (.r 3 3<|.b 6 3 (S.ba 0)<|.r 7 3<|.nil) (fun a E=>pld (hK4 _ _ (wp_ret ?_)))
 replace S:=S.tail
 obtain rfl:=si H
 exact rt1 E ⟨_,rfl,_,rfl,S⟩
 refine plc E (.r 3 7 .nil) (fun a E=>pld (hK4 _ _ (wp_ret ?_)))
 replace S:=S.tail
 obtain rfl:=si H
 exact rt1 E ⟨_,rfl,_,rfl,S⟩
def qBH.f(x:qE)(y:List Bool)(z:Int):Option Bool:=if 0≤z∧z<(y.length:Int) then (if (nth false y z)=true then (if 0≤z∧z<(x.f6.length:Int) then (some ((((nth qC.z x.f6 z).f1).length:Int) == 0)) else (none)) else (some false)) else (none)
def qBH.Post(W F:World)(r:Bool)(v:Value)(w':World):Prop:=∃(F':World),v = .bool r∧Sm W F w' F' []
theorem qBH.calls(x:qE)(y:List Bool)(z:Int)(A0_4:OA)(c0_4:Nat)(A0_5:OA)(c0_5:Nat)(A0_6:OA)(c0_6:Nat)(A1_0:OA)(c1_0:Nat)(r:Bool)(W F:World)(hown:Sub F W)(g0_4:Rd qA.k F A0_4 c0_4 x.f4)(g0_5:Rd qD.k F A0_5 c0_5 x.f5)(g0_6:Rd qC.k F A0_6 c0_6 x.f6)(g1_0:Rd Kn.bool F A1_0 c1_0 y)(H:qBH.f x y z=some r):
    Cr 21 #[.agg #[iv x.f0,iv x.f1,iv x.f2,iv x.f3,.slice A0_4 x.f4.length c0_4,.slice A0_5 x.f5.length c0_5,.slice A0_6 x.f6.length c0_6],.slice A1_0 y.length c1_0,iv z] W (qBH.Post W F r):=by
 have S:=sT hown
 unfold qBH.f at H
 refine ent 21 rfl rfl rfl (fun a E=>?_)
 refine sq fun K1 hK1=>pl0 (plx (t:=26) E S [iv x.f0,iv x.f1,iv x.f2,iv x.f3,.slice A0_4 x.f4.length c0_4,.slice A0_5 x.f5.length c0_5,.slice A0_6 x.f6.length c0_6] fun b2 u3 hb2 S a E=>plc E (.r 1 1 .nil) (fun a E=>pld (hK1 _ _ (sq fun K4 hK4=>pl0 ?_))))
 obtain ⟨c5,H⟩:=gd H
 have hE_:=E
 obtain ⟨ad6,rfl⟩:=g1_0.addr c5.1 c5.2
 replace E:=hE_
 obtain ⟨cs8,rfl,hc9⟩:=g1_0.el false z c5.1 c5.2
 refine plc E (.r 0 2<|.x 2 c5<|.c 3 (S.fc hc9 0)<|.r 4 1<|.nil) (fun a E=>E.fb 11 H (fun c10 E H=>?_) fun c10 E H=>?_)
 obtain ⟨c11,H⟩:=gd H
 have hE_:=E
 obtain ⟨ad12,rfl⟩:=g0_6.addr c11.1 c11.2
 replace E:=hE_
 obtain ⟨cs14,⟨A16,c17,rfl,g18⟩,hc15⟩:=g0_6.el qC.z z c11.1 c11.2
 refine plc E (.r 5 1<|.b 6 6 hb2<|.r 7 1<|.x 8 c11<|.r 9 1<|.c 10 (S.fc hc15 1)<|.r 11 4<|.nil) (fun a E=>pld (hK4 _ _ (wp_ret ?_)))
 replace S:=S.tail
 obtain rfl:=si H
 exact rt1 E ⟨_,rfl,_,rfl,S⟩
 refine plc E (.r 5 10 .nil) (fun a E=>pld (hK4 _ _ (wp_ret ?_)))
 replace S:=S.tail
 obtain rfl:=si H
 exact rt1 E ⟨_,rfl,_,rfl,S⟩
mutual
def qW.j14:Nat→qE→qQ→List Bool→Bool→Option Bool
 | 0,_,_,_,_=>none
 | k+1,x,y,z,y13=>if y13=true then ((qAq.f k).bind fun t22=>(some t22)) else ((qBA.f k x z).bind fun t26=>((qBg.f k x y).bind fun t34=>(qW.l53 k x y z t26 t34 ([]:List Int) 0)))
def qW.l53:Nat→qE→qQ→List Bool→List Int→List Int→List Int→Int→Option Bool
 | 0,_,_,_,_,_,_,_=>none
 | k+1,x,y,z,t26,t34,l51,x52=>(qBE.f k x z).bind fun t60=>(if t60=true then (qW.j64 k x y z t26 t34 l51 x52 (decide (x52<x.f3))) else (qW.j64 k x y z t26 t34 l51 x52 false))
def qW.j64:Nat→qE→qQ→List Bool→List Int→List Int→List Int→Int→Bool→Option Bool
 | 0,_,_,_,_,_,_,_,_=>none
 | k+1,x,y,z,t26,t34,l51,x52,y63=>if y63=true then ((qBH.f x z x52).bind fun t73=>(if t73=true then (if ((l51.length:Int)+((1:Nat):Int)) * 8≤140737488355328 then (qW.l53 k x y z t26 t34 (l51++[x52]) (w64 (x52+1))) else (none)) else (qW.l53 k x y z t26 t34 l51 (w64 (x52+1))))) else ((qc.f k x).bind fun t87=>(if t87=true then ((qu.f k t26 l51).bind fun t98=>(if t98=true then ((qf.f k x y).bind fun t102=>((qu.f k t34 t102).bind fun t110=>(if t110=true then ((qAq.f k).bind fun t114=>(some t114)) else (some false)))) else (some false))) else (if (t26.length:Int)=0 then (if (t34.length:Int)=0 then ((qAq.f k).bind fun t94=>(some t94)) else (some false)) else (some false))))
end
theorem qW.j14_s k x y z y13:type_of% (qW.j14.eq_2 x y z y13 k):=qW.j14.eq_2 x y z y13 k
theorem qW.l53_s k x y z t26 t34 l51 x52:type_of% (qW.l53.eq_2 x y z t26 t34 l51 x52 k):=qW.l53.eq_2 x y z t26 t34 l51 x52 k
theorem qW.j64_s k x y z t26 t34 l51 x52 y63:type_of% (qW.j64.eq_2 x y z t26 t34 l51 x52 y63 k):=qW.j64.eq_2 x y z t26 t34 l51 x52 y63 k
def qW.f(k:Nat)(x:qE)(y:qQ)(z:List Bool):Option Bool:=(qV.f k x).bind fun t9=>(if t9=true then (if (y.f6.length:Int)>20 then (qW.j14 k x y z true) else (qW.j14 k x y z (decide ((z.length:Int)>30)))) else (qW.j14 k x y z true))
def qW.Post(W F:World)(r:Bool)(v:Value)(w':World):Prop:=∃(F':World),v = .bool r∧Sm W F w' F' []
theorem qW.calls(k:Nat)(x:qE)(y:qQ)(z:List Bool)(A0_4:OA)(c0_4:Nat)(A0_5:OA)(c0_5:Nat)(A0_6:OA)(c0_6:Nat)(A1_6:OA)(c1_6:Nat)(A2_0:OA)(c2_0:Nat)(r:Bool)(W F:World)(hown:Sub F W)(g0_4:Rd qA.k F A0_4 c0_4 x.f4)(g0_5:Rd qD.k F A0_5 c0_5 x.f5)(g0_6:Rd qC.k F A0_6 c0_6 x.f6)(g1_6:Rd ki F A1_6 c1_6 y.f6)(g2_0:Rd Kn.bool F A2_0 c2_0 z)(H:qW.f k x y z=some r):
    Cr 5 #[.agg #[iv x.f0,iv x.f1,iv x.f2,iv x.f3,.slice A0_4 x.f4.length c0_4,.slice A0_5 x.f5.length c0_5,.slice A0_6 x.f6.length c0_6],.agg #[iv y.f0,iv y.f1,iv y.f2,iv y.f3,iv y.f4,iv y.f5,.slice A1_6 y.f6.length c1_6],.slice A2_0 z.length c2_0] W (qW.Post W F r):=by
 have S:=sT hown
 unfold qW.f at H
 refine ent 79 rfl rfl rfl (fun a E=>?_)
 refine sq fun K1 hK1=>pl0 (plx (t:=26) E S [iv x.f0,iv x.f1,iv x.f2,iv x.f3,.slice A0_4 x.f4.length c0_4,.slice A0_5 x.f5.length c0_5,.slice A0_6 x.f6.length c0_6] fun b2 u3 hb2 S a E=>plx (t:=29) E S [iv y.f0,iv y.f1,iv y.f2,iv y.f3,iv y.f4,iv y.f5,.slice A1_6 y.f6.length c1_6] fun b4 u5 hb4 S a E=>plc E (.r 2 1 .nil) (fun a E=>pld (hK1 _ _ (sq fun K6 hK6=>sq fun K7 hK7=>?_))))
 have J17:∀ kq15,kq15≤k→∀(G:NV)(y13:Bool)(a:Act)(w':World),Env 79 G a→At G [(2,.slice A2_0 z.length c2_0),(3,.pointer (pb b2)),(4,.pointer (pb b4)),(24,.bool y13)]→Sm W F w' F [box b4 #[iv y.f0,iv y.f1,iv y.f2,iv y.f3,iv y.f4,iv y.f5,.slice A1_6 y.f6.length c1_6] 29,box b2 #[iv x.f0,iv x.f1,iv x.f2,iv x.f3,.slice A0_4 x.f4.length c0_4,.slice A0_5 x.f5.length c0_5,.slice A0_6 x.f6.length c0_6] 26]→qW.j14 kq15 x y z y13=some r→K7 a w':=by
  intro kq15 hkq G y13 a u18 E A S H
  obtain _ | k16:=kq15
  exact zz H
  rw [qW.j14_s]at H
  obtain ⟨J,E⟩:=E.at A
  refine hK7 _ _ (E.ib 24 H (fun c19 E H=>?_) fun c19 E H=>?_)
  refine sq fun K20 hK20=>pl0 ?_
  obtain ⟨t22,h23,H⟩:=bd H
  refine plq E S en11 (qAq.calls k16 _ _ _ S.own.sub h23) fun u21 S a E=>plc E (.r 1 1 .nil) (fun a E=>pld (hK20 _ _ (wp_ret (qCL ?_))))
  replace S:=S.pm [] 2
  obtain rfl:=si H
  exact rt1 E ⟨_,rfl,_,rfl,S⟩
  refine wp_skip (hK6 _ _ (sq fun K24 hK24=>?_))
  refine drawn 8 ⟨[],[],fun q=>False⟩ mixed rfl (by kernel_rfl) (fun hst=>?_)
  replace S:=S.drew
  have hb2:=S.ba 1
  have hb4:=S.ba 0
  refine mny 4 hst E (.bn 0 0 7 hb2<|.r 1 1<|.bn 3 0 7 hb2<|.bn 4 0 7 hb4<|.nil) (fun a E=>?_)
  obtain ⟨t26,h27,H⟩:=bd H
  refine on1 2 E (.cl en18 (qBA.calls k16 x z _ _ _ _ _ _ _ _ _ _ _ S.own.sub g0_4 g0_5 g0_6 g2_0 h27)) ?_
  rintro _ u25 a ⟨F28,A29,c30,rfl,hC⟩ E
  refine ⟨.of hC.agr,?_⟩
  have hs:=hC.sub
  replace S:=S.called (X:=[]) hC
  replace g2_0:=g2_0.mono hs
  replace g0_4:=g0_4.mono hs
  replace g0_5:=g0_5.mono hs
  replace g0_6:=g0_6.mono hs
  replace g1_6:=g1_6.mono hs
  obtain ⟨t34,h35,H⟩:=bd H
  refine on1 5 E (.cl en19 (qBg.calls k16 x y _ _ _ _ _ _ _ _ _ _ _ S.own.sub g0_4 g0_5 g0_6 g1_6 h35)) ?_
  rintro _ u33 a ⟨F36,A37,c38,rfl,hC⟩ E
  refine ⟨.of hC.agr,?_⟩
  have hs:=hC.sub
  replace S:=S.called (X:=[]) hC
  replace g2_0:=g2_0.mono hs
  replace g0_4:=g0_4.mono hs
  replace g0_5:=g0_5.mono hs
  replace g0_6:=g0_6.mono hs
  replace g1_6:=g1_6.mono hs
  refine mny 0 hst E (.r 6 2 .nil) (fun a E=>?_)
  refine dn ?_
  refine hK24 _ _ (sq fun K41 hK41=>pl0 (ple E (.lit (d:=ki) (e:=3) S ([]:List Int) (.nil)) ?_))
  rintro _ u42 a ⟨A43,c44,rfl,S,hg⟩ E
  refine plc E (.r 1 1 .nil) (fun a E=>pld (hK41 _ _ (sq fun K46 hK46=>rr E fun a E=>(wp_block ?_))))
  replace S:=S.pm [3,4,1,2,0] 5
  refine wp_loop_ghost (fun kq54 a w'=>∃(G:NV)(A49:OA)(c50:Nat)(l51:List Int)(x52:Int),kq54≤k16∧Env 79 G a∧At G [(2,.slice A2_0 z.length c2_0),(3,.pointer (pb b2)),(4,.pointer (pb b4)),(7,.slice A29 t26.length c30),(8,.slice A37 t34.length c38),(9,.slice A49 l51.length c50),(10,iv x52)]∧Sm W F w' F36 [box b4 #[iv y.f0,iv y.f1,iv y.f2,iv y.f3,iv y.f4,iv y.f5,.slice A1_6 y.f6.length c1_6] 29,box b2 #[iv x.f0,iv x.f1,iv x.f2,iv x.f3,.slice A0_4 x.f4.length c0_4,.slice A0_5 x.f5.length c0_5,.slice A0_6 x.f6.length c0_6] 26,row ki 3 (.slice A37 t34.length c38) t34,row ki 3 (.slice A29 t26.length c30) t26,row ki 3 (.slice A49 l51.length c50) l51]∧qW.l53 kq54 x y z t26 t34 l51 x52=some r) k16 ⟨_,A43,c44,([]:List Int),0,Nat.le_refl _,E,.of,S,H⟩ ?_
  rintro kq54 a u56 ⟨G,A49,c50,l51,x52,hkq,E,A,S,H⟩
  obtain _ | k55:=kq54
  exact zz H
  rw [qW.l53_s]at H
  obtain ⟨J,E⟩:=E.at A
  refine sq fun K57 hK57=>sq fun K58 hK58=>?_
  have J67:∀ kq65,kq65≤k55→∀(G:NV)(y63:Bool)(a:Act)(w':World),Env 79 G a→At G [(2,.slice A2_0 z.length c2_0),(3,.pointer (pb b2)),(4,.pointer (pb b4)),(7,.slice A29 t26.length c30),(8,.slice A37 t34.length c38),(9,.slice A49 l51.length c50),(10,iv x52),(41,.bool y63)]→Sm W F w' F36 [box b4 #[iv y.f0,iv y.f1,iv y.f2,iv y.f3,iv y.f4,iv y.f5,.slice A1_6 y.f6.length c1_6] 29,box b2 #[iv x.f0,iv x.f1,iv x.f2,iv x.f3,.slice A0_4 x.f4.length c0_4,.slice A0_5 x.f5.length c0_5,.slice A0_6 x.f6.length c0_6] 26,row ki 3 (.slice A37 t34.length c38) t34,row ki 3 (.slice A29 t26.length c30) t26,row ki 3 (.slice A49 l51.length c50) l51]→qW.j64 kq65 x y z t26 t34 l51 x52 y63=some r→K58 a w':=by
   intro kq65 hkq G y63 a u68 E A S H
   obtain _ | k66:=kq65
   exact zz H
   rw [qW.j64_s]at H
   obtain ⟨J,E⟩:=E.at A
   refine hK58 _ _ (E.ib 41 H (fun c69 E H=>?_) fun c69 E H=>?_)
   refine wp_skip (hK57 _ _ (sq fun K70 hK70=>wp_block (sq fun K71 hK71=>pl0 (plc E (.bn 0 0 7 (S.ba 1)<|.r 1 2<|.nil) (fun a E=>?_)))))
   obtain ⟨t73,h74,H⟩:=bd H
   refine plq E S en21 (qBH.calls x z x52 _ _ _ _ _ _ _ _ _ _ _ S.own.sub g0_4 g0_5 g0_6 g2_0 h74) fun u72 S a E=>pld (hK71 _ _ (E.ib 47 H (fun c75 E H=>?_) fun c75 E H=>?_))
   refine pl0 (plc E (.r 0 2 .nil) (fun a E=>ple E (.lit (d:=ki) (e:=3) S [x52] (.cons rfl .nil)) ?_))
   rintro _ u76 a ⟨A77,c78,rfl,S,hg⟩ E
   obtain ⟨c80,H⟩:=gd H
   replace S:=S.front 5 rfl
   refine ple E (.ap (d:=ki) 8 S (qCV (S.row_at (i:=1) rfl)) c80 c78) ?_
   rintro _ u83 a ⟨A81,c82,rfl,S,hz⟩ E
   refine plc E (.r 4 1 .nil) (fun a E=>pld ?_)
   refine qCN ?_
   refine hK70 _ _ (pl0 (plc E (.r 0 3 .nil) (fun a E=>pld ?_)))
   replace S:=S.pm [2,3,4,5,0] 6
   exact qCO ⟨k66,by omega,_,A81,c82,(l51++[x52]),(w64 (x52+1)),by omega,E,.of,S,H⟩
   refine wp_skip ?_
   refine qCN ?_
   refine hK70 _ _ (pl0 (plc E (.r 0 3 .nil) (fun a E=>pld ?_)))
   exact qCO ⟨k66,by omega,_,A49,c50,l51,(w64 (x52+1)),by omega,E,.of,S,H⟩
   refine wp_exit ?_
   refine hK46 _ _ (sq fun K84 hK84=>sq fun K85 hK85=>pl0 ?_)
   have hb2:=S.ba 1
   refine plc E (.bn 0 0 7 hb2 .nil) (fun a E=>?_)
   obtain ⟨t87,h88,H⟩:=bd H
   refine plq E S en22 (qc.calls k66 x _ _ _ _ _ _ _ _ _ S.own.sub g0_4 g0_5 g0_6 h88) fun u86 S a E=>plc E (.r 2 1 .nil) (fun a E=>pld (hK85 _ _ (E.ibn 54 H (fun c89 E H=>?_) fun c89 E H=>?_)))
   refine wp_skip (hK84 _ _ (sq fun K96 hK96=>pl0 (plc E (.r 0 2 .nil) (fun a E=>?_))))
   obtain ⟨t98,h99,H⟩:=bd H
   refine plq E S en23 (qu.calls k66 t26 l51 _ _ _ _ _ _ _ (Sub.refl _) (S.rd_at (i:=3) rfl) (S.rd_at (i:=4) rfl) h99) fun u97 S a E=>plc E (.r 3 1 .nil) (fun a E=>E.fb 69 H (fun c100 E H=>?_) fun c100 E H=>?_)
   refine plc E (.r 4 1<|.bn 5 0 7 (S.ba 1)<|.bn 6 0 7 (S.ba 0)<|.nil) (fun a E=>?_)
   obtain ⟨t102,h103,H⟩:=bd H
   refine ple E (.cl en15 (qf.calls k66 x y _ _ _ _ _ _ _ _ _ _ _ S.own.sub g0_4 g0_5 g0_6 g1_6 h103)) ?_
   rintro _ u101 a ⟨F104,A105,c106,rfl,hC⟩ E
   have hs:=hC.sub
   replace S:=S.called (X:=[]) hC
   replace g2_0:=g2_0.mono hs
   replace g0_4:=g0_4.mono hs
   replace g0_5:=g0_5.mono hs
   replace g0_6:=g0_6.mono hs
   replace g1_6:=g1_6.mono hs
   obtain ⟨t110,h111,H⟩:=bd H
   refine plq E S en23 (qu.calls k66 t34 t102 _ _ _ _ _ _ _ (Sub.refl _) (S.rd_at (i:=3) rfl) (S.rd_at (i:=0) rfl) h111) fun u109 S a E=>plc E (.r 9 2 .nil) (fun a E=>E.fb 76 H (fun c112 E H=>?_) fun c112 E H=>?_)
   obtain ⟨t114,h115,H⟩:=bd H
   refine plq E S en11 (qAq.calls k66 _ _ _ S.own.sub h115) fun u113 S a E=>plc E (.r 12 2 .nil) (fun a E=>pld (hK96 _ _ (wp_ret ?_)))
   replace S:=S.pm [] 6
   obtain rfl:=si H
   exact rt1 E ⟨_,rfl,_,rfl,S⟩
   refine plc E (.r 11 3 .nil) (fun a E=>pld (hK96 _ _ (wp_ret ?_)))
   replace S:=S.pm [] 6
   obtain rfl:=si H
   exact rt1 E ⟨_,rfl,_,rfl,S⟩
   refine plc E (.r 4 10 .nil) (fun a E=>pld (hK96 _ _ (wp_ret ?_)))
   replace S:=S.pm [] 5
   obtain rfl:=si H
   exact rt1 E ⟨_,rfl,_,rfl,S⟩
   refine sq fun K90 hK90=>pl0 (plc E (.r 0 4 .nil) (fun a E=>E.fk 58 H (fun c91 E H=>?_) fun c91 E H=>?_))
   refine plc E (.r 4 5 .nil) (fun a E=>E.fk 63 H (fun c92 E H=>?_) fun c92 E H=>?_)
   obtain ⟨t94,h95,H⟩:=bd H
   refine plq E S en11 (qAq.calls k66 _ _ _ S.own.sub h95) fun u93 S a E=>plc E (.r 10 2 .nil) (fun a E=>pld (hK90 _ _ (wp_ret (qCL ?_))))
   replace S:=S.pm [] 5
   obtain rfl:=si H
   exact rt1 E ⟨_,rfl,_,rfl,S⟩
   refine plc E (.r 9 3 .nil) (fun a E=>pld (hK90 _ _ (wp_ret (qCL ?_))))
   replace S:=S.pm [] 5
   obtain rfl:=si H
   exact rt1 E ⟨_,rfl,_,rfl,S⟩
   refine plc E (.r 4 8 .nil) (fun a E=>pld (hK90 _ _ (wp_ret (qCL ?_))))
   replace S:=S.pm [] 5
   obtain rfl:=si H
   exact rt1 E ⟨_,rfl,_,rfl,S⟩
  refine pl0 ?_
  have hb2:=S.ba 1
  refine plc E (.bn 0 0 7 hb2<|.r 1 1<|.nil) (fun a E=>?_)
  obtain ⟨t60,h61,H⟩:=bd H
  refine plq E S en20 (qBE.calls k55 x z _ _ _ _ _ _ _ _ _ _ _ S.own.sub g0_4 g0_5 g0_6 g2_0 h61) fun u59 S a E=>plc E (.r 3 1 .nil) (fun a E=>E.fb 36 H (fun c62 E H=>?_) fun c62 E H=>?_)
  refine plc E (.r 4 2<|.b 6 3 (S.ba 1)<|.r 7 2<|.nil) (fun a E=>pld ?_)
  exact J67 _ (by omega) _ (decide (x52<x.f3)) _ _ E .of S H
  refine plc E (.r 4 5 .nil) (fun a E=>pld ?_)
  exact J67 _ (by omega) _ false _ _ E .of S H
 refine pl0 (plc E (.bn 0 0 7 (S.ba 1) .nil) (fun a E=>?_))
 obtain ⟨t9,h10,H⟩:=bd H
 refine plq E S en10 (qV.calls k x _ _ _ _ _ _ _ _ _ S.own.sub g0_4 g0_5 g0_6 h10) fun u8 S a E=>plc E (.r 2 2 .nil) (fun a E=>E.fbn 14 H (fun c11 E H=>?_) fun c11 E H=>?_)
 refine plc E (.r 4 1<|.b 5 6 (S.ba 0)<|.r 6 4<|.nil) (fun a E=>E.fk 20 H (fun c12 E H=>?_) fun c12 E H=>?_)
 refine plc E (.r 10 4 .nil) (fun a E=>pld ?_)
 exact J17 _ (by omega) _ true _ _ E .of S H
 refine plc E (.r 10 4 .nil) (fun a E=>pld ?_)
 exact J17 _ (by omega) _ (decide ((z.length:Int)>30)) _ _ E .of S H
 refine plc E (.r 4 10 .nil) (fun a E=>pld ?_)
 exact J17 _ (by omega) _ true _ _ E .of S H
end Go.Proofs.YthgfhlbjkmjlpaaGreat.GT
