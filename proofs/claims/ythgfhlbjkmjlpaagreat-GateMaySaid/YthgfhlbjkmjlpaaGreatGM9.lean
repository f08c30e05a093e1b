import Derived.Test.YthgfhlbjkmjlpaaGreatGM8
namespace Go.Proofs.YthgfhlbjkmjlpaaGreat.GM
open Go Go.RowKit Go.Proofs.YthgfhlbjkmjlpaaGreat.Sl
set_option linter.unusedVariables false
set_option linter.unusedSimpArgs false
set_option maxHeartbeats 4000000
set_option maxRecDepth 100000
def qBA.f(x:qE)(y:List Bool)(z:Int):Option Bool:=if 0≤z∧z<(y.length:Int) then (if (nth false y z)=true then (if 0≤z∧z<(x.f6.length:Int) then (some ((((nth qC.z x.f6 z).f1).length:Int) == 0)) else (none)) else (some false)) else (none)
def qBA.Post(W F:World)(r:Bool)(v:Value)(w':World):Prop:=∃(F':World),v = .bool r∧Sm W F w' F' []
theorem qBA.calls(x:qE)(y:List Bool)(z:Int)(A0_4:OA)(c0_4:Nat)(A0_5:OA)(c0_5:Nat)(A0_6:OA)(c0_6:Nat)(A1_0:OA)(c1_0:Nat)(r:Bool)(W F:World)(hown:Sub F W)(g0_4:Rd qA.k F A0_4 c0_4 x.f4)(g0_5:Rd qD.k F A0_5 c0_5 x.f5)(g0_6:Rd qC.k F A0_6 c0_6 x.f6)(g1_0:Rd Kn.bool F A1_0 c1_0 y)(H:qBA.f x y z=some r):
    Cr 21 #[.agg #[iv x.f0,iv x.f1,iv x.f2,iv x.f3,.slice A0_4 x.f4.length c0_4,.slice A0_5 x.f5.length c0_5,.slice A0_6 x.f6.length c0_6],.slice A1_0 y.length c1_0,iv z] W (qBA.Post W F r):=by
 have S:=sT hown
 unfold qBA.f at H
 refine ent 21 rfl rfl rfl (fun a E=>?_)
 refine sq fun K1 hK1=>pl0 (plx (t:=26) E S [iv x.f0,iv x.f1,iv x.f2,iv x.f3,.slice A0_4 x.f4.length c0_4,.slice A0_5 x.f5.length c0_5,.slice A0_6 x.f6.length c0_6] fun b2 u3 hb2 S a E=>plc E (.r 1 1 .nil) (fun a E=>pld (hK1 _ _ (sq fun K4 hK4=>pl0 ?_))))
 obtain ⟨c5,H⟩:=gd H
 have hE_:=E
 obtain ⟨ad6,rfl⟩:=g1_0.addr c5.1 c5.2
 replace E:=hE_
 obtain ⟨cs8,rfl,hc9⟩:=g1_0.el false z c5.1 c5.2
 refine plc E (.r 0 2<|.x 2 c5<|.c 3 (S.fc hc9 0)<|.r 4 1<|.nil) (fun a E=>E.fb 11 H (fun c10 E H=>?_) fun c10 E H=>?_)
 obtain ⟨c11,H⟩:=gd H
 have hE_:=E
 obtain ⟨ad12,rfl⟩:=g0_6.addr c11.1 c11.2
 replace E:=hE_
 obtain ⟨cs14,⟨A16,c17,rfl,g18⟩,hc15⟩:=g0_6.el qC.z z c11.1 c11.2
 refine plc E (.r 5 1<|.b 6 6 hb2<|.r 7 1<|.x 8 c11<|.r 9 1<|.c 10 (S.fc hc15 1)<|.r 11 4<|.nil) (fun a E=>pld (hK4 _ _ (wp_ret ?_)))
 replace S:=S.tail
 obtain rfl:=si H
 exact rt1 E ⟨_,rfl,_,rfl,S⟩
 refine plc E (.r 5 10 .nil) (fun a E=>pld (hK4 _ _ (wp_ret ?_)))
 replace S:=S.tail
 obtain rfl:=si H
 exact rt1 E ⟨_,rfl,_,rfl,S⟩
mutual
def qO.j14:Nat→qE→qR→List Bool→Int→Bool→Option Int
 | 0,_,_,_,_,_=>none
 | k+1,x,y,z,p,y13=>if y13=true then (some 1) else ((qt.f k x y).bind fun t23=>(if t23.2=0 then ((qf.f k x y).bind fun t44=>(qO.l57 k x z p t23 t44 (t44.length:Int) 0)) else (some t23.2)))
def qO.l57:Nat→qE→List Bool→Int→qE × Int→List Int→Int→Int→Option Int
 | 0,_,_,_,_,_,_,_=>none
 | k+1,x,z,p,t23,t44,x55,x56=>if x56<x.f3 then ((qBA.f x z x56).bind fun t67=>(if t67=true then (qO.l57 k x z p t23 t44 x55 (w64 (x56+1))) else (qO.l57 k x z p t23 t44 (w64 (x55+1)) (w64 (x56+1))))) else (qO.l74 k x z p t23 t44 x55 false 0)
def qO.l74:Nat→qE→List Bool→Int→qE × Int→List Int→Int→Bool→Int→Option Int
 | 0,_,_,_,_,_,_,_,_=>none
 | k+1,x,z,p,t23,t44,x55,y72,x73=>if x73<(t44.length:Int) then (if y72=true then (qO.l74 k x z p t23 t44 x55 true (w64 (x73+1))) else (if 0≤x73∧x73<(t44.length:Int) then ((qBA.f x z (nth 0 t44 x73)).bind fun t90=>(qO.l74 k x z p t23 t44 x55 (!t90) (w64 (x73+1)))) else (none))) else (if (t44.length:Int)>0 then (if y72=true then (qO.j97 k x t23 t44 true) else (qO.j97 k x t23 t44 (decide (x55>p)))) else (qO.j97 k x t23 t44 false))
def qO.j97:Nat→qE→qE × Int→List Int→Bool→Option Int
 | 0,_,_,_,_=>none
 | k+1,x,t23,t44,y96=>if y96=true then (some 11) else (qO.l108 k x t23 t44 0)
def qO.l108:Nat→qE→qE × Int→List Int→Int→Option Int
 | 0,_,_,_,_=>none
 | k+1,x,t23,t44,x106=>if x106<(t44.length:Int) then (if 0≤x106∧x106<(t44.length:Int) then ((qv.f k t23.1 (nth 0 t44 x106)).bind fun t124=>(if (t124.length:Int)<x.f2 then (qO.j137 k x t23 t44 x106 true) else ((qn.f k t23.1.f4 t124).bind fun t134=>(qO.j137 k x t23 t44 x106 (!t134))))) else (none)) else (some 0)
def qO.j137:Nat→qE→qE × Int→List Int→Int→Bool→Option Int
 | 0,_,_,_,_,_=>none
 | k+1,x,t23,t44,x106,y136=>if y136=true then (some 12) else (qO.l108 k x t23 t44 (w64 (x106+1)))
end
theorem qO.j14_s k x y z p y13:type_of% (qO.j14.eq_2 x y z p y13 k):=qO.j14.eq_2 x y z p y13 k
theorem qO.l57_s k x z p t23 t44 x55 x56:type_of% (qO.l57.eq_2 x z p t23 t44 x55 x56 k):=qO.l57.eq_2 x z p t23 t44 x55 x56 k
theorem qO.l74_s k x z p t23 t44 x55 y72 x73:type_of% (qO.l74.eq_2 x z p t23 t44 x55 y72 x73 k):=qO.l74.eq_2 x z p t23 t44 x55 y72 x73 k
theorem qO.j97_s k x t23 t44 y96:type_of% (qO.j97.eq_2 x t23 t44 y96 k):=qO.j97.eq_2 x t23 t44 y96 k
theorem qO.l108_s k x t23 t44 x106:type_of% (qO.l108.eq_2 x t23 t44 x106 k):=qO.l108.eq_2 x t23 t44 x106 k
theorem qO.j137_s k x t23 t44 x106 y136:type_of% (qO.j137.eq_2 x t23 t44 x106 y136 k):=qO.j137.eq_2 x t23 t44 x106 y136 k
def qO.f(k:Nat)(x:qE)(y:qR)(z:List Bool)(p:Int):Option Int:=(qBG.f k x z).bind fun t9=>(if t9=true then (if p<1 then (qO.j14 k x y z p true) else (qO.j14 k x y z p (decide (p>8)))) else (qO.j14 k x y z p true))
def qO.Post(W F:World)(r:Int)(v:Value)(w':World):Prop:=∃(F':World),v=iv r∧Sm W F w' F' []
theorem qO.calls(k:Nat)(x:qE)(y:qR)(z:List Bool)(p:Int)(A0_4:OA)(c0_4:Nat)(A0_5:OA)(c0_5:Nat)(A0_6:OA)(c0_6:Nat)(A1_6:OA)(c1_6:Nat)(A2_0:OA)(c2_0:Nat)(r:Int)(W F:World)(hown:Sub F W)(g0_4:Rd qA.k F A0_4 c0_4 x.f4)(g0_5:Rd qD.k F A0_5 c0_5 x.f5)(g0_6:Rd qC.k F A0_6 c0_6 x.f6)(g1_6:Rd ki F A1_6 c1_6 y.f6)(g2_0:Rd Kn.bool F A2_0 c2_0 z)(H:qO.f k x y z p=some r):
    Cr 13 #[.agg #[iv x.f0,iv x.f1,iv x.f2,iv x.f3,.slice A0_4 x.f4.length c0_4,.slice A0_5 x.f5.length c0_5,.slice A0_6 x.f6.length c0_6],.agg #[iv y.f0,iv y.f1,iv y.f2,iv y.f3,iv y.f4,iv y.f5,.slice A1_6 y.f6.length c1_6],.slice A2_0 z.length c2_0,iv p] W (qO.Post W F r):=by
 have S:=sT hown
 unfold qO.f at H
 refine ent 109 rfl rfl rfl (fun a E=>?_)
 refine sq fun K1 hK1=>pl0 (plx (t:=26) E S [iv x.f0,iv x.f1,iv x.f2,iv x.f3,.slice A0_4 x.f4.length c0_4,.slice A0_5 x.f5.length c0_5,.slice A0_6 x.f6.length c0_6] fun b2 u3 hb2 S a E=>plx (t:=29) E S [iv y.f0,iv y.f1,iv y.f2,iv y.f3,iv y.f4,iv y.f5,.slice A1_6 y.f6.length c1_6] fun b4 u5 hb4 S a E=>plc E (.r 2 1 .nil) (fun a E=>pld (hK1 _ _ (sq fun K6 hK6=>sq fun K7 hK7=>?_))))
 have J17:∀ kq15,kq15≤k→∀(G:NV)(y13:Bool)(a:Act)(w':World),Env 109 G a→At G [(2,.slice A2_0 z.length c2_0),(3,iv p),(4,.pointer (pb b2)),(5,.pointer (pb b4)),(29,.bool y13)]→Sm W F w' F [box b4 #[iv y.f0,iv y.f1,iv y.f2,iv y.f3,iv y.f4,iv y.f5,.slice A1_6 y.f6.length c1_6] 29,box b2 #[iv x.f0,iv x.f1,iv x.f2,iv x.f3,.slice A0_4 x.f4.length c0_4,.slice A0_5 x.f5.length c0_5,.slice A0_6 x.f6.length c0_6] 26]→qO.j14 kq15 x y z p y13=some r→K7 a w':=by
  intro kq15 hkq G y13 a u18 E A S H
  obtain _ | k16:=kq15
  exact zz H
  rw [qO.j14_s]at H
  obtain ⟨J,E⟩:=E.at A
  refine hK7 _ _ (E.ib 29 H (fun c19 E H=>?_) fun c19 E H=>?_)
  refine rr E fun a E=>(wp_ret (qCM ?_))
  replace S:=S.pm [] 2
  obtain rfl:=si H
  exact rt1 E ⟨_,rfl,_,rfl,S⟩
  refine wp_skip (hK6 _ _ (sq fun K21 hK21=>pl0 ?_))
  have hb2:=S.ba 1
  have hb4:=S.ba 0
  refine plc E (.bn 0 0 7 hb2<|.bn 1 0 7 hb4<|.nil) (fun a E=>?_)
  obtain ⟨t23,h24,H⟩:=bd H
  refine ple E (.cl en14 (qt.calls k16 x y _ _ _ _ _ _ _ _ _ _ _ S.own.sub g0_4 g0_5 g0_6 g1_6 h24)) ?_
  rintro _ u22 a ⟨F25,A26,c27,A29,c30,A32,c33,rfl,hC,g28,g31,g34⟩ E
  have hs:=hC.sub
  replace S:=S.called (X:=[]) hC
  replace g2_0:=g2_0.mono hs
  replace g0_4:=g0_4.mono hs
  replace g0_5:=g0_5.mono hs
  replace g0_6:=g0_6.mono hs
  replace g1_6:=g1_6.mono hs
  refine plc E (.r 3 3 .nil) (fun a E=>pla (t:=26) E S [iv 0,iv 0,iv 0,iv 0,.slice none 0 0,.slice none 0 0,.slice none 0 0] fun b35 u36 hb35 S a E=>pls E S [iv t23.1.f0,iv t23.1.f1,iv t23.1.f2,iv t23.1.f3,.slice A26 t23.1.f4.length c27,.slice A29 t23.1.f5.length c30,.slice A32 t23.1.f6.length c33] fun u37 hb35 S a E=>plc E (.r 8 1 .nil) (fun a E=>pld (hK21 _ _ (sq fun K38 hK38=>rr E fun a E=>(E.ikn 37 H (fun c40 E H=>?_) fun c40 E H=>?_)))))
  refine wp_skip (hK38 _ _ (sq fun K42 hK42=>pl0 (plc E (.bn 0 0 7 (S.ba 2)<|.bn 1 0 7 (S.ba 1)<|.nil) (fun a E=>?_))))
  obtain ⟨t44,h45,H⟩:=bd H
  refine ple E (.cl en15 (qf.calls k16 x y _ _ _ _ _ _ _ _ _ _ _ S.own.sub g0_4 g0_5 g0_6 g1_6 h45)) ?_
  rintro _ u43 a ⟨F46,A47,c48,rfl,hC⟩ E
  have hs:=hC.sub
  replace S:=S.called (X:=[]) hC
  replace g2_0:=g2_0.mono hs
  replace g28:=g28.mono hs
  replace g31:=g31.mono hs
  replace g34:=g34.mono hs
  replace g0_4:=g0_4.mono hs
  replace g0_5:=g0_5.mono hs
  replace g0_6:=g0_6.mono hs
  replace g1_6:=g1_6.mono hs
  refine plc E (.r 3 1 .nil) (fun a E=>pld (hK42 _ _ (rr E fun a E=>(rr E fun a E=>(sq fun K53 hK53=>rr E fun a E=>(wp_block ?_))))))
  replace S:=S.pm [1,2,3,0] 4
  refine wp_loop_ghost (fun kq58 a w'=>∃(G:NV)(x55:Int)(x56:Int),kq58≤k16∧Env 109 G a∧At G [(2,.slice A2_0 z.length c2_0),(3,iv p),(4,.pointer (pb b2)),(9,.pointer (pb b35)),(11,.slice A47 t44.length c48),(12,iv x55),(13,.bool false),(14,iv x56)]∧Sm W F w' F46 [box b35 #[iv t23.1.f0,iv t23.1.f1,iv t23.1.f2,iv t23.1.f3,.slice A26 t23.1.f4.length c27,.slice A29 t23.1.f5.length c30,.slice A32 t23.1.f6.length c33] 26,box b4 #[iv y.f0,iv y.f1,iv y.f2,iv y.f3,iv y.f4,iv y.f5,.slice A1_6 y.f6.length c1_6] 29,box b2 #[iv x.f0,iv x.f1,iv x.f2,iv x.f3,.slice A0_4 x.f4.length c0_4,.slice A0_5 x.f5.length c0_5,.slice A0_6 x.f6.length c0_6] 26,row ki 3 (.slice A47 t44.length c48) t44]∧qO.l57 kq58 x z p t23 t44 x55 x56=some r) k16 ⟨_,(t44.length:Int),0,Nat.le_refl _,E,.of,S,H⟩ ?_
  rintro kq58 a u60 ⟨G,x55,x56,hkq,E,A,S,H⟩
  obtain _ | k59:=kq58
  exact zz H
  rw [qO.l57_s]at H
  obtain ⟨J,E⟩:=E.at A
  refine sq fun K61 hK61=>sq fun K62 hK62=>pl0 ?_
  have hb2:=S.ba 2
  refine plc E (.r 0 2<|.b 2 3 hb2<|.r 3 1<|.nil) (fun a E=>pld (hK62 _ _ (E.ik 47 H (fun c63 E H=>?_) fun c63 E H=>?_)))
  refine wp_skip (hK61 _ _ (sq fun K64 hK64=>wp_block (sq fun K65 hK65=>pl0 (plc E (.bn 0 0 7 hb2<|.r 1 2<|.nil) (fun a E=>?_)))))
  obtain ⟨t67,h68,H⟩:=bd H
  refine plq E S en21 (qBA.calls x z x56 _ _ _ _ _ _ _ _ _ _ _ S.own.sub g0_4 g0_5 g0_6 g2_0 h68) fun u66 S a E=>plc E (.r 4 1 .nil) (fun a E=>pld (hK65 _ _ (E.ibn 54 H (fun c69 E H=>?_) fun c69 E H=>?_)))
  refine wp_skip ?_
  refine qCO ?_
  refine hK64 _ _ (pl0 (plc E (.r 0 3 .nil) (fun a E=>pld ?_)))
  exact qCP ⟨k59,by omega,_,x55,(w64 (x56+1)),by omega,E,.of,S,H⟩
  refine pl0 (plc E (.r 0 3 .nil) (fun a E=>pld ?_))
  refine qCO ?_
  refine hK64 _ _ (pl0 (plc E (.r 0 3 .nil) (fun a E=>pld ?_)))
  exact qCP ⟨k59,by omega,_,(w64 (x55+1)),(w64 (x56+1)),by omega,E,.of,S,H⟩
  refine wp_exit ?_
  refine hK53 _ _ (sq fun K70 hK70=>rr E fun a E=>(wp_block ?_))
  refine wp_loop_ghost (fun kq75 a w'=>∃(G:NV)(y72:Bool)(x73:Int),kq75≤k59∧Env 109 G a∧At G [(2,.slice A2_0 z.length c2_0),(3,iv p),(4,.pointer (pb b2)),(9,.pointer (pb b35)),(11,.slice A47 t44.length c48),(12,iv x55),(13,.bool y72),(15,iv x73)]∧Sm W F w' F46 [box b35 #[iv t23.1.f0,iv t23.1.f1,iv t23.1.f2,iv t23.1.f3,.slice A26 t23.1.f4.length c27,.slice A29 t23.1.f5.length c30,.slice A32 t23.1.f6.length c33] 26,box b4 #[iv y.f0,iv y.f1,iv y.f2,iv y.f3,iv y.f4,iv y.f5,.slice A1_6 y.f6.length c1_6] 29,box b2 #[iv x.f0,iv x.f1,iv x.f2,iv x.f3,.slice A0_4 x.f4.length c0_4,.slice A0_5 x.f5.length c0_5,.slice A0_6 x.f6.length c0_6] 26,row ki 3 (.slice A47 t44.length c48) t44]∧qO.l74 kq75 x z p t23 t44 x55 y72 x73=some r) k59 ⟨_,false,0,Nat.le_refl _,E,.of,S,H⟩ ?_
  rintro kq75 a u77 ⟨G,y72,x73,hkq,E,A,S,H⟩
  obtain _ | k76:=kq75
  exact zz H
  rw [qO.l74_s]at H
  obtain ⟨J,E⟩:=E.at A
  refine sq fun K78 hK78=>rr E fun a E=>(E.ik 60 H (fun c80 E H=>?_) fun c80 E H=>?_)
  refine wp_skip (hK78 _ _ (sq fun K81 hK81=>wp_block ?_))
  refine drawn 12 ⟨[],[],fun q=>False⟩ mixed rfl (by kernel_rfl) (fun hst=>?_)
  replace S:=S.drew
  refine mny 10 hst E (.r 0 2 .nil) (fun a E=>?_)
  refine E.fb 13 H (fun c82 E H=>?_) fun c82 E H=>?_
  replace E:=E.bt 64 c82
  refine mny 0 hst E (.r 2 10 .nil) (fun a E=>?_)
  refine dn ?_
  refine qCO ?_
  refine hK81 _ _ (pl0 (plc E (.r 0 3 .nil) (fun a E=>pld ?_)))
  exact qCP ⟨k76,by omega,_,true,(w64 (x73+1)),by omega,E,.of,S,H⟩
  replace E:=E.bf 64 c82
  have hb2:=S.ba 2
  obtain ⟨c83,H⟩:=gd H
  have hr84:=S.ra 3
  have hE_:=E
  obtain ⟨b85,rfl⟩:=qCS hr84 c83.1 c83.2
  replace E:=hE_
  have hr_:=S.ra 3
  obtain ⟨cs87,rfl,hc88⟩:=qCR hr_ 0 x73 c83.1 c83.2
  refine mny 4 hst E (.bn 2 0 7 hb2<|.r 3 3<|.x 6 c83<|.c 7 (hc88 0 _ rfl)<|.nil) (fun a E=>?_)
  obtain ⟨t90,h91,H⟩:=bd H
  refine on1 8 E (.cl en21 (qBA.calls x z (nth 0 t44 x73) _ _ _ _ _ _ _ _ _ _ _ S.own.sub g0_4 g0_5 g0_6 g2_0 h91)) ?_
  rintro _ u89 a ⟨_,rfl,hC⟩ E
  refine ⟨.of hC.agr,?_⟩
  replace S:=S.lent hC
  refine mny 0 hst E (.r 9 3 .nil) (fun a E=>?_)
  refine dn ?_
  refine qCO ?_
  refine hK81 _ _ (pl0 (plc E (.r 0 3 .nil) (fun a E=>pld ?_)))
  exact qCP ⟨k76,by omega,_,(!t90),(w64 (x73+1)),by omega,E,.of,S,H⟩
  refine wp_exit ?_
  refine hK70 _ _ (sq fun K92 hK92=>sq fun K93 hK93=>?_)
  have J100:∀ kq98,kq98≤k76→∀(G:NV)(y96:Bool)(a:Act)(w':World),Env 109 G a→At G [(4,.pointer (pb b2)),(9,.pointer (pb b35)),(11,.slice A47 t44.length c48),(84,.bool y96)]→Sm W F w' F46 [box b35 #[iv t23.1.f0,iv t23.1.f1,iv t23.1.f2,iv t23.1.f3,.slice A26 t23.1.f4.length c27,.slice A29 t23.1.f5.length c30,.slice A32 t23.1.f6.length c33] 26,box b4 #[iv y.f0,iv y.f1,iv y.f2,iv y.f3,iv y.f4,iv y.f5,.slice A1_6 y.f6.length c1_6] 29,box b2 #[iv x.f0,iv x.f1,iv x.f2,iv x.f3,.slice A0_4 x.f4.length c0_4,.slice A0_5 x.f5.length c0_5,.slice A0_6 x.f6.length c0_6] 26,row ki 3 (.slice A47 t44.length c48) t44]→qO.j97 kq98 x t23 t44 y96=some r→K93 a w':=by
   intro kq98 hkq G y96 a u101 E A S H
   obtain _ | k99:=kq98
   exact zz H
   rw [qO.j97_s]at H
   obtain ⟨J,E⟩:=E.at A
   refine hK93 _ _ (E.ib 84 H (fun c102 E H=>?_) fun c102 E H=>?_)
   refine rr E fun a E=>(wp_ret (qCM ?_))
   replace S:=S.pm [] 4
   obtain rfl:=si H
   exact rt1 E ⟨_,rfl,_,rfl,S⟩
   refine wp_skip (hK92 _ _ (sq fun K104 hK104=>rr E fun a E=>(wp_block ?_)))
   refine wp_loop_ghost (fun kq109 a w'=>∃(G:NV)(x106:Int)(F107:World),kq109≤k99∧Env 109 G a∧At G [(4,.pointer (pb b2)),(9,.pointer (pb b35)),(11,.slice A47 t44.length c48),(16,iv x106)]∧Sm W F w' F107 [box b35 #[iv t23.1.f0,iv t23.1.f1,iv t23.1.f2,iv t23.1.f3,.slice A26 t23.1.f4.length c27,.slice A29 t23.1.f5.length c30,.slice A32 t23.1.f6.length c33] 26,box b4 #[iv y.f0,iv y.f1,iv y.f2,iv y.f3,iv y.f4,iv y.f5,.slice A1_6 y.f6.length c1_6] 29,box b2 #[iv x.f0,iv x.f1,iv x.f2,iv x.f3,.slice A0_4 x.f4.length c0_4,.slice A0_5 x.f5.length c0_5,.slice A0_6 x.f6.length c0_6] 26,row ki 3 (.slice A47 t44.length c48) t44]∧Rd qA.k F107 A26 c27 t23.1.f4∧Rd qD.k F107 A29 c30 t23.1.f5∧Rd qC.k F107 A32 c33 t23.1.f6∧Rd ki F107 A1_6 c1_6 y.f6∧Rd qA.k F107 A0_4 c0_4 x.f4∧Rd qD.k F107 A0_5 c0_5 x.f5∧Rd qC.k F107 A0_6 c0_6 x.f6∧qO.l108 kq109 x t23 t44 x106=some r) k99 ⟨_,0,F46,Nat.le_refl _,E,.of,S,g28,g31,g34,g1_6,g0_4,g0_5,g0_6,H⟩ ?_
   rintro kq109 a u111 ⟨G,x106,F107,hkq,E,A,S,g28,g31,g34,g1_6,g0_4,g0_5,g0_6,H⟩
   obtain _ | k110:=kq109
   exact zz H
   rw [qO.l108_s]at H
   obtain ⟨J,E⟩:=E.at A
   refine sq fun K112 hK112=>rr E fun a E=>(E.ik 88 H (fun c114 E H=>?_) fun c114 E H=>?_)
   refine wp_skip (hK112 _ _ (sq fun K115 hK115=>wp_block (sq fun K116 hK116=>?_)))
   refine drawn 7 ⟨[],[],fun q=>False⟩ mixed rfl (by kernel_rfl) (fun hst=>?_)
   replace S:=S.drew
   have hb35:=S.ba 0
   obtain ⟨c117,H⟩:=gd H
   have hr118:=S.ra 3
   have hE_:=E
   obtain ⟨b119,rfl⟩:=qCS hr118 c117.1 c117.2
   replace E:=hE_
   have hr_:=S.ra 3
   obtain ⟨cs121,rfl,hc122⟩:=qCR hr_ 0 x106 c117.1 c117.2
   refine mny 2 hst E (.bn 0 0 7 hb35<|.r 1 2<|.x 3 c117<|.c 4 (hc122 0 _ rfl)<|.nil) (fun a E=>?_)
   obtain ⟨t124,h125,H⟩:=bd H
   refine on1 5 E (.cl en16 (qv.calls k110 t23.1 (nth 0 t44 x106) _ _ _ _ _ _ _ _ _ S.own.sub g28 g31 g34 h125)) ?_
   rintro _ u123 a ⟨F126,A127,c128,rfl,hC⟩ E
   refine ⟨.of hC.agr,?_⟩
   have hs:=hC.sub
   replace S:=S.called (X:=[]) hC
   replace g28:=g28.mono hs
   replace g31:=g31.mono hs
   replace g34:=g34.mono hs
   replace g1_6:=g1_6.mono hs
   replace g0_4:=g0_4.mono hs
   replace g0_5:=g0_5.mono hs
   replace g0_6:=g0_6.mono hs
   refine mny 0 hst E (.r 6 1 .nil) (fun a E=>?_)
   refine dn ?_
   refine hK116 _ _ (sq fun K131 hK131=>?_)
   have J140:∀ kq138,kq138≤k110→∀(G:NV)(y136:Bool)(a:Act)(w':World),Env 109 G a→At G [(4,.pointer (pb b2)),(9,.pointer (pb b35)),(11,.slice (pb b119) t44.length c48),(16,iv x106),(108,.bool y136)]→Sm W F w' F126 [box b35 #[iv t23.1.f0,iv t23.1.f1,iv t23.1.f2,iv t23.1.f3,.slice A26 t23.1.f4.length c27,.slice A29 t23.1.f5.length c30,.slice A32 t23.1.f6.length c33] 26,box b4 #[iv y.f0,iv y.f1,iv y.f2,iv y.f3,iv y.f4,iv y.f5,.slice A1_6 y.f6.length c1_6] 29,box b2 #[iv x.f0,iv x.f1,iv x.f2,iv x.f3,.slice A0_4 x.f4.length c0_4,.slice A0_5 x.f5.length c0_5,.slice A0_6 x.f6.length c0_6] 26,row ki 3 (.slice (pb b119) t44.length c48) t44]→qO.j137 kq138 x t23 t44 x106 y136=some r→K131 a w':=by
    intro kq138 hkq G y136 a u141 E A S H
    obtain _ | k139:=kq138
    exact zz H
    rw [qO.j137_s]at H
    obtain ⟨J,E⟩:=E.at A
    refine hK131 _ _ (E.ib 108 H (fun c142 E H=>?_) fun c142 E H=>?_)
    refine rr E fun a E=>(wp_ret (qCN (qCM (qCM (qCN (qCM ?_))))))
    replace S:=S.pm [] 4
    obtain rfl:=si H
    exact rt1 E ⟨_,rfl,_,rfl,S⟩
    refine wp_skip ?_
    refine qCO ?_
    refine hK115 _ _ (pl0 (plc E (.r 0 3 .nil) (fun a E=>pld ?_)))
    exact qCP ⟨k139,by omega,_,(w64 (x106+1)),F126,by omega,E,.of,S,g28,g31,g34,g1_6,g0_4,g0_5,g0_6,H⟩
   refine pl0 (plc E (.r 0 3<|.b 3 2 (S.ba 3)<|.r 4 2<|.nil) (fun a E=>E.fk 102 H (fun c132 E H=>?_) fun c132 E H=>?_))
   refine plc E (.r 6 6 .nil) (fun a E=>pld ?_)
   replace S:=S.tail
   exact J140 _ (by omega) _ true _ _ E .of S H
   refine plc E (.r 6 1<|.b 7 4 (S.ba 1)<|.r 8 1<|.nil) (fun a E=>?_)
   obtain ⟨t134,h135,H⟩:=bd H
   refine plq E S en17 (qn.calls k110 t23.1.f4 t124 _ _ _ _ _ _ _ (Sub.refl _) (g28.mono S.own.sub) (S.rd_at (i:=0) rfl) h135) fun u133 S a E=>plc E (.r 10 2 .nil) (fun a E=>pld ?_)
   replace S:=S.tail
   exact J140 _ (by omega) _ (!t134) _ _ E .of S H
   refine wp_exit ?_
   refine hK104 _ _ (rr E fun a E=>(wp_ret ?_))
   replace S:=S.pm [] 4
   obtain rfl:=si H
   exact rt1 E ⟨_,rfl,_,rfl,S⟩
  refine pl0 (plc E (.r 0 4 .nil) (fun a E=>E.fk 77 H (fun c94 E H=>?_) fun c94 E H=>?_))
  refine plc E (.r 4 2 .nil) (fun a E=>E.fb 79 H (fun c95 E H=>?_) fun c95 E H=>?_)
  refine plc E (.r 6 5 .nil) (fun a E=>pld ?_)
  exact J100 _ (by omega) _ true _ _ E .of S H
  refine plc E (.r 6 5 .nil) (fun a E=>pld ?_)
  exact J100 _ (by omega) _ (decide (x55>p)) _ _ E .of S H
  refine plc E (.r 4 7 .nil) (fun a E=>pld ?_)
  exact J100 _ (by omega) _ false _ _ E .of S H
  refine rr E fun a E=>(wp_ret (qCM ?_))
  replace S:=S.pm [] 3
  obtain rfl:=si H
  exact rt1 E ⟨_,rfl,_,rfl,S⟩
 refine pl0 (plc E (.bn 0 0 7 (S.ba 1)<|.r 1 1<|.nil) (fun a E=>?_))
 obtain ⟨t9,h10,H⟩:=bd H
 refine plq E S en20 (qBG.calls k x z _ _ _ _ _ _ _ _ _ _ _ S.own.sub g0_4 g0_5 g0_6 g2_0 h10) fun u8 S a E=>plc E (.r 3 2 .nil) (fun a E=>E.fbn 22 H (fun c11 E H=>?_) fun c11 E H=>?_)
 refine plc E (.r 5 4 .nil) (fun a E=>E.fk 26 H (fun c12 E H=>?_) fun c12 E H=>?_)
 refine plc E (.r 9 3 .nil) (fun a E=>pld ?_)
 exact J17 _ (by omega) _ true _ _ E .of S H
 refine plc E (.r 9 3 .nil) (fun a E=>pld ?_)
 exact J17 _ (by omega) _ (decide (p>8)) _ _ E .of S H
 refine plc E (.r 5 7 .nil) (fun a E=>pld ?_)
 exact J17 _ (by omega) _ true _ _ E .of S H
def qAI.j16:Nat→qE→qR→qAx→Bool→Option Bool
 | 0,_,_,_,_=>none
 | k+1,x,y,z,y15=>if y15=true then ((qAu.f k).bind fun t24=>(some t24)) else ((qAh.f k x y z.f0 z.f1).bind fun t28=>((qO.f k x y z.f0 z.f1).bind fun t31=>(if t28=t31 then ((qAu.f k).bind fun t35=>(some t35)) else (some false))))
theorem qAI.j16_s k x y z y15:type_of% (qAI.j16.eq_2 x y z y15 k):=qAI.j16.eq_2 x y z y15 k
def qAI.f(k:Nat)(x:qE)(y:qR)(z:qAx):Option Bool:=(qW.f k x).bind fun t11=>(if t11=true then (if (y.f6.length:Int)>20 then (qAI.j16 k x y z true) else (qAI.j16 k x y z (decide ((z.f0.length:Int)>30)))) else (qAI.j16 k x y z true))
def qAI.Post(W F:World)(r:Bool)(v:Value)(w':World):Prop:=∃(F':World),v = .bool r∧Sm W F w' F' []
theorem qAI.calls(k:Nat)(x:qE)(y:qR)(z:qAx)(A0_4:OA)(c0_4:Nat)(A0_5:OA)(c0_5:Nat)(A0_6:OA)(c0_6:Nat)(A1_6:OA)(c1_6:Nat)(A2_0:OA)(c2_0:Nat)(r:Bool)(W F:World)(hown:Sub F W)(g0_4:Rd qA.k F A0_4 c0_4 x.f4)(g0_5:Rd qD.k F A0_5 c0_5 x.f5)(g0_6:Rd qC.k F A0_6 c0_6 x.f6)(g1_6:Rd ki F A1_6 c1_6 y.f6)(g2_0:Rd Kn.bool F A2_0 c2_0 z.f0)(H:qAI.f k x y z=some r):
    Cr 3 #[.agg #[iv x.f0,iv x.f1,iv x.f2,iv x.f3,.slice A0_4 x.f4.length c0_4,.slice A0_5 x.f5.length c0_5,.slice A0_6 x.f6.length c0_6],.agg #[iv y.f0,iv y.f1,iv y.f2,iv y.f3,iv y.f4,iv y.f5,.slice A1_6 y.f6.length c1_6],.agg #[.slice A2_0 z.f0.length c2_0,iv z.f1]] W (qAI.Post W F r):=by
 have S:=sT hown
 unfold qAI.f at H
 refine ent 41 rfl rfl rfl (fun a E=>?_)
 refine sq fun K1 hK1=>pl0 (plx (t:=26) E S [iv x.f0,iv x.f1,iv x.f2,iv x.f3,.slice A0_4 x.f4.length c0_4,.slice A0_5 x.f5.length c0_5,.slice A0_6 x.f6.length c0_6] fun b2 u3 hb2 S a E=>plx (t:=29) E S [iv y.f0,iv y.f1,iv y.f2,iv y.f3,iv y.f4,iv y.f5,.slice A1_6 y.f6.length c1_6] fun b4 u5 hb4 S a E=>plx (t:=32) E S [.slice A2_0 z.f0.length c2_0,iv z.f1] fun b6 u7 hb6 S a E=>plc E (.r 3 1 .nil) (fun a E=>pld (hK1 _ _ (sq fun K8 hK8=>sq fun K9 hK9=>?_))))
 have J19:∀ kq17,kq17≤k→∀(G:NV)(y15:Bool)(a:Act)(w':World),Env 41 G a→At G [(3,.pointer (pb b2)),(4,.pointer (pb b4)),(5,.pointer (pb b6)),(21,.bool y15)]→Sm W F w' F [box b6 #[.slice A2_0 z.f0.length c2_0,iv z.f1] 32,box b4 #[iv y.f0,iv y.f1,iv y.f2,iv y.f3,iv y.f4,iv y.f5,.slice A1_6 y.f6.length c1_6] 29,box b2 #[iv x.f0,iv x.f1,iv x.f2,iv x.f3,.slice A0_4 x.f4.length c0_4,.slice A0_5 x.f5.length c0_5,.slice A0_6 x.f6.length c0_6] 26]→qAI.j16 kq17 x y z y15=some r→K9 a w':=by
  intro kq17 hkq G y15 a u20 E A S H
  obtain _ | k18:=kq17
  exact zz H
  rw [qAI.j16_s]at H
  obtain ⟨J,E⟩:=E.at A
  refine hK9 _ _ (E.ib 21 H (fun c21 E H=>?_) fun c21 E H=>?_)
  refine sq fun K22 hK22=>pl0 ?_
  obtain ⟨t24,h25,H⟩:=bd H
  refine plq E S en11 (qAu.calls k18 _ _ _ S.own.sub h25) fun u23 S a E=>plc E (.r 1 1 .nil) (fun a E=>pld (hK22 _ _ (wp_ret (qCM ?_))))
  replace S:=S.pm [] 3
  obtain rfl:=si H
  exact rt1 E ⟨_,rfl,_,rfl,S⟩
  refine wp_skip (hK8 _ _ (sq fun K26 hK26=>?_))
  refine drawn 19 ⟨[],[],fun q=>False⟩ mixed rfl (by kernel_rfl) (fun hst=>?_)
  replace S:=S.drew
  have hb2:=S.ba 2
  have hb4:=S.ba 1
  have hb6:=S.ba 0
  refine mny 7 hst E (.bn 0 0 7 hb2<|.bn 1 0 7 hb4<|.r 2 1<|.b 3 0 hb6<|.r 4 1<|.b 5 1 hb6<|.bn 7 0 7 hb2<|.bn 8 0 7 hb4<|.r 9 1<|.b 10 0 hb6<|.r 11 1<|.b 12 1 hb6<|.nil) (fun a E=>?_)
  obtain ⟨t28,h29,H⟩:=bd H
  refine on1 6 E (.cl en12 (qAh.calls k18 x y z.f0 z.f1 _ _ _ _ _ _ _ _ _ _ _ _ _ S.own.sub g0_4 g0_5 g0_6 g1_6 g2_0 h29)) ?_
  rintro _ u27 a ⟨_,rfl,hC⟩ E
  refine ⟨.of hC.agr,?_⟩
  replace S:=S.lent hC
  obtain ⟨t31,h32,H⟩:=bd H
  refine on1 13 E (.cl en13 (qO.calls k18 x y z.f0 z.f1 _ _ _ _ _ _ _ _ _ _ _ _ _ S.own.sub g0_4 g0_5 g0_6 g1_6 g2_0 h32)) ?_
  rintro _ u30 a ⟨_,rfl,hC⟩ E
  refine ⟨.of hC.agr,?_⟩
  replace S:=S.lent hC
  refine mny 3 hst E (.r 14 2 .nil) (fun a E=>?_)
  refine E.fk 38 H (fun c33 E H=>?_) fun c33 E H=>?_
  obtain ⟨t35,h36,H⟩:=bd H
  refine on1 16 E (.cl en11 (qAu.calls k18 _ _ _ S.own.sub h36)) ?_
  rintro _ u34 a ⟨_,rfl,hC⟩ E
  refine ⟨.of hC.agr,?_⟩
  replace S:=S.lent hC
  refine mny 0 hst E (.r 17 2 .nil) (fun a E=>?_)
  refine dn ?_
  refine hK26 _ _ (wp_ret ?_)
  replace S:=S.pm [] 3
  obtain rfl:=si H
  exact rt1 E ⟨_,rfl,_,rfl,S⟩
  refine mny 0 hst E (.r 16 3 .nil) (fun a E=>?_)
  refine dn ?_
  refine hK26 _ _ (wp_ret ?_)
  replace S:=S.pm [] 3
  obtain rfl:=si H
  exact rt1 E ⟨_,rfl,_,rfl,S⟩
 refine pl0 (plc E (.bn 0 0 7 (S.ba 2) .nil) (fun a E=>?_))
 obtain ⟨t11,h12,H⟩:=bd H
 refine plq E S en10 (qW.calls k x _ _ _ _ _ _ _ _ _ S.own.sub g0_4 g0_5 g0_6 h12) fun u10 S a E=>plc E (.r 2 2 .nil) (fun a E=>E.fbn 10 H (fun c13 E H=>?_) fun c13 E H=>?_)
 refine plc E (.r 4 1<|.b 5 6 (S.ba 1)<|.r 6 4<|.nil) (fun a E=>E.fk 16 H (fun c14 E H=>?_) fun c14 E H=>?_)
 refine plc E (.r 10 5 .nil) (fun a E=>pld ?_)
 exact J19 _ (by omega) _ true _ _ E .of S H
 refine plc E (.r 10 1<|.b 11 0 (S.ba 0)<|.r 12 3<|.nil) (fun a E=>pld ?_)
 exact J19 _ (by omega) _ (decide ((z.f0.length:Int)>30)) _ _ E .of S H
 refine plc E (.r 4 11 .nil) (fun a E=>pld ?_)
 exact J19 _ (by omega) _ true _ _ E .of S H
end Go.Proofs.YthgfhlbjkmjlpaaGreat.GM
