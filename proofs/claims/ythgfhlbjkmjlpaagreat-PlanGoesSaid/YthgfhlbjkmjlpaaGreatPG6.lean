import Derived.Test.YthgfhlbjkmjlpaaGreatPG5
namespace Go.Proofs.YthgfhlbjkmjlpaaGreat.PG
open Go Go.RowKit Go.Proofs.YthgfhlbjkmjlpaaGreat.Sl
set_option linter.unusedVariables false
set_option linter.unusedSimpArgs false
set_option maxHeartbeats 4000000
set_option maxRecDepth 100000
mutual
def qAn.l20:Nat→qD→qD→List qC→List qC→Int→Option (List qC)
 | 0,_,_,_,_,_=>none
 | k+1,x,y,t8,l17,x18=>if x18<(t8.length:Int) then (if 0≤x18∧x18<(t8.length:Int) then ((qCC.f k x x18).bind fun t44=>((qCK.f k x t44).bind fun t52=>((qCC.f k y x18).bind fun t62=>((qCK.f k y t62).bind fun t70=>((qq.f k t52 t70).bind fun t78=>(if t78=true then (qAn.l20 k x y t8 l17 (w64 (x18+1))) else (if (t52.length:Int)≥x.f2 then ((qAA.f t52).bind fun t91=>((qBJ.f k ((nth qC.z l17 x18).f1)).bind fun t110=>((qT.f k t110 (⟨(nth qC.z l17 x18).f0,t91⟩:qG)).bind fun t122=>(if ((t122.length:Int)+((1:Nat):Int)) * 32≤140737488355328 then (qAn.j144 k x y t8 l17 x18 (t122++[(⟨(nth qC.z l17 x18).f0,t91⟩:qG)])) else (none))))) else (qAn.j144 k x y t8 l17 x18 ((nth qC.z l17 x18).f1))))))))) else (none)) else (some l17)
def qAn.j144:Nat→qD→qD→List qC→List qC→Int→List qG→Option (List qC)
 | 0,_,_,_,_,_,_=>none
 | k+1,x,y,t8,l17,x18,l141=>qAn.l20 k x y t8 (l17.set (x18).toNat (⟨(w64 (x.f0+1)),l141⟩:qC)) (w64 (x18+1))
end
theorem qAn.l20_s k x y t8 l17 x18:type_of% (qAn.l20.eq_2 x y t8 l17 x18 k):=qAn.l20.eq_2 x y t8 l17 x18 k
theorem qAn.j144_s k x y t8 l17 x18 l141:type_of% (qAn.j144.eq_2 x y t8 l17 x18 l141 k):=qAn.j144.eq_2 x y t8 l17 x18 l141 k
def qAn.f(k:Nat)(x:qD)(y:qD):Option (List qC):=(qAN.f y.f6).bind fun t8=>(qAn.l20 k x y t8 t8 0)
def qAn.Post(W F:World)(r:List qC)(v:Value)(w':World):Prop:=∃(F':World)(RA0_0:OA)(rc0_0:Nat),v = .slice RA0_0 r.length rc0_0∧Sm W F w' F' [row qC.k 73 (.slice RA0_0 r.length rc0_0) r]
theorem qAn.calls(k:Nat)(x:qD)(y:qD)(A0_4:OA)(c0_4:Nat)(A0_5:OA)(c0_5:Nat)(A0_6:OA)(c0_6:Nat)(A1_4:OA)(c1_4:Nat)(A1_5:OA)(c1_5:Nat)(A1_6:OA)(c1_6:Nat)(r:List qC)(W F:World)(hown:Sub F W)(g0_4:Rd qA.k F A0_4 c0_4 x.f4)(g0_5:Rd qE.k F A0_5 c0_5 x.f5)(g0_6:Rd qC.k F A0_6 c0_6 x.f6)(g1_4:Rd qA.k F A1_4 c1_4 y.f4)(g1_5:Rd qE.k F A1_5 c1_5 y.f5)(g1_6:Rd qC.k F A1_6 c1_6 y.f6)(H:qAn.f k x y=some r):
    Cr 71 #[.agg #[iv x.f0,iv x.f1,iv x.f2,iv x.f3,.slice A0_4 x.f4.length c0_4,.slice A0_5 x.f5.length c0_5,.slice A0_6 x.f6.length c0_6],.agg #[iv y.f0,iv y.f1,iv y.f2,iv y.f3,.slice A1_4 y.f4.length c1_4,.slice A1_5 y.f5.length c1_5,.slice A1_6 y.f6.length c1_6]] W (qAn.Post W F r):=by
 have S:=sT hown
 unfold qAn.f at H
 refine ent 65 rfl rfl rfl (fun a E=>?_)
 refine sq fun K1 hK1=>pl0 (plx (t:=26) E S [iv x.f0,iv x.f1,iv x.f2,iv x.f3,.slice A0_4 x.f4.length c0_4,.slice A0_5 x.f5.length c0_5,.slice A0_6 x.f6.length c0_6] fun b2 u3 hb2 S a E=>plx (t:=26) E S [iv y.f0,iv y.f1,iv y.f2,iv y.f3,.slice A1_4 y.f4.length c1_4,.slice A1_5 y.f5.length c1_5,.slice A1_6 y.f6.length c1_6] fun b4 u5 hb4 S a E=>plc E (.r 2 1 .nil) (fun a E=>pld (hK1 _ _ (sq fun K6 hK6=>pl0 (plc E (.r 0 1<|.b 1 6 hb4<|.nil) (fun a E=>?_))))))
 obtain ⟨t8,h9,H⟩:=bd H
 refine ple E (.cl en98 (qAN.calls y.f6 _ _ _ _ _ S.own.sub g1_6 h9)) ?_
 rintro _ u7 a ⟨F10,A11,c12,rfl,hC⟩ E
 have hs:=hC.sub
 replace S:=S.called (X:=[]) hC
 replace g0_4:=g0_4.mono hs
 replace g0_5:=g0_5.mono hs
 replace g0_6:=g0_6.mono hs
 replace g1_4:=g1_4.mono hs
 replace g1_5:=g1_5.mono hs
 replace g1_6:=g1_6.mono hs
 refine plc E (.r 3 1 .nil) (fun a E=>pld (hK6 _ _ (sq fun K15 hK15=>rr E fun a E=>(wp_block ?_))))
 replace S:=S.pm [1,2,0] 3
 refine wp_loop_ghost (fun kq21 a w'=>∃(G:NV)(l17:List qC)(x18:Int)(F19:World),kq21≤k∧Env 65 G a∧At G [(2,.pointer (pb b2)),(3,.pointer (pb b4)),(5,.slice A11 t8.length c12),(13,.slice A11 t8.length c12),(14,iv (t8.length:Int)),(15,iv x18)]∧Sm W F w' F19 [box b4 #[iv y.f0,iv y.f1,iv y.f2,iv y.f3,.slice A1_4 y.f4.length c1_4,.slice A1_5 y.f5.length c1_5,.slice A1_6 y.f6.length c1_6] 26,box b2 #[iv x.f0,iv x.f1,iv x.f2,iv x.f3,.slice A0_4 x.f4.length c0_4,.slice A0_5 x.f5.length c0_5,.slice A0_6 x.f6.length c0_6] 26,row qC.k 73 (.slice A11 t8.length c12) l17]∧Rd qA.k F19 A1_4 c1_4 y.f4∧Rd qE.k F19 A1_5 c1_5 y.f5∧Rd qC.k F19 A1_6 c1_6 y.f6∧Rd qA.k F19 A0_4 c0_4 x.f4∧Rd qE.k F19 A0_5 c0_5 x.f5∧Rd qC.k F19 A0_6 c0_6 x.f6∧qAn.l20 kq21 x y t8 l17 x18=some r) k ⟨_,t8,0,F10,Nat.le_refl _,E,.of,S,g1_4,g1_5,g1_6,g0_4,g0_5,g0_6,H⟩ ?_
 rintro kq21 a u23 ⟨G,l17,x18,F19,hkq,E,A,S,g1_4,g1_5,g1_6,g0_4,g0_5,g0_6,H⟩
 obtain _ | k22:=kq21
 exact zz H
 rw [qAn.l20_s]at H
 obtain ⟨J,E⟩:=E.at A
 refine rr E fun a E=>(sq fun K25 hK25=>E.ik 16 H (fun c26 E H=>?_) fun c26 E H=>?_)
 refine wp_skip (hK25 _ _ (sq fun K27 hK27=>wp_block (sq fun K28 hK28=>pl0 ?_)))
 obtain ⟨c29,H⟩:=gd H
 have hr30:=S.ra 2
 have c31:0≤x18∧x18<(l17.length:Int):=by rw [← (qCU hr30).1]; exact c29
 have hE_:=E
 obtain ⟨b32,rfl⟩:=qCW hr30 c31.1 c31.2
 replace E:=hE_
 have hr_:=S.ra 2
 obtain ⟨cs34,⟨A36,c37,rfl,g38⟩,hc35⟩:=qCV hr_ qC.z x18 c31.1 c31.2
 refine plc E (.r 0 1<|.x 1 c29<|.cs 2 hc35<|.nil) (fun a E=>pla (t:=73) E S [iv 0,.slice none 0 0] fun b39 u40 hb39 S a E=>plc E (.r 4 1 .nil) (fun a E=>pls E S [iv ((nth qC.z l17 x18).f0),.slice A36 (((nth qC.z l17 x18).f1).length) c37] fun u41 hb39 S a E=>pld (hK28 _ _ (sq fun K42 hK42=>?_))))
 refine drawn 6 ⟨[4],[],fun q=>False⟩ mixed rfl (by kernel_rfl) (fun hst=>?_)
 replace S:=S.drew
 have hb2:=S.ba 2
 refine mny 3 hst E (.bn 0 0 7 hb2<|.bn 1 0 7 hb2<|.r 2 1<|.nil) (fun a E=>?_)
 obtain ⟨t44,h45,H⟩:=bd H
 refine on1 3 E (.cl en94 (qCC.calls k22 x x18 _ _ _ _ _ _ _ _ _ S.own.sub g0_4 g0_5 g0_6 h45)) ?_
 rintro _ u43 a ⟨F46,A47,c48,rfl,hC⟩ E
 refine ⟨.of hC.agr,?_⟩
 have hs:=hC.sub
 replace S:=S.called (X:=[]) hC
 replace g38:=g38.mono hs
 replace g0_4:=g0_4.mono hs
 replace g0_5:=g0_5.mono hs
 replace g0_6:=g0_6.mono hs
 replace g1_4:=g1_4.mono hs
 replace g1_5:=g1_5.mono hs
 replace g1_6:=g1_6.mono hs
 obtain ⟨t52,h53,H⟩:=bd H
 refine on1 4 E (.cl en73 (qCK.calls k22 x t44 _ _ _ _ _ _ _ _ _ _ _ (Own.left (X:=[row ki 3 (.slice A47 t44.length c48) t44]) S.own) g0_4 g0_5 g0_6 h53)) ?_
 rintro _ u51 a ⟨F54,A55,c56,rfl,hC⟩ E
 refine ⟨.d,?_⟩
 have hs:=hC.sub
 replace S:=S.called (X:=[row ki 3 (.slice A47 t44.length c48) t44]) hC
 replace g38:=g38.mono hs
 replace g0_4:=g0_4.mono hs
 replace g0_5:=g0_5.mono hs
 replace g0_6:=g0_6.mono hs
 replace g1_4:=g1_4.mono hs
 replace g1_5:=g1_5.mono hs
 replace g1_6:=g1_6.mono hs
 refine mny 0 hst E (.r 5 1 .nil) (fun a E=>?_)
 refine dn ?_
 refine hK42 _ _ (sq fun K59 hK59=>sq fun K60 hK60=>?_)
 refine drawn 7 ⟨[5],[],fun q=>False⟩ mixed rfl (by kernel_rfl) (fun hst=>?_)
 replace S:=S.drew
 have hb4:=S.ba 2
 refine mny 3 hst E (.r 0 1<|.bn 1 0 7 hb4<|.bn 2 0 7 hb4<|.r 3 1<|.nil) (fun a E=>?_)
 obtain ⟨t62,h63,H⟩:=bd H
 refine on1 4 E (.cl en94 (qCC.calls k22 y x18 _ _ _ _ _ _ _ _ _ S.own.sub g1_4 g1_5 g1_6 h63)) ?_
 rintro _ u61 a ⟨F64,A65,c66,rfl,hC⟩ E
 refine ⟨.of hC.agr,?_⟩
 have hs:=hC.sub
 replace S:=S.called (X:=[]) hC
 replace g38:=g38.mono hs
 replace g0_4:=g0_4.mono hs
 replace g0_5:=g0_5.mono hs
 replace g0_6:=g0_6.mono hs
 replace g1_4:=g1_4.mono hs
 replace g1_5:=g1_5.mono hs
 replace g1_6:=g1_6.mono hs
 obtain ⟨t70,h71,H⟩:=bd H
 refine on1 5 E (.cl en73 (qCK.calls k22 y t62 _ _ _ _ _ _ _ _ _ _ _ (Own.left (X:=[row ki 3 (.slice A65 t62.length c66) t62]) S.own) g1_4 g1_5 g1_6 h71)) ?_
 rintro _ u69 a ⟨F72,A73,c74,rfl,hC⟩ E
 refine ⟨.d,?_⟩
 have hs:=hC.sub
 replace S:=S.called (X:=[row ki 3 (.slice A65 t62.length c66) t62]) hC
 replace g38:=g38.mono hs
 replace g0_4:=g0_4.mono hs
 replace g0_5:=g0_5.mono hs
 replace g0_6:=g0_6.mono hs
 replace g1_4:=g1_4.mono hs
 replace g1_5:=g1_5.mono hs
 replace g1_6:=g1_6.mono hs
 obtain ⟨t78,h79,H⟩:=bd H
 refine on1 6 E (.cl en63 (qq.calls k22 t52 t70 _ _ _ _ _ _ _ (Sub.refl _) (S.rd_at (i:=1) rfl) (S.rd_at (i:=0) rfl) h79)) ?_
 rintro _ u77 a ⟨_,rfl,hC⟩ E
 refine ⟨.of hC.agr,?_⟩
 replace S:=S.lent hC
 refine dn ?_
 refine hK60 _ _ (E.ib 31 H (fun c80 E H=>?_) fun c80 E H=>?_)
 refine wp_exit ?_
 refine hK27 _ _ (pl0 (plc E (.r 0 2 .nil) (fun a E=>pld ?_)))
 replace S:=S.pm [] 3
 exact qCT ⟨k22,by omega,_,l17,(w64 (x18+1)),F72,by omega,E,.of,S,g1_4,g1_5,g1_6,g0_4,g0_5,g0_6,H⟩
 refine wp_skip (hK59 _ _ (sq fun K81 hK81=>?_))
 have J147:∀ kq145,kq145≤k22→∀(G:NV)(A139:OA)(c140:Nat)(l141:List qG)(F143:World)(a:Act)(w':World),Env 65 G a→At G [(2,.pointer (pb b2)),(3,.pointer (pb b4)),(5,.slice (pb b32) t8.length c12),(6,iv x18),(7,.pointer (pb b39)),(13,.slice (pb b32) t8.length c12),(14,iv (t8.length:Int)),(15,iv x18)]→Sm W F w' F143 [box b39 #[iv ((nth qC.z l17 x18).f0),.slice A139 l141.length c140] 73,box b4 #[iv y.f0,iv y.f1,iv y.f2,iv y.f3,.slice A1_4 y.f4.length c1_4,.slice A1_5 y.f5.length c1_5,.slice A1_6 y.f6.length c1_6] 26,box b2 #[iv x.f0,iv x.f1,iv x.f2,iv x.f3,.slice A0_4 x.f4.length c0_4,.slice A0_5 x.f5.length c0_5,.slice A0_6 x.f6.length c0_6] 26,row qC.k 73 (.slice (pb b32) t8.length c12) l17]→Rd qG.k F143 A139 c140 l141→Rd qA.k F143 A1_4 c1_4 y.f4→Rd qE.k F143 A1_5 c1_5 y.f5→Rd qC.k F143 A1_6 c1_6 y.f6→Rd qA.k F143 A0_4 c0_4 x.f4→Rd qE.k F143 A0_5 c0_5 x.f5→Rd qC.k F143 A0_6 c0_6 x.f6→qAn.j144 kq145 x y t8 l17 x18 l141=some r→K81 a w':=by
  intro kq145 hkq G A139 c140 l141 F143 a u148 E A S g142 g1_4 g1_5 g1_6 g0_4 g0_5 g0_6 H
  obtain _ | k146:=kq145
  exact zz H
  rw [qAn.j144_s]at H
  obtain ⟨J,E⟩:=E.at A
  refine hK81 _ _ (sq fun K149 hK149=>pl0 (plc E (.r 0 1<|.b 1 0 (S.ba 2)<|.r 2 2<|.nil) (fun a E=>pls E S [iv (w64 (x.f0+1)),.slice A139 l141.length c140] fun u150 hb39 S a E=>pld (hK149 _ _ (pl0 ?_)))))
  have hr151:=S.ra 3
  have c152:0≤x18∧x18<(l17.length:Int):=by rw [← (qCU hr151).1]; exact c29
  have hr_:=S.ra 3
  obtain ⟨cs154,⟨A156,c157,rfl,g158⟩,hc155⟩:=qCV hr_ qC.z x18 c152.1 c152.2
  refine plc E (.r 0 2<|.bn 2 0 2 hb39<|.x 3 c29<|.nil) (fun a E=>?_)
  replace S:=S.front 3 rfl
  obtain ⟨cs163,⟨A160,c161,rfl,g162⟩,hc164⟩:=qCV (S.row_at (i:=0) rfl) qC.z x18 c152.1 c152.2
  refine ple E (.set (d:=qC.k) (n:=t8.length) (i:=x18) (⟨(w64 (x.f0+1)),l141⟩:qC) (0) (ea0 _ _) S c152 [iv ((nth qC.z l17 x18).f0),.slice A160 (((nth qC.z l17 x18).f1).length) c161] hc164 [iv (w64 (x.f0+1)),.slice A139 l141.length c140] ⟨_,_,rfl,g142⟩) ?_
  rintro _ u159 a ⟨rfl,S,hz⟩ E
  refine pld ?_
  refine qCS ?_
  refine hK27 _ _ (pl0 (plc E (.r 0 2 .nil) (fun a E=>pld ?_)))
  replace S:=S.pm [2,3,0] 4
  exact qCT ⟨k146,by omega,_,(l17.set (x18).toNat (⟨(w64 (x.f0+1)),l141⟩:qC)),(w64 (x18+1)),F143,by omega,E,.of,S,g1_4,g1_5,g1_6,g0_4,g0_5,g0_6,H⟩
 refine rg E (.r 0 3<|.b 3 2 (S.ba 4)<|.r 4 1<|.nil) fun a E=>(E.ik 36 H (fun c83 E H=>?_) fun c83 E H=>?_)
 refine sq fun K84 hK84=>?_
 refine drawn 8 ⟨[7],[],fun q=>False⟩ mixed rfl (by kernel_rfl) (fun hst=>?_)
 replace S:=S.drew
 have hb39:=S.ba 2
 refine mny 5 hst E (.r 0 1<|.b 1 0 hb39<|.r 2 1<|.nil) (fun a E=>?_)
 obtain ⟨t91,h92,H⟩:=bd H
 refine meet2 (fun a w'=>∃(G:NV)(b89:Nat)(A97:OA)(c98:Nat)(F105:World),Env 65 G a∧At G [(2,.pointer (pb b2)),(3,.pointer (pb b4)),(5,.slice (pb b32) t8.length c12),(6,iv x18),(7,.pointer (pb b39)),(9,.pointer (pb b89)),(13,.slice (pb b32) t8.length c12),(14,iv (t8.length:Int)),(15,iv x18),(42,.agg #[iv ((nth qC.z l17 x18).f0),.slice A97 t91.length c98])]∧Sm W F w' F105 [box b89 #[iv 0,.slice none 0 0] 77,box b39 #[iv ((nth qC.z l17 x18).f0),.slice A36 (((nth qC.z l17 x18).f1).length) c37] 73,box b4 #[iv y.f0,iv y.f1,iv y.f2,iv y.f3,.slice A1_4 y.f4.length c1_4,.slice A1_5 y.f5.length c1_5,.slice A1_6 y.f6.length c1_6] 26,box b2 #[iv x.f0,iv x.f1,iv x.f2,iv x.f3,.slice A0_4 x.f4.length c0_4,.slice A0_5 x.f5.length c0_5,.slice A0_6 x.f6.length c0_6] 26,row ki 3 (.slice A97 t91.length c98) t91,row qC.k 73 (.slice (pb b32) t8.length c12) l17]∧Rd qG.k F105 A36 c37 ((nth qC.z l17 x18).f1)∧Rd qA.k F105 A1_4 c1_4 y.f4∧Rd qE.k F105 A1_5 c1_5 y.f5∧Rd qC.k F105 A1_6 c1_6 y.f6∧Rd qA.k F105 A0_4 c0_4 x.f4∧Rd qE.k F105 A0_5 c0_5 x.f5∧Rd qC.k F105 A0_6 c0_6 x.f6) 1 127 ?_ (fun hJb=>?_)
 rintro a u106 ⟨G,b89,A97,c98,F105,E,A,S,g38,g1_4,g1_5,g1_6,g0_4,g0_5,g0_6⟩
 obtain ⟨J,E⟩:=E.at A
 refine on1 7 E (.sto S [iv ((nth qC.z l17 x18).f0),.slice A97 t91.length c98]) ?_
 rintro _ u107 a ⟨rfl,hb89,S,hz⟩ E
 refine ⟨.d,?_⟩
 refine dn ?_
 refine hK84 _ _ (sq fun K108 hK108=>pl0 (plc E (.r 0 1<|.b 1 1 (S.ba 1)<|.nil) (fun a E=>?_)))
 obtain ⟨t110,h111,H⟩:=bd H
 refine ple E (.cl en99 (qBJ.calls k22 ((nth qC.z l17 x18).f1) _ _ _ _ _ S.own.sub g38 h111)) ?_
 rintro _ u109 a ⟨F112,A113,c114,rfl,hC⟩ E
 have hs:=hC.sub
 replace S:=S.called (X:=[]) hC
 replace g38:=g38.mono hs
 replace g1_4:=g1_4.mono hs
 replace g1_5:=g1_5.mono hs
 replace g1_6:=g1_6.mono hs
 replace g0_4:=g0_4.mono hs
 replace g0_5:=g0_5.mono hs
 replace g0_6:=g0_6.mono hs
 refine plc E (.r 3 1 .nil) (fun a E=>?_)
 replace S:=S.front 5 rfl
 obtain ⟨F117,hs,g118,S⟩:=S.give
 replace g38:=g38.mono hs
 replace g1_4:=g1_4.mono hs
 replace g1_5:=g1_5.mono hs
 replace g1_6:=g1_6.mono hs
 replace g0_4:=g0_4.mono hs
 replace g0_5:=g0_5.mono hs
 replace g0_6:=g0_6.mono hs
 replace S:=S.front 1 rfl
 obtain ⟨F119,hs,g120,S⟩:=S.giveb
 replace g118:=g118.mono hs
 replace g38:=g38.mono hs
 replace g1_4:=g1_4.mono hs
 replace g1_5:=g1_5.mono hs
 replace g1_6:=g1_6.mono hs
 replace g0_4:=g0_4.mono hs
 replace g0_5:=g0_5.mono hs
 replace g0_6:=g0_6.mono hs
 obtain ⟨t122,h123,H⟩:=bd H
 refine ple E (.cl en107 (qT.calls k22 t110 (⟨(nth qC.z l17 x18).f0,t91⟩:qG) _ _ _ _ _ _ _ _ (Own.left (X:=[row qG.k 77 (.slice A113 t110.length c114) t110]) S.own) g118 g120 h123)) ?_
 rintro _ u121 a ⟨F124,A125,c126,rfl,hC⟩ E
 have hs:=hC.sub
 replace S:=S.called (X:=[row qG.k 77 (.slice A113 t110.length c114) t110]) hC
 replace g118:=g118.mono hs
 replace g38:=g38.mono hs
 replace g1_4:=g1_4.mono hs
 replace g1_5:=g1_5.mono hs
 replace g1_6:=g1_6.mono hs
 replace g0_4:=g0_4.mono hs
 replace g0_5:=g0_5.mono hs
 replace g0_6:=g0_6.mono hs
 replace g120:=hs _ _ _ _ g120
 refine plc E (.r 5 1 .nil) (fun a E=>?_)
 replace S:=S.front 1 rfl
 refine pls E S [iv ((nth qC.z l17 x18).f0),.slice A125 t122.length c126] fun u129 hb39 S a E=>pld (hK108 _ _ (pl0 (plc E (.r 0 1<|.b 1 1 hb39<|.bn 2 0 2 (S.own.sub _ _ _ _ g120)<|.nil) (fun a E=>ple E (.lit (d:=qG.k) (e:=77) S [(⟨(nth qC.z l17 x18).f0,t91⟩:qG)] (.cons ⟨_,_,rfl,g118⟩ .nil)) ?_))))
 rintro _ u130 a ⟨A131,c132,rfl,S,hg⟩ E
 obtain ⟨c134,H⟩:=gd H
 replace S:=S.front 2 rfl
 refine ple E (.ap (d:=qG.k) 32 S (qCX (S.row_at (i:=1) rfl)) c134 c132) ?_
 rintro _ u137 a ⟨A135,c136,rfl,S,hz⟩ E
 refine plc E (.r 5 1 .nil) (fun a E=>?_)
 replace S:=S.front 2 rfl
 refine pls E S [iv ((nth qC.z l17 x18).f0),.slice A135 ((t122++[(⟨(nth qC.z l17 x18).f0,t91⟩:qG)]).length) c136] fun u138 hb39 S a E=>pld ?_
 replace S:=S.front 1 rfl
 obtain ⟨F165,hs,g166,S⟩:=S.give
 replace g118:=g118.mono hs
 replace g38:=g38.mono hs
 replace g1_4:=g1_4.mono hs
 replace g1_5:=g1_5.mono hs
 replace g1_6:=g1_6.mono hs
 replace g0_4:=g0_4.mono hs
 replace g0_5:=g0_5.mono hs
 replace g0_6:=g0_6.mono hs
 replace g120:=hs _ _ _ _ g120
 replace S:=S.pm [0] 2
 exact J147 _ (by omega) _ A135 c136 (t122++[(⟨(nth qC.z l17 x18).f0,t91⟩:qG)]) F165 _ _ E .of S g166 g1_4 g1_5 g1_6 g0_4 g0_5 g0_6 H
 refine meet2 (fun a w'=>∃(G:NV)(b89:Nat)(b87:Nat)(F102:World),Env 65 G a∧At G [(2,.pointer (pb b2)),(3,.pointer (pb b4)),(5,.slice (pb b32) t8.length c12),(6,iv x18),(7,.pointer (pb b39)),(9,.pointer (pb b89)),(13,.slice (pb b32) t8.length c12),(14,iv (t8.length:Int)),(15,iv x18),(38,iv ((nth qC.z l17 x18).f0)),(40,.func (.func 135) #[] #[.pointer (pb b87)])]∧Sm W F w' F102 [box b89 #[iv 0,.slice none 0 0] 77,box b87 #[.slice A55 t52.length c56] 27,box b39 #[iv ((nth qC.z l17 x18).f0),.slice A36 (((nth qC.z l17 x18).f1).length) c37] 73,box b4 #[iv y.f0,iv y.f1,iv y.f2,iv y.f3,.slice A1_4 y.f4.length c1_4,.slice A1_5 y.f5.length c1_5,.slice A1_6 y.f6.length c1_6] 26,box b2 #[iv x.f0,iv x.f1,iv x.f2,iv x.f3,.slice A0_4 x.f4.length c0_4,.slice A0_5 x.f5.length c0_5,.slice A0_6 x.f6.length c0_6] 26,row qC.k 73 (.slice (pb b32) t8.length c12) l17]∧Rd ki F102 A55 c56 t52∧Rd qG.k F102 A36 c37 ((nth qC.z l17 x18).f1)∧Rd qA.k F102 A1_4 c1_4 y.f4∧Rd qE.k F102 A1_5 c1_5 y.f5∧Rd qC.k F102 A1_6 c1_6 y.f6∧Rd qA.k F102 A0_4 c0_4 x.f4∧Rd qE.k F102 A0_5 c0_5 x.f5∧Rd qC.k F102 A0_6 c0_6 x.f6) 3 79 ?_ (fun hJ=>?_)
 rintro a u103 ⟨G,b89,b87,F102,E,A,S,g86,g38,g1_4,g1_5,g1_6,g0_4,g0_5,g0_6⟩
 obtain ⟨J,E⟩:=E.at A
 replace S:=S.front 1 rfl
 obtain ⟨F93,hs,g94,S⟩:=S.giveb
 replace g86:=g86.mono hs
 replace g38:=g38.mono hs
 replace g1_4:=g1_4.mono hs
 replace g1_5:=g1_5.mono hs
 replace g1_6:=g1_6.mono hs
 replace g0_4:=g0_4.mono hs
 replace g0_5:=g0_5.mono hs
 replace g0_6:=g0_6.mono hs
 refine on1 4 E (.cl en105 (qAA.calls t52 _ _ _ _ _ _ S.own.sub g86 g94 h92)) ?_
 rintro _ u95 a ⟨F96,A97,c98,rfl,hC⟩ E
 refine ⟨.of hC.agr,?_⟩
 have hs:=hC.sub
 replace S:=S.called (X:=[]) hC
 replace g38:=g38.mono hs
 replace g1_4:=g1_4.mono hs
 replace g1_5:=g1_5.mono hs
 replace g1_6:=g1_6.mono hs
 replace g0_4:=g0_4.mono hs
 replace g0_5:=g0_5.mono hs
 replace g0_6:=g0_6.mono hs
 replace g86:=g86.mono hs
 replace g94:=hs _ _ _ _ g94
 refine mny 1 hst E (.r 5 1 .nil) (fun a E=>?_)
 replace S:=S.pm [1,2,3,4,0] 5
 exact hJb _ _ ⟨_,b89,A97,c98,F96,E,.of,S,g38,g1_4,g1_5,g1_6,g0_4,g0_5,g0_6⟩
 refine pk2 3 6 ?_ ?_
 replace S:=S.front 1 rfl
 obtain ⟨F85,hs,g86,S⟩:=S.give
 replace g38:=g38.mono hs
 replace g0_4:=g0_4.mono hs
 replace g0_5:=g0_5.mono hs
 replace g0_6:=g0_6.mono hs
 replace g1_4:=g1_4.mono hs
 replace g1_5:=g1_5.mono hs
 replace g1_6:=g1_6.mono hs
 refine pk1 3 E (.cl en106 (qCH.calls t52 A55 c56 _ _ S.own.sub)) ?_
 rintro _ u88 a ⟨b87,rfl,hC⟩ E
 refine ⟨.of hC.agr,?_⟩
 replace S:=S.called (X:=[]) hC
 refine pk2 6 4 ?_ ?_
 refine pk1 6 E (.al (t:=77) S [iv 0,.slice none 0 0]) ?_
 rintro _ u90 a ⟨b89,rfl,hb89,S,hg⟩ E
 refine ⟨.of hg,?_⟩
 replace S:=S.pm [0,1] 3
 exact hJ _ _ ⟨_,b89,b87,F85,E,.of,S,g86,g38,g1_4,g1_5,g1_6,g0_4,g0_5,g0_6⟩
 obtain ⟨F93,hs,g94,S⟩:=S.giveb
 replace g86:=g86.mono hs
 replace g38:=g38.mono hs
 replace g0_4:=g0_4.mono hs
 replace g0_5:=g0_5.mono hs
 replace g0_6:=g0_6.mono hs
 replace g1_4:=g1_4.mono hs
 replace g1_5:=g1_5.mono hs
 replace g1_6:=g1_6.mono hs
 refine pk1 4 E (.cl en105 (qAA.calls t52 _ _ _ _ _ _ S.own.sub g86 g94 h92)) ?_
 rintro _ u95 a ⟨F96,A97,c98,rfl,hC⟩ E
 refine ⟨.of hC.agr,?_⟩
 have hs:=hC.sub
 replace S:=S.called (X:=[]) hC
 replace g86:=g86.mono hs
 replace g38:=g38.mono hs
 replace g0_4:=g0_4.mono hs
 replace g0_5:=g0_5.mono hs
 replace g0_6:=g0_6.mono hs
 replace g1_4:=g1_4.mono hs
 replace g1_5:=g1_5.mono hs
 replace g1_6:=g1_6.mono hs
 replace g94:=hs _ _ _ _ g94
 refine mny 2 hst E (.r 5 1 .nil) (fun a E=>?_)
 refine on1 6 E (.al (t:=77) S [iv 0,.slice none 0 0]) ?_
 rintro _ u90 a ⟨b89,rfl,hb89,S,hg⟩ E
 refine ⟨.of hg,?_⟩
 replace S:=S.pm [0,3,4,5,1] 6
 exact hJb _ _ ⟨_,b89,A97,c98,F96,E,.of,S,g38,g1_4,g1_5,g1_6,g0_4,g0_5,g0_6⟩
 refine pk1 6 E (.al (t:=77) S [iv 0,.slice none 0 0]) ?_
 rintro _ u90 a ⟨b89,rfl,hb89,S,hg⟩ E
 refine ⟨.of hg,?_⟩
 replace S:=S.front 2 rfl
 obtain ⟨F85,hs,g86,S⟩:=S.give
 replace g38:=g38.mono hs
 replace g0_4:=g0_4.mono hs
 replace g0_5:=g0_5.mono hs
 replace g0_6:=g0_6.mono hs
 replace g1_4:=g1_4.mono hs
 replace g1_5:=g1_5.mono hs
 replace g1_6:=g1_6.mono hs
 refine on1 3 E (.cl en106 (qCH.calls t52 A55 c56 _ _ S.own.sub)) ?_
 rintro _ u88 a ⟨b87,rfl,hC⟩ E
 refine ⟨.of hC.agr,?_⟩
 replace S:=S.called (X:=[]) hC
 replace S:=S.pm [1,0] 3
 exact hJ _ _ ⟨_,b89,b87,F85,E,.of,S,g86,g38,g1_4,g1_5,g1_6,g0_4,g0_5,g0_6⟩
 refine wp_skip ?_
 replace S:=S.pm [] 2
 exact J147 _ (by omega) _ A36 c37 ((nth qC.z l17 x18).f1) F72 _ _ E .of S g38 g1_4 g1_5 g1_6 g0_4 g0_5 g0_6 H
 refine wp_exit ?_
 refine hK15 _ _ (rr E fun a E=>(wp_ret ?_))
 have hn168:=(qCU (S.row_at (i:=2) rfl)).1
 replace E:=E.set (d:=4) (v:=.slice A11 l17.length c12) (Eq.trans (b:=.slice A11 t8.length c12) (by kernel_rfl) (by rw [← hn168]))
 replace S:Sm W F u23 F19 [box b4 #[iv y.f0,iv y.f1,iv y.f2,iv y.f3,.slice A1_4 y.f4.length c1_4,.slice A1_5 y.f5.length c1_5,.slice A1_6 y.f6.length c1_6] 26,box b2 #[iv x.f0,iv x.f1,iv x.f2,iv x.f3,.slice A0_4 x.f4.length c0_4,.slice A0_5 x.f5.length c0_5,.slice A0_6 x.f6.length c0_6] 26,row qC.k 73 (.slice A11 l17.length c12) l17]:=by rw [← hn168]; exact S
 replace S:=S.pm [] 2
 obtain rfl:=si H
 exact rt1 E ⟨_,rfl,_,_,_,rfl,S⟩
def qAs.j21:Nat→qD→qF→Bool→Option (qD × Int)
 | 0,_,_,_=>none
 | k+1,x,y,y20=>if y20=true then ((qAx.f k x).bind fun t29=>(some (t29,1))) else (if x.f0=2147483647 then ((qAx.f k x).bind fun t53=>(some (t53,6))) else ((qAx.f k x).bind fun t77=>((qBm.f k t77 y).bind fun t95=>(if t95.2=0 then ((qAn.f k x t95.1).bind fun t142=>(some ((⟨(w64 (t95.1.f0+1)),t95.1.f1,t95.1.f2,t95.1.f3,t95.1.f4,t95.1.f5,t142⟩:qD),0))) else ((qAx.f k x).bind fun t120=>(some (t120,t95.2)))))))
theorem qAs.j21_s k x y y20:type_of% (qAs.j21.eq_2 x y y20 k):=qAs.j21.eq_2 x y y20 k
def qAs.f(k:Nat)(x:qD)(y:qF):Option (qD × Int):=(qAC.f k x).bind fun t11=>(if t11=0 then (if y.f0<1 then (qAs.j21 k x y true) else (if y.f0≥11 then (qAs.j21 k x y true) else ((qCF.f y).bind fun t18=>(qAs.j21 k x y (!t18))))) else (some ((⟨0,0,0,0,[],[],[]⟩:qD),1)))
def qAs.Post(W F:World)(r:qD × Int)(v:Value)(w':World):Prop:=∃(F':World)(RA0_4:OA)(rc0_4:Nat)(RA0_5:OA)(rc0_5:Nat)(RA0_6:OA)(rc0_6:Nat),v = .tuple #[.agg #[iv r.1.f0,iv r.1.f1,iv r.1.f2,iv r.1.f3,.slice RA0_4 r.1.f4.length rc0_4,.slice RA0_5 r.1.f5.length rc0_5,.slice RA0_6 r.1.f6.length rc0_6],iv r.2]∧Sm W F w' F' [row qC.k 73 (.slice RA0_6 r.1.f6.length rc0_6) r.1.f6]∧Rd qA.k F' RA0_4 rc0_4 r.1.f4∧Rd qE.k F' RA0_5 rc0_5 r.1.f5
theorem qAs.calls(k:Nat)(x:qD)(y:qF)(A0_4:OA)(c0_4:Nat)(A0_5:OA)(c0_5:Nat)(A0_6:OA)(c0_6:Nat)(A1_6:OA)(c1_6:Nat)(r:qD × Int)(W F:World)(hown:Sub F W)(g0_4:Rd qA.k F A0_4 c0_4 x.f4)(g0_5:Rd qE.k F A0_5 c0_5 x.f5)(g0_6:Rd qC.k F A0_6 c0_6 x.f6)(g1_6:Rd ki F A1_6 c1_6 y.f6)(H:qAs.f k x y=some r):
    Cr 39 #[.agg #[iv x.f0,iv x.f1,iv x.f2,iv x.f3,.slice A0_4 x.f4.length c0_4,.slice A0_5 x.f5.length c0_5,.slice A0_6 x.f6.length c0_6],.agg #[iv y.f0,iv y.f1,iv y.f2,iv y.f3,iv y.f4,iv y.f5,.slice A1_6 y.f6.length c1_6]] W (qAs.Post W F r):=by
 have S:=sT hown
 unfold qAs.f at H
 refine ent 56 rfl rfl rfl (fun a E=>?_)
 refine sq fun K1 hK1=>pl0 (plx (t:=26) E S [iv x.f0,iv x.f1,iv x.f2,iv x.f3,.slice A0_4 x.f4.length c0_4,.slice A0_5 x.f5.length c0_5,.slice A0_6 x.f6.length c0_6] fun b2 u3 hb2 S a E=>plx (t:=29) E S [iv y.f0,iv y.f1,iv y.f2,iv y.f3,iv y.f4,iv y.f5,.slice A1_6 y.f6.length c1_6] fun b4 u5 hb4 S a E=>pla (t:=26) E S [iv 0,iv 0,iv 0,iv 0,.slice none 0 0,.slice none 0 0,.slice none 0 0] fun b6 u7 hb6 S a E=>plc E (.r 3 1 .nil) (fun a E=>pld (hK1 _ _ (sq fun K8 hK8=>wp_block (sq fun K9 hK9=>pl0 ?_)))))
 have hb2:=S.ba 2
 refine plc E (.bn 0 0 7 hb2 .nil) (fun a E=>?_)
 obtain ⟨t11,h12,H⟩:=bd H
 refine plq E S en65 (qAC.calls k x _ _ _ _ _ _ _ _ _ S.own.sub g0_4 g0_5 g0_6 h12) fun u10 S a E=>plc E (.r 2 2 .nil) (fun a E=>pld (hK9 _ _ (E.ikn 8 H (fun c13 E H=>?_) fun c13 E H=>?_)))
 refine sq fun K14 hK14=>?_
 have J24:∀ kq22,kq22≤k→∀(G:NV)(y20:Bool)(a:Act)(w':World),Env 56 G a→At G [(2,.pointer (pb b2)),(3,.pointer (pb b4)),(4,.pointer (pb b6)),(13,.bool y20)]→Sm W F w' F [box b6 #[iv 0,iv 0,iv 0,iv 0,.slice none 0 0,.slice none 0 0,.slice none 0 0] 26,box b4 #[iv y.f0,iv y.f1,iv y.f2,iv y.f3,iv y.f4,iv y.f5,.slice A1_6 y.f6.length c1_6] 29,box b2 #[iv x.f0,iv x.f1,iv x.f2,iv x.f3,.slice A0_4 x.f4.length c0_4,.slice A0_5 x.f5.length c0_5,.slice A0_6 x.f6.length c0_6] 26]→qAs.j21 kq22 x y y20=some r→K14 a w':=by
  intro kq22 hkq G y20 a u25 E A S H
  obtain _ | k23:=kq22
  exact zz H
  rw [qAs.j21_s]at H
  obtain ⟨J,E⟩:=E.at A
  refine hK14 _ _ (E.ib 13 H (fun c26 E H=>?_) fun c26 E H=>?_)
  refine sq fun K27 hK27=>pl0 (plc E (.bn 0 0 7 (S.ba 2) .nil) (fun a E=>?_))
  obtain ⟨t29,h30,H⟩:=bd H
  refine ple E (.cl en69 (qAx.calls k23 x _ _ _ _ _ _ _ _ _ S.own.sub g0_4 g0_5 g0_6 h30)) ?_
  rintro _ u28 a ⟨F31,A32,c33,A36,c37,A40,c41,rfl,hC⟩ E
  have hs:=hC.sub
  replace S:=S.called (X:=[]) hC
  replace g0_4:=g0_4.mono hs
  replace g0_5:=g0_5.mono hs
  replace g0_6:=g0_6.mono hs
  replace g1_6:=g1_6.mono hs
  replace S:=S.front 3 rfl
  refine pls E S [iv t29.f0,iv t29.f1,iv t29.f2,iv t29.f3,.slice A32 t29.f4.length c33,.slice A36 t29.f5.length c37,.slice A40 t29.f6.length c41] fun u44 hb6 S a E=>plc E (.r 3 1 .nil) (fun a E=>pld (hK27 _ _ (wp_ret (qCR (qCQ ?_)))))
  replace S:=S.front 1 rfl
  obtain ⟨F45,hs,g46,S⟩:=S.give
  replace g0_4:=g0_4.mono hs
  replace g0_5:=g0_5.mono hs
  replace g0_6:=g0_6.mono hs
  replace g1_6:=g1_6.mono hs
  replace S:=S.front 1 rfl
  obtain ⟨F47,hs,g48,S⟩:=S.give
  replace g0_4:=g0_4.mono hs
  replace g0_5:=g0_5.mono hs
  replace g0_6:=g0_6.mono hs
  replace g46:=g46.mono hs
  replace g1_6:=g1_6.mono hs
  replace S:=S.pm [1] 4
  obtain rfl:=si H
  exact rtm E (.b hb6 ag26 sz26 (.t .nil)) ⟨_,rfl,_,_,_,_,_,_,_,rfl,S,g46,g48⟩
  refine sq fun K49 hK49=>pl0 ?_
  have hb2:=S.ba 2
  refine plc E (.r 0 1<|.b 1 0 hb2<|.r 2 2<|.nil) (fun a E=>pld (hK49 _ _ (E.ik 29 H (fun c50 E H=>?_) fun c50 E H=>?_)))
  refine sq fun K51 hK51=>pl0 (plc E (.bn 0 0 7 hb2 .nil) (fun a E=>?_))
  obtain ⟨t53,h54,H⟩:=bd H
  refine ple E (.cl en69 (qAx.calls k23 x _ _ _ _ _ _ _ _ _ S.own.sub g0_4 g0_5 g0_6 h54)) ?_
  rintro _ u52 a ⟨F55,A56,c57,A60,c61,A64,c65,rfl,hC⟩ E
  have hs:=hC.sub
  replace S:=S.called (X:=[]) hC
  replace g0_4:=g0_4.mono hs
  replace g0_5:=g0_5.mono hs
  replace g0_6:=g0_6.mono hs
  replace g1_6:=g1_6.mono hs
  replace S:=S.front 3 rfl
  refine pls E S [iv t53.f0,iv t53.f1,iv t53.f2,iv t53.f3,.slice A56 t53.f4.length c57,.slice A60 t53.f5.length c61,.slice A64 t53.f6.length c65] fun u68 hb6 S a E=>plc E (.r 3 1 .nil) (fun a E=>pld (hK51 _ _ (wp_ret (qCR (qCQ ?_)))))
  replace S:=S.front 1 rfl
  obtain ⟨F69,hs,g70,S⟩:=S.give
  replace g0_4:=g0_4.mono hs
  replace g0_5:=g0_5.mono hs
  replace g0_6:=g0_6.mono hs
  replace g1_6:=g1_6.mono hs
  replace S:=S.front 1 rfl
  obtain ⟨F71,hs,g72,S⟩:=S.give
  replace g0_4:=g0_4.mono hs
  replace g0_5:=g0_5.mono hs
  replace g0_6:=g0_6.mono hs
  replace g70:=g70.mono hs
  replace g1_6:=g1_6.mono hs
  replace S:=S.pm [1] 4
  obtain rfl:=si H
  exact rtm E (.b hb6 ag26 sz26 (.t .nil)) ⟨_,rfl,_,_,_,_,_,_,_,rfl,S,g70,g72⟩
  refine wp_skip ?_
  refine qCS ?_
  refine hK8 _ _ (sq fun K76 hK76=>?_)
  refine drawn 10 ⟨[3,8],[],fun q=>False⟩ mixed rfl (by kernel_rfl) (fun hst=>?_)
  replace S:=S.drew
  have hb2:=S.ba 2
  have hb4:=S.ba 1
  refine mny 8 hst E (.bn 0 0 7 hb2<|.bn 2 0 7 hb4<|.nil) (fun a E=>?_)
  obtain ⟨t77,h78,H⟩:=bd H
  obtain ⟨t95,h96,H⟩:=bd H
  refine meet2 (fun a w'=>∃(G:NV)(b93:Nat)(A99:OA)(c100:Nat)(A102:OA)(c103:Nat)(A105:OA)(c106:Nat)(F112:World),Env 56 G a∧At G [(2,.pointer (pb b2)),(4,.pointer (pb b6)),(6,.pointer (pb b93)),(40,.agg #[iv t95.1.f0,iv t95.1.f1,iv t95.1.f2,iv t95.1.f3,.slice A99 t95.1.f4.length c100,.slice A102 t95.1.f5.length c103,.slice A105 t95.1.f6.length c106]),(41,iv t95.2)]∧Sm W F w' F112 [box b93 #[iv 0,iv 0,iv 0,iv 0,.slice none 0 0,.slice none 0 0,.slice none 0 0] 26,box b6 #[iv 0,iv 0,iv 0,iv 0,.slice none 0 0,.slice none 0 0,.slice none 0 0] 26,box b4 #[iv y.f0,iv y.f1,iv y.f2,iv y.f3,iv y.f4,iv y.f5,.slice A1_6 y.f6.length c1_6] 29,box b2 #[iv x.f0,iv x.f1,iv x.f2,iv x.f3,.slice A0_4 x.f4.length c0_4,.slice A0_5 x.f5.length c0_5,.slice A0_6 x.f6.length c0_6] 26]∧Rd qA.k F112 A99 c100 t95.1.f4∧Rd qE.k F112 A102 c103 t95.1.f5∧Rd qC.k F112 A105 c106 t95.1.f6∧Rd ki F112 A1_6 c1_6 y.f6∧Rd qA.k F112 A0_4 c0_4 x.f4∧Rd qE.k F112 A0_5 c0_5 x.f5∧Rd qC.k F112 A0_6 c0_6 x.f6) 2 255 ?_ (fun hJb=>?_)
  rintro a u113 ⟨G,b93,A99,c100,A102,c103,A105,c106,F112,E,A,S,g101,g104,g107,g1_6,g0_4,g0_5,g0_6⟩
  obtain ⟨J,E⟩:=E.at A
  refine on1 8 E (.sto S [iv t95.1.f0,iv t95.1.f1,iv t95.1.f2,iv t95.1.f3,.slice A99 t95.1.f4.length c100,.slice A102 t95.1.f5.length c103,.slice A105 t95.1.f6.length c106]) ?_
  rintro _ u114 a ⟨rfl,hb93,S,hz⟩ E
  refine ⟨.d,?_⟩
  refine mny 0 hst E (.r 9 1 .nil) (fun a E=>?_)
  refine dn ?_
  refine hK76 _ _ (sq fun K115 hK115=>rr E fun a E=>(E.ikn 43 H (fun c117 E H=>?_) fun c117 E H=>?_))
  refine wp_skip (hK115 _ _ (sq fun K140 hK140=>pl0 (plc E (.bn 0 0 7 (S.ba 3)<|.bn 1 0 7 hb93<|.nil) (fun a E=>?_))))
  obtain ⟨t142,h143,H⟩:=bd H
  refine ple E (.cl en71 (qAn.calls k23 x t95.1 _ _ _ _ _ _ _ _ _ _ _ _ _ _ _ S.own.sub g0_4 g0_5 g0_6 g101 g104 g107 h143)) ?_
  rintro _ u141 a ⟨F144,A145,c146,rfl,hC⟩ E
  have hs:=hC.sub
  replace S:=S.called (X:=[]) hC
  replace g101:=g101.mono hs
  replace g104:=g104.mono hs
  replace g107:=g107.mono hs
  replace g0_4:=g0_4.mono hs
  replace g0_5:=g0_5.mono hs
  replace g0_6:=g0_6.mono hs
  replace g1_6:=g1_6.mono hs
  refine plc E (.r 3 1 .nil) (fun a E=>?_)
  replace S:=S.front 1 rfl
  refine pls E S [iv t95.1.f0,iv t95.1.f1,iv t95.1.f2,iv t95.1.f3,.slice A99 t95.1.f4.length c100,.slice A102 t95.1.f5.length c103,.slice A145 t142.length c146] fun u149 hb93 S a E=>pld (hK140 _ _ (sq fun K150 hK150=>pl0 (plc E (.r 0 1<|.b 1 0 hb93<|.r 2 2<|.nil) (fun a E=>pls E S [iv (w64 (t95.1.f0+1)),iv t95.1.f1,iv t95.1.f2,iv t95.1.f3,.slice A99 t95.1.f4.length c100,.slice A102 t95.1.f5.length c103,.slice A145 t142.length c146] fun u151 hb93 S a E=>pld (hK150 _ _ (sq fun K152 hK152=>pl0 (plc E (.bn 0 0 7 hb93 .nil) (fun a E=>?_))))))))
  replace S:=S.front 2 rfl
  refine pls E S [iv (w64 (t95.1.f0+1)),iv t95.1.f1,iv t95.1.f2,iv t95.1.f3,.slice A99 t95.1.f4.length c100,.slice A102 t95.1.f5.length c103,.slice A145 t142.length c146] fun u153 hb6 S a E=>plc E (.r 2 1 .nil) (fun a E=>pld (hK152 _ _ (wp_ret ?_)))
  replace S:=S.pm [2] 5
  obtain rfl:=si H
  exact rtm E (.b hb6 ag26 sz26 (.t .nil)) ⟨_,rfl,_,_,_,_,_,_,_,rfl,S,g101,g104⟩
  refine sq fun K118 hK118=>pl0 (plc E (.bn 0 0 7 (S.ba 3) .nil) (fun a E=>?_))
  obtain ⟨t120,h121,H⟩:=bd H
  refine ple E (.cl en69 (qAx.calls k23 x _ _ _ _ _ _ _ _ _ S.own.sub g0_4 g0_5 g0_6 h121)) ?_
  rintro _ u119 a ⟨F122,A123,c124,A127,c128,A131,c132,rfl,hC⟩ E
  have hs:=hC.sub
  replace S:=S.called (X:=[]) hC
  replace g101:=g101.mono hs
  replace g104:=g104.mono hs
  replace g107:=g107.mono hs
  replace g0_4:=g0_4.mono hs
  replace g0_5:=g0_5.mono hs
  replace g0_6:=g0_6.mono hs
  replace g1_6:=g1_6.mono hs
  refine plc E (.r 2 1 .nil) (fun a E=>?_)
  replace S:=S.front 4 rfl
  refine pls E S [iv t120.f0,iv t120.f1,iv t120.f2,iv t120.f3,.slice A123 t120.f4.length c124,.slice A127 t120.f5.length c128,.slice A131 t120.f6.length c132] fun u135 hb6 S a E=>plc E (.r 4 1 .nil) (fun a E=>pld (hK118 _ _ (wp_ret (qCQ ?_))))
  replace S:=S.front 1 rfl
  obtain ⟨F136,hs,g137,S⟩:=S.give
  replace g101:=g101.mono hs
  replace g104:=g104.mono hs
  replace g107:=g107.mono hs
  replace g0_4:=g0_4.mono hs
  replace g0_5:=g0_5.mono hs
  replace g0_6:=g0_6.mono hs
  replace g1_6:=g1_6.mono hs
  replace S:=S.front 1 rfl
  obtain ⟨F138,hs,g139,S⟩:=S.give
  replace g101:=g101.mono hs
  replace g104:=g104.mono hs
  replace g107:=g107.mono hs
  replace g0_4:=g0_4.mono hs
  replace g0_5:=g0_5.mono hs
  replace g0_6:=g0_6.mono hs
  replace g137:=g137.mono hs
  replace g1_6:=g1_6.mono hs
  replace S:=S.pm [1] 5
  obtain rfl:=si H
  exact rtm E (.b hb6 ag26 sz26 (.t .nil)) ⟨_,rfl,_,_,_,_,_,_,_,rfl,S,g137,g139⟩
  refine meet2 (fun a w'=>∃(G:NV)(b93:Nat)(A81:OA)(c82:Nat)(A85:OA)(c86:Nat)(A89:OA)(c90:Nat)(F109:World),Env 56 G a∧At G [(2,.pointer (pb b2)),(4,.pointer (pb b6)),(6,.pointer (pb b93)),(37,.agg #[iv t77.f0,iv t77.f1,iv t77.f2,iv t77.f3,.slice A81 t77.f4.length c82,.slice A85 t77.f5.length c86,.slice A89 t77.f6.length c90]),(38,.agg #[iv y.f0,iv y.f1,iv y.f2,iv y.f3,iv y.f4,iv y.f5,.slice A1_6 y.f6.length c1_6])]∧Sm W F w' F109 [box b93 #[iv 0,iv 0,iv 0,iv 0,.slice none 0 0,.slice none 0 0,.slice none 0 0] 26,box b6 #[iv 0,iv 0,iv 0,iv 0,.slice none 0 0,.slice none 0 0,.slice none 0 0] 26,box b4 #[iv y.f0,iv y.f1,iv y.f2,iv y.f3,iv y.f4,iv y.f5,.slice A1_6 y.f6.length c1_6] 29,box b2 #[iv x.f0,iv x.f1,iv x.f2,iv x.f3,.slice A0_4 x.f4.length c0_4,.slice A0_5 x.f5.length c0_5,.slice A0_6 x.f6.length c0_6] 26,row qA.k 68 (.slice A81 t77.f4.length c82) t77.f4,row qE.k 75 (.slice A85 t77.f5.length c86) t77.f5,row qC.k 73 (.slice A89 t77.f6.length c90) t77.f6]∧Rd ki F109 A1_6 c1_6 y.f6∧Rd qA.k F109 A0_4 c0_4 x.f4∧Rd qE.k F109 A0_5 c0_5 x.f5∧Rd qC.k F109 A0_6 c0_6 x.f6) 6 135 ?_ (fun hJ=>?_)
  rintro a u110 ⟨G,b93,A81,c82,A85,c86,A89,c90,F109,E,A,S,g1_6,g0_4,g0_5,g0_6⟩
  obtain ⟨J,E⟩:=E.at A
  replace S:=S.pm [4,5,6,0,1,2,3] 7
  refine on1 3 E (.cl en70 (qBm.calls k23 t77 y _ _ _ _ _ _ _ _ _ _ _ (Own.left (X:=[row qA.k 68 (.slice A81 t77.f4.length c82) t77.f4,row qE.k 75 (.slice A85 t77.f5.length c86) t77.f5,row qC.k 73 (.slice A89 t77.f6.length c90) t77.f6]) S.own) g1_6 h96)) ?_
  rintro _ u97 a ⟨F98,A99,c100,A102,c103,A105,c106,rfl,hC,g101,g104,g107⟩ E
  refine ⟨.d,?_⟩
  have hs:=hC.sub
  replace S:=S.called (X:=[row qA.k 68 (.slice A81 t77.f4.length c82) t77.f4,row qE.k 75 (.slice A85 t77.f5.length c86) t77.f5,row qC.k 73 (.slice A89 t77.f6.length c90) t77.f6]) hC
  replace g1_6:=g1_6.mono hs
  replace g0_4:=g0_4.mono hs
  replace g0_5:=g0_5.mono hs
  replace g0_6:=g0_6.mono hs
  refine mny 2 hst E (.r 4 3 .nil) (fun a E=>?_)
  exact hJb _ _ ⟨_,b93,A99,c100,A102,c103,A105,c106,F98,E,.of,S,g101,g104,g107,g1_6,g0_4,g0_5,g0_6⟩
  refine pk2 1 7 ?_ ?_
  refine pk1 1 E (.cl en69 (qAx.calls k23 x _ _ _ _ _ _ _ _ _ S.own.sub g0_4 g0_5 g0_6 h78)) ?_
  rintro _ u79 a ⟨F80,A81,c82,A85,c86,A89,c90,rfl,hC⟩ E
  refine ⟨.of hC.agr,?_⟩
  have hs:=hC.sub
  replace S:=S.called (X:=[]) hC
  replace g0_4:=g0_4.mono hs
  replace g0_5:=g0_5.mono hs
  replace g0_6:=g0_6.mono hs
  replace g1_6:=g1_6.mono hs
  refine pk2 7 3 ?_ ?_
  refine pk1 7 E (.al (t:=26) S [iv 0,iv 0,iv 0,iv 0,.slice none 0 0,.slice none 0 0,.slice none 0 0]) ?_
  rintro _ u94 a ⟨b93,rfl,hb93,S,hg⟩ E
  refine ⟨.of hg,?_⟩
  replace S:=S.pm [0,4,5,6,1,2,3] 7
  exact hJ _ _ ⟨_,b93,A81,c82,A85,c86,A89,c90,F80,E,.of,S,g1_6,g0_4,g0_5,g0_6⟩
  refine pk1 3 E (.cl en70 (qBm.calls k23 t77 y _ _ _ _ _ _ _ _ _ _ _ (Own.left (X:=[row qA.k 68 (.slice A81 t77.f4.length c82) t77.f4,row qE.k 75 (.slice A85 t77.f5.length c86) t77.f5,row qC.k 73 (.slice A89 t77.f6.length c90) t77.f6]) S.own) g1_6 h96)) ?_
  rintro _ u97 a ⟨F98,A99,c100,A102,c103,A105,c106,rfl,hC,g101,g104,g107⟩ E
  refine ⟨.d,?_⟩
  have hs:=hC.sub
  replace S:=S.called (X:=[row qA.k 68 (.slice A81 t77.f4.length c82) t77.f4,row qE.k 75 (.slice A85 t77.f5.length c86) t77.f5,row qC.k 73 (.slice A89 t77.f6.length c90) t77.f6]) hC
  replace g0_4:=g0_4.mono hs
  replace g0_5:=g0_5.mono hs
  replace g0_6:=g0_6.mono hs
  replace g1_6:=g1_6.mono hs
  refine mny 3 hst E (.r 4 3 .nil) (fun a E=>?_)
  refine on1 7 E (.al (t:=26) S [iv 0,iv 0,iv 0,iv 0,.slice none 0 0,.slice none 0 0,.slice none 0 0]) ?_
  rintro _ u94 a ⟨b93,rfl,hb93,S,hg⟩ E
  refine ⟨.of hg,?_⟩
  exact hJb _ _ ⟨_,b93,A99,c100,A102,c103,A105,c106,F98,E,.of,S,g101,g104,g107,g1_6,g0_4,g0_5,g0_6⟩
  refine pk1 7 E (.al (t:=26) S [iv 0,iv 0,iv 0,iv 0,.slice none 0 0,.slice none 0 0,.slice none 0 0]) ?_
  rintro _ u94 a ⟨b93,rfl,hb93,S,hg⟩ E
  refine ⟨.of hg,?_⟩
  refine on1 1 E (.cl en69 (qAx.calls k23 x _ _ _ _ _ _ _ _ _ S.own.sub g0_4 g0_5 g0_6 h78)) ?_
  rintro _ u79 a ⟨F80,A81,c82,A85,c86,A89,c90,rfl,hC⟩ E
  refine ⟨.of hC.agr,?_⟩
  have hs:=hC.sub
  replace S:=S.called (X:=[]) hC
  replace g0_4:=g0_4.mono hs
  replace g0_5:=g0_5.mono hs
  replace g0_6:=g0_6.mono hs
  replace g1_6:=g1_6.mono hs
  replace S:=S.pm [3,4,5,6,0,1,2] 7
  exact hJ _ _ ⟨_,b93,A81,c82,A85,c86,A89,c90,F80,E,.of,S,g1_6,g0_4,g0_5,g0_6⟩
 refine pl0 ?_
 have hb4:=S.ba 1
 refine plc E (.r 0 1<|.b 1 0 hb4<|.r 2 2<|.nil) (fun a E=>E.fk 17 H (fun c15 E H=>?_) fun c15 E H=>?_)
 refine plc E (.r 4 10 .nil) (fun a E=>pld ?_)
 exact J24 _ (by omega) _ true _ _ E .of S H
 refine plc E (.r 4 1<|.b 5 0 hb4<|.r 6 3<|.nil) (fun a E=>E.fk 22 H (fun c16 E H=>?_) fun c16 E H=>?_)
 refine plc E (.r 9 5 .nil) (fun a E=>pld ?_)
 exact J24 _ (by omega) _ true _ _ E .of S H
 refine plc E (.bn 9 0 7 hb4 .nil) (fun a E=>?_)
 obtain ⟨t18,h19,H⟩:=bd H
 refine plq E S en68 (qCF.calls y _ _ _ _ _ S.own.sub g1_6 h19) fun u17 S a E=>plc E (.r 11 3 .nil) (fun a E=>pld ?_)
 exact J24 _ (by omega) _ (!t18) _ _ E .of S H
 refine sq fun K73 hK73=>pl0 (plc E (.r 0 1 .nil) (fun a E=>pls E S [iv 0,iv 0,iv 0,iv 0,.slice none 0 0,.slice none 0 0,.slice none 0 0] fun u74 hb6 S a E=>plc E (.r 2 1 .nil) (fun a E=>pld (hK73 _ _ (wp_ret (qCR (qCQ ?_)))))))
 replace S:=S.nilrow qC.k 73
 replace S:=S.pm [0] 4
 obtain rfl:=si H
 exact rtm E (.b hb6 ag26 sz26 (.t .nil)) ⟨_,rfl,_,_,_,_,_,_,_,rfl,S,(Rd.nil _ _),(Rd.nil _ _)⟩
def qCD.f(x:qAY):Option qF:=some (⟨1,x.f1,x.f2,x.f3,0,0,[]⟩:qF)
def qCD.Post(W F:World)(r:qF)(v:Value)(w':World):Prop:=∃(F':World)(RA0_6:OA)(rc0_6:Nat),v = .agg #[iv r.f0,iv r.f1,iv r.f2,iv r.f3,iv r.f4,iv r.f5,.slice RA0_6 r.f6.length rc0_6]∧Sm W F w' F' []∧Rd ki F' RA0_6 rc0_6 r.f6
theorem qCD.calls(x:qAY)(r:qF)(W F:World)(hown:Sub F W)(H:qCD.f x=some r):
    Cr 57 #[.agg #[iv x.f0,iv x.f1,iv x.f2,iv x.f3,iv x.f4]] W (qCD.Post W F r):=by
 have S:=sT hown
 unfold qCD.f at H
 refine ent 10 rfl rfl rfl (fun a E=>?_)
 refine sq fun K1 hK1=>pl0 (plx (t:=65) E S [iv x.f0,iv x.f1,iv x.f2,iv x.f3,iv x.f4] fun b2 u3 hb2 S a E=>pla (t:=29) E S [iv 0,iv 0,iv 0,iv 0,iv 0,iv 0,.slice none 0 0] fun b4 u5 hb4 S a E=>pld (hK1 _ _ (sq fun K6 hK6=>pl0 ?_)))
 have hb2:=S.ba 1
 refine plc E (.r 0 1<|.b 1 1 hb2<|.r 2 1<|.b 3 2 hb2<|.r 4 1<|.b 5 3 hb2<|.r 6 1<|.nil) (fun a E=>pls E S [iv 1,iv x.f1,iv x.f2,iv x.f3,iv 0,iv 0,.slice none 0 0] fun u7 hb4 S a E=>pld (hK6 _ _ (wp_ret ?_)))
 replace S:=S.pm [] 2
 obtain rfl:=si H
 exact ret1 E rfl (.cell (by kernel_rfl) (qCh [iv 1,iv x.f1,iv x.f2,iv x.f3,iv 0,iv 0,.slice none 0 0] ag29 sz29 hb4 rfl) .nil) ⟨_,rfl,_,_,_,rfl,S,(Rd.nil _ _)⟩
def qBC.j8:Nat→qAY→Bool→Option Int
 | 0,_,_=>none
 | k+1,x,y7=>if y7=true then (some 0) else (some x.f4)
theorem qBC.j8_s k x y7:type_of% (qBC.j8.eq_2 x y7 k):=qBC.j8.eq_2 x y7 k
def qBC.f(k:Nat)(x:qAY):Option Int:=if x.f0=1 then (qBC.j8 k x true) else (qBC.j8 k x (x.f0 == 4))
def qBC.Post(W F:World)(r:Int)(v:Value)(w':World):Prop:=∃(F':World),v=iv r∧Sm W F w' F' []
theorem qBC.calls(k:Nat)(x:qAY)(r:Int)(W F:World)(hown:Sub F W)(H:qBC.f k x=some r):
    Cr 60 #[.agg #[iv x.f0,iv x.f1,iv x.f2,iv x.f3,iv x.f4]] W (qBC.Post W F r):=by
 have S:=sT hown
 unfold qBC.f at H
 refine ent 13 rfl rfl rfl (fun a E=>?_)
 refine sq fun K1 hK1=>pl0 (plx (t:=65) E S [iv x.f0,iv x.f1,iv x.f2,iv x.f3,iv x.f4] fun b2 u3 hb2 S a E=>plc E (.r 1 1 .nil) (fun a E=>pld (hK1 _ _ (sq fun K4 hK4=>sq fun K5 hK5=>?_))))
 have J11:∀ kq9,kq9≤k→∀(G:NV)(y7:Bool)(a:Act)(w':World),Env 13 G a→At G [(1,.pointer (pb b2)),(10,.bool y7)]→Sm W F w' F [box b2 #[iv x.f0,iv x.f1,iv x.f2,iv x.f3,iv x.f4] 65]→qBC.j8 kq9 x y7=some r→K5 a w':=by
  intro kq9 hkq G y7 a u12 E A S H
  obtain _ | k10:=kq9
  exact zz H
  rw [qBC.j8_s]at H
  obtain ⟨J,E⟩:=E.at A
  refine hK5 _ _ (E.ib 10 H (fun c13 E H=>?_) fun c13 E H=>?_)
  refine rr E fun a E=>(wp_ret (qCQ ?_))
  replace S:=S.tail
  obtain rfl:=si H
  exact rt1 E ⟨_,rfl,_,rfl,S⟩
  refine wp_skip (hK4 _ _ (rg E (.r 0 1<|.b 1 4 (S.ba 0)<|.r 2 1<|.nil) fun a E=>(wp_ret ?_)))
  replace S:=S.tail
  obtain rfl:=si H
  exact rt1 E ⟨_,rfl,_,rfl,S⟩
 refine pl0 (plc E (.r 0 1<|.b 1 0 hb2<|.r 2 2<|.nil) (fun a E=>E.fk 6 H (fun c6 E H=>?_) fun c6 E H=>?_))
 refine plc E (.r 4 4 .nil) (fun a E=>pld ?_)
 exact J11 _ (by omega) _ true _ _ E .of S H
 refine plc E (.r 4 1<|.b 5 0 hb2<|.r 6 2<|.nil) (fun a E=>pld ?_)
 exact J11 _ (by omega) _ (x.f0 == 4) _ _ E .of S H
def qBZ.j14:Nat→qD→Int→Bool→Option (List Int)
 | 0,_,_,_=>none
 | k+1,x,y,y13=>if y13=true then (some []) else ((qCC.f k x y).bind fun t24=>(some t24))
theorem qBZ.j14_s k x y y13:type_of% (qBZ.j14.eq_2 x y y13 k):=qBZ.j14.eq_2 x y y13 k
def qBZ.f(k:Nat)(x:qD)(y:Int):Option (List Int):=(qAC.f k x).bind fun t7=>(if t7=0 then ((qBK.f y 0 (w64 (x.f3 - 1))).bind fun t11=>(qBZ.j14 k x y (!t11))) else (qBZ.j14 k x y true))
def qBZ.Post(W F:World)(r:List Int)(v:Value)(w':World):Prop:=∃(F':World)(RA0_0:OA)(rc0_0:Nat),v = .slice RA0_0 r.length rc0_0∧Sm W F w' F' [row ki 3 (.slice RA0_0 r.length rc0_0) r]
theorem qBZ.calls(k:Nat)(x:qD)(y:Int)(A0_4:OA)(c0_4:Nat)(A0_5:OA)(c0_5:Nat)(A0_6:OA)(c0_6:Nat)(r:List Int)(W F:World)(hown:Sub F W)(g0_4:Rd qA.k F A0_4 c0_4 x.f4)(g0_5:Rd qE.k F A0_5 c0_5 x.f5)(g0_6:Rd qC.k F A0_6 c0_6 x.f6)(H:qBZ.f k x y=some r):
    Cr 64 #[.agg #[iv x.f0,iv x.f1,iv x.f2,iv x.f3,.slice A0_4 x.f4.length c0_4,.slice A0_5 x.f5.length c0_5,.slice A0_6 x.f6.length c0_6],iv y] W (qBZ.Post W F r):=by
 have S:=sT hown
 unfold qBZ.f at H
 refine ent 19 rfl rfl rfl (fun a E=>?_)
 refine sq fun K1 hK1=>pl0 (plx (t:=26) E S [iv x.f0,iv x.f1,iv x.f2,iv x.f3,.slice A0_4 x.f4.length c0_4,.slice A0_5 x.f5.length c0_5,.slice A0_6 x.f6.length c0_6] fun b2 u3 hb2 S a E=>plc E (.r 1 1 .nil) (fun a E=>pld (hK1 _ _ (sq fun K4 hK4=>sq fun K5 hK5=>?_))))
 have J17:∀ kq15,kq15≤k→∀(G:NV)(y13:Bool)(a:Act)(w':World),Env 19 G a→At G [(1,iv y),(2,.pointer (pb b2)),(15,.bool y13)]→Sm W F w' F [box b2 #[iv x.f0,iv x.f1,iv x.f2,iv x.f3,.slice A0_4 x.f4.length c0_4,.slice A0_5 x.f5.length c0_5,.slice A0_6 x.f6.length c0_6] 26]→qBZ.j14 kq15 x y y13=some r→K5 a w':=by
  intro kq15 hkq G y13 a u18 E A S H
  obtain _ | k16:=kq15
  exact zz H
  rw [qBZ.j14_s]at H
  obtain ⟨J,E⟩:=E.at A
  refine hK5 _ _ (E.ib 15 H (fun c19 E H=>?_) fun c19 E H=>?_)
  refine rr E fun a E=>(wp_ret (qCQ ?_))
  replace S:=S.nilrow ki 3
  replace S:=S.pm [0] 2
  obtain rfl:=si H
  exact rt1 E ⟨_,rfl,_,_,_,rfl,S⟩
  refine wp_skip (hK4 _ _ (sq fun K22 hK22=>pl0 (plc E (.bn 0 0 7 (S.ba 0)<|.r 1 1<|.nil) (fun a E=>?_))))
  obtain ⟨t24,h25,H⟩:=bd H
  refine ple E (.cl en94 (qCC.calls k16 x y _ _ _ _ _ _ _ _ _ S.own.sub g0_4 g0_5 g0_6 h25)) ?_
  rintro _ u23 a ⟨F26,A27,c28,rfl,hC⟩ E
  have hs:=hC.sub
  replace S:=S.called (X:=[]) hC
  replace g0_4:=g0_4.mono hs
  replace g0_5:=g0_5.mono hs
  replace g0_6:=g0_6.mono hs
  refine plc E (.r 3 1 .nil) (fun a E=>pld (hK22 _ _ (wp_ret ?_)))
  replace S:=S.pm [0] 2
  obtain rfl:=si H
  exact rt1 E ⟨_,rfl,_,_,_,rfl,S⟩
 refine pl0 (plc E (.bn 0 0 7 hb2 .nil) (fun a E=>?_))
 obtain ⟨t7,h8,H⟩:=bd H
 refine plq E S en65 (qAC.calls k x _ _ _ _ _ _ _ _ _ S.own.sub g0_4 g0_5 g0_6 h8) fun u6 S a E=>plc E (.r 2 2 .nil) (fun a E=>E.fkn 8 H (fun c9 E H=>?_) fun c9 E H=>?_)
 refine plc E (.r 4 2<|.b 6 3 (S.ba 0)<|.r 7 1<|.nil) (fun a E=>?_)
 obtain ⟨t11,h12,H⟩:=bd H
 refine plq E S en93 (qBK.calls y 0 (w64 (x.f3 - 1)) _ _ _ S.own.sub h12) fun u10 S a E=>plc E (.r 9 2 .nil) (fun a E=>pld ?_)
 exact J17 _ (by omega) _ (!t11) _ _ E .of S H
 refine plc E (.r 4 7 .nil) (fun a E=>pld ?_)
 exact J17 _ (by omega) _ true _ _ E .of S H
def qAv.l8:Nat→qD→Int→Int→Option Bool
 | 0,_,_,_=>none
 | k+1,x,y,x6=>if x6<x.f3 then ((qBZ.f k x x6).bind fun t19=>((qAG.f k t19 y).bind fun t27=>(if t27=true then (some true) else (qAv.l8 k x y (w64 (x6+1)))))) else (some false)
theorem qAv.l8_s k x y x6:type_of% (qAv.l8.eq_2 x y x6 k):=qAv.l8.eq_2 x y x6 k
def qAv.f(k:Nat)(x:qD)(y:Int):Option Bool:=qAv.l8 k x y 0
def qAv.Post(W F:World)(r:Bool)(v:Value)(w':World):Prop:=∃(F':World),v = .bool r∧Sm W F w' F' []
theorem qAv.calls(k:Nat)(x:qD)(y:Int)(A0_4:OA)(c0_4:Nat)(A0_5:OA)(c0_5:Nat)(A0_6:OA)(c0_6:Nat)(r:Bool)(W F:World)(hown:Sub F W)(g0_4:Rd qA.k F A0_4 c0_4 x.f4)(g0_5:Rd qE.k F A0_5 c0_5 x.f5)(g0_6:Rd qC.k F A0_6 c0_6 x.f6)(H:qAv.f k x y=some r):
    Cr 66 #[.agg #[iv x.f0,iv x.f1,iv x.f2,iv x.f3,.slice A0_4 x.f4.length c0_4,.slice A0_5 x.f5.length c0_5,.slice A0_6 x.f6.length c0_6],iv y] W (qAv.Post W F r):=by
 have S:=sT hown
 unfold qAv.f at H
 refine ent 17 rfl rfl rfl (fun a E=>?_)
 refine sq fun K1 hK1=>pl0 (plx (t:=26) E S [iv x.f0,iv x.f1,iv x.f2,iv x.f3,.slice A0_4 x.f4.length c0_4,.slice A0_5 x.f5.length c0_5,.slice A0_6 x.f6.length c0_6] fun b2 u3 hb2 S a E=>plc E (.r 1 1 .nil) (fun a E=>pld (hK1 _ _ (sq fun K4 hK4=>rg E (.r 0 1<|.b 1 3 hb2<|.r 2 1<|.nil) fun a E=>(wp_block ?_)))))
 refine wp_loop_ghost (fun kq9 a w'=>∃(G:NV)(x6:Int)(F7:World),kq9≤k∧Env 17 G a∧At G [(1,iv y),(2,.pointer (pb b2)),(7,iv x.f3),(8,iv x6)]∧Sm W F w' F7 [box b2 #[iv x.f0,iv x.f1,iv x.f2,iv x.f3,.slice A0_4 x.f4.length c0_4,.slice A0_5 x.f5.length c0_5,.slice A0_6 x.f6.length c0_6] 26]∧Rd qA.k F7 A0_4 c0_4 x.f4∧Rd qE.k F7 A0_5 c0_5 x.f5∧Rd qC.k F7 A0_6 c0_6 x.f6∧qAv.l8 kq9 x y x6=some r) k ⟨_,0,F,Nat.le_refl _,E,.of,S,g0_4,g0_5,g0_6,H⟩ ?_
 rintro kq9 a u11 ⟨G,x6,F7,hkq,E,A,S,g0_4,g0_5,g0_6,H⟩
 obtain _ | k10:=kq9
 exact zz H
 rw [qAv.l8_s]at H
 obtain ⟨J,E⟩:=E.at A
 refine rr E fun a E=>(sq fun K13 hK13=>E.ik 9 H (fun c14 E H=>?_) fun c14 E H=>?_)
 refine wp_skip (hK13 _ _ (sq fun K15 hK15=>wp_block (rr E fun a E=>(sq fun K17 hK17=>pl0 (plc E (.bn 0 0 7 (S.ba 0)<|.r 1 1<|.nil) (fun a E=>?_))))))
 obtain ⟨t19,h20,H⟩:=bd H
 refine ple E (.cl en64 (qBZ.calls k10 x x6 _ _ _ _ _ _ _ _ _ S.own.sub g0_4 g0_5 g0_6 h20)) ?_
 rintro _ u18 a ⟨F21,A22,c23,rfl,hC⟩ E
 have hs:=hC.sub
 replace S:=S.called (X:=[]) hC
 replace g0_4:=g0_4.mono hs
 replace g0_5:=g0_5.mono hs
 replace g0_6:=g0_6.mono hs
 refine plc E (.r 3 1 .nil) (fun a E=>?_)
 obtain ⟨t27,h28,H⟩:=bd H
 refine plq E S en75 (qAG.calls k10 t19 y _ _ _ _ _ (Sub.refl _) (S.rd_at (i:=0) rfl) h28) fun u26 S a E=>pld (hK17 _ _ (E.ib 15 H (fun c29 E H=>?_) fun c29 E H=>?_))
 refine rr E fun a E=>(wp_ret (qCR (qCQ (qCQ (qCR (qCQ ?_))))))
 replace S:=S.pm [] 2
 obtain rfl:=si H
 exact rt1 E ⟨_,rfl,_,rfl,S⟩
 refine wp_skip ?_
 refine qCS ?_
 refine hK15 _ _ (pl0 (plc E (.r 0 2 .nil) (fun a E=>pld ?_)))
 replace S:=S.tail
 exact qCT ⟨k10,by omega,_,(w64 (x6+1)),F21,by omega,E,.of,S,g0_4,g0_5,g0_6,H⟩
 refine wp_exit ?_
 refine hK4 _ _ (rr E fun a E=>(wp_ret ?_))
 replace S:=S.tail
 obtain rfl:=si H
 exact rt1 E ⟨_,rfl,_,rfl,S⟩
def qCG.f(x:qAY):Option qAY:=if x.f0=3 then (some x) else (if x.f0=2 then (some (⟨x.f0,x.f1,0,0,x.f4⟩:qAY)) else (some (⟨x.f0,x.f1,0,0,0⟩:qAY)))
def qCG.Post(W F:World)(r:qAY)(v:Value)(w':World):Prop:=∃(F':World),v = .agg #[iv r.f0,iv r.f1,iv r.f2,iv r.f3,iv r.f4]∧Sm W F w' F' []
theorem qCG.calls(x:qAY)(r:qAY)(W F:World)(hown:Sub F W)(H:qCG.f x=some r):
    Cr 82 #[.agg #[iv x.f0,iv x.f1,iv x.f2,iv x.f3,iv x.f4]] W (qCG.Post W F r):=by
 have S:=sT hown
 unfold qCG.f at H
 refine ent 22 rfl rfl rfl (fun a E=>?_)
 refine sq fun K1 hK1=>pl0 (plx (t:=65) E S [iv x.f0,iv x.f1,iv x.f2,iv x.f3,iv x.f4] fun b2 u3 hb2 S a E=>pla (t:=65) E S [iv 0,iv 0,iv 0,iv 0,iv 0] fun b4 u5 hb4 S a E=>pld (hK1 _ _ (sq fun K6 hK6=>sq fun K7 hK7=>pl0 ?_)))
 have hb2:=S.ba 1
 refine plc E (.r 0 1<|.b 1 0 hb2<|.nil) (fun a E=>pld (hK7 _ _ (wp_block (rr E fun a E=>(E.ik 5 H (fun c9 E H=>?_) fun c9 E H=>?_)))))
 refine sq fun K10 hK10=>pl0 (plc E (.bn 0 0 5 hb2 .nil) (fun a E=>pls E S [iv x.f0,iv x.f1,iv x.f2,iv x.f3,iv x.f4] fun u11 hb4 S a E=>pld (hK10 _ _ (wp_ret (qCR (qCQ ?_))))))
 replace S:=S.pm [] 2
 obtain rfl:=si H
 exact ret1 E rfl (.cell (by kernel_rfl) (qCh [iv x.f0,iv x.f1,iv x.f2,iv x.f3,iv x.f4] ag65 sz65 hb4 rfl) .nil) ⟨_,rfl,_,rfl,S⟩
 refine rr E fun a E=>(E.ik 8 H (fun c13 E H=>?_) fun c13 E H=>?_)
 refine sq fun K14 hK14=>pl0 (plc E (.r 0 1<|.b 1 0 hb2<|.r 2 1<|.b 3 1 hb2<|.r 4 1<|.b 5 4 hb2<|.r 6 1<|.nil) (fun a E=>pls E S [iv x.f0,iv x.f1,iv 0,iv 0,iv x.f4] fun u15 hb4 S a E=>pld (hK14 _ _ (wp_ret (qCR (qCQ ?_))))))
 replace S:=S.pm [] 2
 obtain rfl:=si H
 exact ret1 E rfl (.cell (by kernel_rfl) (qCh [iv x.f0,iv x.f1,iv 0,iv 0,iv x.f4] ag65 sz65 hb4 rfl) .nil) ⟨_,rfl,_,rfl,S⟩
 refine wp_skip ?_
 refine qCS ?_
 refine hK6 _ _ (sq fun K16 hK16=>pl0 (plc E (.r 0 1<|.b 1 0 hb2<|.r 2 1<|.b 3 1 hb2<|.r 4 1<|.nil) (fun a E=>pls E S [iv x.f0,iv x.f1,iv 0,iv 0,iv 0] fun u17 hb4 S a E=>pld (hK16 _ _ (wp_ret ?_)))))
 replace S:=S.pm [] 2
 obtain rfl:=si H
 exact ret1 E rfl (.cell (by kernel_rfl) (qCh [iv x.f0,iv x.f1,iv 0,iv 0,iv 0] ag65 sz65 hb4 rfl) .nil) ⟨_,rfl,_,rfl,S⟩
def qBv.f(x:Int):Option Bool:=if x≥0 then (some (decide (x≤65536))) else (some false)
def qBv.Post(W F:World)(r:Bool)(v:Value)(w':World):Prop:=∃(F':World),v = .bool r∧Sm W F w' F' []
theorem qBv.calls(x:Int)(r:Bool)(W F:World)(hown:Sub F W)(H:qBv.f x=some r):
    Cr 83 #[iv x] W (qBv.Post W F r):=by
 have S:=sT hown
 unfold qBv.f at H
 refine ent 9 rfl rfl rfl (fun a E=>?_)
 refine rr E fun a E=>(sq fun K2 hK2=>pl0 (plc E (.r 0 3 .nil) (fun a E=>E.fk 5 H (fun c3 E H=>?_) fun c3 E H=>?_)))
 refine plc E (.r 3 4 .nil) (fun a E=>pld (hK2 _ _ (wp_ret ?_)))
 obtain rfl:=si H
 exact rt1 E ⟨_,rfl,_,rfl,S⟩
 refine plc E (.r 3 4 .nil) (fun a E=>pld (hK2 _ _ (wp_ret ?_)))
 obtain rfl:=si H
 exact rt1 E ⟨_,rfl,_,rfl,S⟩
def qBD.l15:Nat→List qB→Int→Int→Option Int
 | 0,_,_,_=>none
 | k+1,t6,x13,x14=>if x14<(t6.length:Int) then (if 0≤x14∧x14<(t6.length:Int) then (if (nth qB.z t6 x14).f1>0 then (qBD.l15 k t6 (w64 (x13+1)) (w64 (x14+1))) else (qBD.l15 k t6 x13 (w64 (x14+1)))) else (none)) else (some x13)
theorem qBD.l15_s k t6 x13 x14:type_of% (qBD.l15.eq_2 t6 x13 x14 k):=qBD.l15.eq_2 t6 x13 x14 k
def qBD.f(k:Nat)(x:List qA):Option Int:=(qBo.f k x).bind fun t6=>(qBD.l15 k t6 0 0)
def qBD.Post(W F:World)(r:Int)(v:Value)(w':World):Prop:=∃(F':World),v=iv r∧Sm W F w' F' []
theorem qBD.calls(k:Nat)(x:List qA)(A0_0:OA)(c0_0:Nat)(r:Int)(W F:World)(hown:Sub F W)(g0_0:Rd qA.k F A0_0 c0_0 x)(H:qBD.f k x=some r):
    Cr 84 #[.slice A0_0 x.length c0_0] W (qBD.Post W F r):=by
 have S:=sT hown
 unfold qBD.f at H
 refine ent 20 rfl rfl rfl (fun a E=>?_)
 refine rr E fun a E=>(rr E fun a E=>(sq fun K3 hK3=>sq fun K4 hK4=>pl0 (plc E (.r 0 1 .nil) (fun a E=>?_))))
 obtain ⟨t6,h7,H⟩:=bd H
 refine ple E (.cl en113 (qBo.calls k x _ _ _ _ _ S.own.sub g0_0 h7)) ?_
 rintro _ u5 a ⟨F8,A9,c10,rfl,hC⟩ E
 have hs:=hC.sub
 replace S:=S.called (X:=[]) hC
 replace g0_0:=g0_0.mono hs
 refine plc E (.r 2 2 .nil) (fun a E=>pld (hK4 _ _ (wp_block ?_)))
 refine wp_loop_ghost (fun kq16 a w'=>∃(G:NV)(x13:Int)(x14:Int),kq16≤k∧Env 20 G a∧At G [(3,iv x13),(7,.slice A9 t6.length c10),(8,iv (t6.length:Int)),(9,iv x14)]∧Sm W F w' F8 [row qB.k 139 (.slice A9 t6.length c10) t6]∧qBD.l15 kq16 t6 x13 x14=some r) k ⟨_,0,0,Nat.le_refl _,E,.of,S,H⟩ ?_
 rintro kq16 a u18 ⟨G,x13,x14,hkq,E,A,S,H⟩
 obtain _ | k17:=kq16
 exact zz H
 rw [qBD.l15_s]at H
 obtain ⟨J,E⟩:=E.at A
 refine rr E fun a E=>(sq fun K20 hK20=>E.ik 10 H (fun c21 E H=>?_) fun c21 E H=>?_)
 refine wp_skip (hK20 _ _ (sq fun K22 hK22=>wp_block (sq fun K23 hK23=>pl0 ?_)))
 obtain ⟨c24,H⟩:=gd H
 have hr25:=S.ra 0
 have hE_:=E
 obtain ⟨b26,rfl⟩:=qCW hr25 c24.1 c24.2
 replace E:=hE_
 have hr_:=S.ra 0
 obtain ⟨cs28,rfl,hc29⟩:=qCV hr_ qB.z x14 c24.1 c24.2
 refine plc E (.x 0 c24<|.cs 1 hc29<|.nil) (fun a E=>pla (t:=139) E S [iv 0,iv 0] fun b30 u31 hb30 S a E=>pls E S [iv ((nth qB.z t6 x14).f0),iv ((nth qB.z t6 x14).f1)] fun u32 hb30 S a E=>pld (hK23 _ _ (rg E (.r 0 1<|.b 1 1 hb30<|.r 2 1<|.nil) fun a E=>(E.ik 15 H (fun c34 E H=>?_) fun c34 E H=>?_))))
 refine pl0 (plc E (.r 0 3 .nil) (fun a E=>pld ?_))
 refine qCS ?_
 refine hK22 _ _ (pl0 (plc E (.r 0 2 .nil) (fun a E=>pld ?_)))
 replace S:=S.tail
 exact qCT ⟨k17,by omega,_,(w64 (x13+1)),(w64 (x14+1)),by omega,E,.of,S,H⟩
 refine wp_skip ?_
 refine qCS ?_
 refine hK22 _ _ (pl0 (plc E (.r 0 2 .nil) (fun a E=>pld ?_)))
 replace S:=S.tail
 exact qCT ⟨k17,by omega,_,x13,(w64 (x14+1)),by omega,E,.of,S,H⟩
 refine wp_exit ?_
 refine hK3 _ _ (rr E fun a E=>(wp_ret ?_))
 replace S:=S.tail
 obtain rfl:=si H
 exact rt1 E ⟨_,rfl,_,rfl,S⟩
def qAw.l15:Nat→Int→Int→List qA→List qA→Int→Option (List qA)
 | 0,_,_,_,_,_=>none
 | k+1,y,z,t4,l13,x14=>if x14<(t4.length:Int) then (if 0≤x14∧x14<(t4.length:Int) then (if (nth qA.z l13 x14).f0=y then (qAw.l15 k y z t4 (l13.set (x14).toNat (⟨(nth qA.z l13 x14).f0,(nth qA.z l13 x14).f1,(nth qA.z l13 x14).f2,z,(nth qA.z l13 x14).f4,(nth qA.z l13 x14).f5⟩:qA)) (w64 (x14+1))) else (qAw.l15 k y z t4 l13 (w64 (x14+1)))) else (none)) else (some l13)
theorem qAw.l15_s k y z t4 l13 x14:type_of% (qAw.l15.eq_2 y z t4 l13 x14 k):=qAw.l15.eq_2 y z t4 l13 x14 k
def qAw.f(k:Nat)(x:List qA)(y:Int)(z:Int):Option (List qA):=(qAU.f x).bind fun t4=>(qAw.l15 k y z t4 t4 0)
def qAw.Post(W F:World)(r:List qA)(v:Value)(w':World):Prop:=∃(F':World)(RA0_0:OA)(rc0_0:Nat),v = .slice RA0_0 r.length rc0_0∧Sm W F w' F' [row qA.k 68 (.slice RA0_0 r.length rc0_0) r]
theorem qAw.calls(k:Nat)(x:List qA)(y:Int)(z:Int)(A0_0:OA)(c0_0:Nat)(r:List qA)(W F:World)(hown:Sub F W)(g0_0:Rd qA.k F A0_0 c0_0 x)(H:qAw.f k x y z=some r):
    Cr 85 #[.slice A0_0 x.length c0_0,iv y,iv z] W (qAw.Post W F r):=by
 have S:=sT hown
 unfold qAw.f at H
 refine ent 29 rfl rfl rfl (fun a E=>?_)
 refine rr E fun a E=>(sq fun K2 hK2=>pl0 (plc E (.r 0 1 .nil) (fun a E=>?_)))
 obtain ⟨t4,h5,H⟩:=bd H
 refine ple E (.cl en96 (qAU.calls x _ _ _ _ _ S.own.sub g0_0 h5)) ?_
 rintro _ u3 a ⟨F6,A7,c8,rfl,hC⟩ E
 have hs:=hC.sub
 replace S:=S.called (X:=[]) hC
 replace g0_0:=g0_0.mono hs
 refine plc E (.r 2 1 .nil) (fun a E=>pld (hK2 _ _ (sq fun K11 hK11=>rr E fun a E=>(wp_block ?_))))
 refine wp_loop_ghost (fun kq16 a w'=>∃(G:NV)(l13:List qA)(x14:Int),kq16≤k∧Env 29 G a∧At G [(0,.slice A7 t4.length c8),(1,iv y),(2,iv z),(11,.slice A7 t4.length c8),(12,iv (t4.length:Int)),(13,iv x14)]∧Sm W F w' F6 [row qA.k 68 (.slice A7 t4.length c8) l13]∧qAw.l15 kq16 y z t4 l13 x14=some r) k ⟨_,t4,0,Nat.le_refl _,E,.of,S,H⟩ ?_
 rintro kq16 a u18 ⟨G,l13,x14,hkq,E,A,S,H⟩
 obtain _ | k17:=kq16
 exact zz H
 rw [qAw.l15_s]at H
 obtain ⟨J,E⟩:=E.at A
 refine rr E fun a E=>(sq fun K20 hK20=>E.ik 14 H (fun c21 E H=>?_) fun c21 E H=>?_)
 refine wp_skip (hK20 _ _ (sq fun K22 hK22=>wp_block (sq fun K23 hK23=>pl0 ?_)))
 obtain ⟨c24,H⟩:=gd H
 have hr25:=S.ra 0
 have c26:0≤x14∧x14<(l13.length:Int):=by rw [← (qCU hr25).1]; exact c24
 have hE_:=E
 obtain ⟨b27,rfl⟩:=qCW hr25 c26.1 c26.2
 replace E:=hE_
 have hr_:=S.ra 0
 obtain ⟨cs29,rfl,hc30⟩:=qCV hr_ qA.z x14 c26.1 c26.2
 refine plc E (.r 0 1<|.x 1 c24<|.cs 2 hc30<|.nil) (fun a E=>pla (t:=68) E S [iv 0,iv 0,iv 0,iv 0,.bool false,.bool false] fun b31 u32 hb31 S a E=>plc E (.r 4 1 .nil) (fun a E=>pls E S [iv ((nth qA.z l13 x14).f0),iv ((nth qA.z l13 x14).f1),iv ((nth qA.z l13 x14).f2),iv ((nth qA.z l13 x14).f3),.bool ((nth qA.z l13 x14).f4),.bool ((nth qA.z l13 x14).f5)] fun u33 hb31 S a E=>pld (hK23 _ _ (rg E (.r 0 1<|.b 1 0 hb31<|.r 2 2<|.nil) fun a E=>(E.ik 21 H (fun c35 E H=>?_) fun c35 E H=>?_)))))
 refine pl0 ?_
 have hr36:=S.ra 1
 have c37:0≤x14∧x14<(l13.length:Int):=by rw [← (qCU hr36).1]; exact c24
 have hr_:=S.ra 1
 obtain ⟨cs39,rfl,hc40⟩:=qCV hr_ qA.z x14 c37.1 c37.2
 refine plc E (.r 0 3<|.x 3 c24<|.r 4 1<|.nil) (fun a E=>?_)
 replace S:=S.front 1 rfl
 obtain ⟨cs42,rfl,hc43⟩:=qCV (S.row_at (i:=0) rfl) qA.z x14 c37.1 c37.2
 refine ple E (.set (d:=qA.k) (n:=t4.length) (i:=x14) (⟨(nth qA.z l13 x14).f0,(nth qA.z l13 x14).f1,(nth qA.z l13 x14).f2,z,(nth qA.z l13 x14).f4,(nth qA.z l13 x14).f5⟩:qA) 3 (ea1 _ _ _) S c37 [iv ((nth qA.z l13 x14).f0),iv ((nth qA.z l13 x14).f1),iv ((nth qA.z l13 x14).f2),iv ((nth qA.z l13 x14).f3),.bool ((nth qA.z l13 x14).f4),.bool ((nth qA.z l13 x14).f5)] hc43 [iv ((nth qA.z l13 x14).f0),iv ((nth qA.z l13 x14).f1),iv ((nth qA.z l13 x14).f2),iv z,.bool ((nth qA.z l13 x14).f4),.bool ((nth qA.z l13 x14).f5)] rfl) ?_
 rintro _ u41 a ⟨rfl,S,hz⟩ E
 refine pld ?_
 refine qCS ?_
 refine hK22 _ _ (pl0 (plc E (.r 0 2 .nil) (fun a E=>pld ?_)))
 replace S:=S.pm [0] 2
 exact qCT ⟨k17,by omega,_,(l13.set (x14).toNat (⟨(nth qA.z l13 x14).f0,(nth qA.z l13 x14).f1,(nth qA.z l13 x14).f2,z,(nth qA.z l13 x14).f4,(nth qA.z l13 x14).f5⟩:qA)),(w64 (x14+1)),by omega,E,.of,S,H⟩
 refine wp_skip ?_
 refine qCS ?_
 refine hK22 _ _ (pl0 (plc E (.r 0 2 .nil) (fun a E=>pld ?_)))
 replace S:=S.tail
 exact qCT ⟨k17,by omega,_,l13,(w64 (x14+1)),by omega,E,.of,S,H⟩
 refine wp_exit ?_
 refine hK11 _ _ (rr E fun a E=>(wp_ret ?_))
 have hn45:=(qCU (S.row_at (i:=0) rfl)).1
 replace E:=E.set (d:=6) (v:=.slice A7 l13.length c8) (Eq.trans (b:=.slice A7 t4.length c8) (by kernel_rfl) (by rw [← hn45]))
 replace S:Sm W F u18 F6 [row qA.k 68 (.slice A7 l13.length c8) l13]:=by rw [← hn45]; exact S
 obtain rfl:=si H
 exact rt1 E ⟨_,rfl,_,_,_,rfl,S⟩
mutual
def qAB.j18:Nat→qD→qAY→Bool→Option Int
 | 0,_,_,_=>none
 | k+1,x,y,y17=>if y17=true then (some 1) else (if y.f0=3 then ((qCD.f y).bind fun t33=>((qAs.f k x t33).bind fun t42=>(if t42.2=0 then (qAB.j85 k x y t42.1.f0 t42.1.f1 t42.1.f2 t42.1.f3 t42.1.f4 t42.1.f5 t42.1.f6) else (some t42.2)))) else (qAB.j85 k x y x.f0 x.f1 x.f2 x.f3 x.f4 x.f5 x.f6))
def qAB.j85:Nat→qD→qAY→Int→Int→Int→Int→List qA→List qE→List qC→Option Int
 | 0,_,_,_,_,_,_,_,_,_=>none
 | k+1,x,y,x68,x69,x70,x71,l74,l78,l82=>(qBF.f k l74 y.f1).bind fun t92=>(if t92.2=true then ((qBv.f y.f4).bind fun t102=>(if t102=true then (if y.f0=2 then (qAB.j108 k x y x68 x69 x70 x71 l74 l78 l82 t92 (t92.1.f3 == y.f4)) else (qAB.j108 k x y x68 x69 x70 x71 l74 l78 l82 t92 false)) else (some 1))) else (some 5))
def qAB.j108:Nat→qD→qAY→Int→Int→Int→Int→List qA→List qE→List qC→qA × Bool→Bool→Option Int
 | 0,_,_,_,_,_,_,_,_,_,_,_=>none
 | k+1,x,y,x68,x69,x70,x71,l74,l78,l82,t92,y107=>if y107=true then (some 7) else (if y.f0=1 then (if t92.1.f3=0 then ((qAv.f k (⟨x68,x69,x70,x71,l74,l78,l82⟩:qD) y.f1).bind fun t119=>(qAB.j126 k x y l74 (!t119))) else (if t92.1.f5=true then (qAB.j126 k x y l74 false) else ((qAv.f k (⟨x68,x69,x70,x71,l74,l78,l82⟩:qD) y.f1).bind fun t123=>(qAB.j126 k x y l74 (!t123))))) else (qAB.j126 k x y l74 false))
def qAB.j126:Nat→qD→qAY→List qA→Bool→Option Int
 | 0,_,_,_,_=>none
 | k+1,x,y,l74,y125=>if y125=true then (some 7) else ((qBC.f k y).bind fun t138=>((qAw.f k l74 y.f1 t138).bind fun t141=>((qBD.f k t141).bind fun t149=>(if t149<x.f2 then ((qBD.f k x.f4).bind fun t154=>(qAB.j157 k (decide (t154≥x.f2)))) else (qAB.j157 k false)))))
def qAB.j157:Nat→Bool→Option Int
 | 0,_=>none
 | k+1,y156=>if y156=true then (some 12) else (some 0)
end
theorem qAB.j18_s k x y y17:type_of% (qAB.j18.eq_2 x y y17 k):=qAB.j18.eq_2 x y y17 k
theorem qAB.j85_s k x y x68 x69 x70 x71 l74 l78 l82:type_of% (qAB.j85.eq_2 x y x68 x69 x70 x71 l74 l78 l82 k):=qAB.j85.eq_2 x y x68 x69 x70 x71 l74 l78 l82 k
theorem qAB.j108_s k x y x68 x69 x70 x71 l74 l78 l82 t92 y107:type_of% (qAB.j108.eq_2 x y x68 x69 x70 x71 l74 l78 l82 t92 y107 k):=qAB.j108.eq_2 x y x68 x69 x70 x71 l74 l78 l82 t92 y107 k
theorem qAB.j126_s k x y l74 y125:type_of% (qAB.j126.eq_2 x y l74 y125 k):=qAB.j126.eq_2 x y l74 y125 k
theorem qAB.j157_s k y156:type_of% (qAB.j157.eq_2 y156 k):=qAB.j157.eq_2 y156 k
def qAB.f(k:Nat)(x:qD)(y:qAY):Option Int:=(qAC.f k x).bind fun t9=>(if t9=0 then (if y.f0<1 then (qAB.j18 k x y true) else (if y.f0≥5 then (qAB.j18 k x y true) else ((qCG.f y).bind fun t15=>(qAB.j18 k x y (!(decide (y=t15))))))) else (qAB.j18 k x y true))
def qAB.Post(W F:World)(r:Int)(v:Value)(w':World):Prop:=∃(F':World),v=iv r∧Sm W F w' F' []
theorem qAB.calls(k:Nat)(x:qD)(y:qAY)(A0_4:OA)(c0_4:Nat)(A0_5:OA)(c0_5:Nat)(A0_6:OA)(c0_6:Nat)(r:Int)(W F:World)(hown:Sub F W)(g0_4:Rd qA.k F A0_4 c0_4 x.f4)(g0_5:Rd qE.k F A0_5 c0_5 x.f5)(g0_6:Rd qC.k F A0_6 c0_6 x.f6)(H:qAB.f k x y=some r):
    Cr 56 #[.agg #[iv x.f0,iv x.f1,iv x.f2,iv x.f3,.slice A0_4 x.f4.length c0_4,.slice A0_5 x.f5.length c0_5,.slice A0_6 x.f6.length c0_6],.agg #[iv y.f0,iv y.f1,iv y.f2,iv y.f3,iv y.f4]] W (qAB.Post W F r):=by
 have S:=sT hown
 unfold qAB.f at H
 refine ent 113 rfl rfl rfl (fun a E=>?_)
 refine sq fun K1 hK1=>pl0 (plx (t:=26) E S [iv x.f0,iv x.f1,iv x.f2,iv x.f3,.slice A0_4 x.f4.length c0_4,.slice A0_5 x.f5.length c0_5,.slice A0_6 x.f6.length c0_6] fun b2 u3 hb2 S a E=>plx (t:=65) E S [iv y.f0,iv y.f1,iv y.f2,iv y.f3,iv y.f4] fun b4 u5 hb4 S a E=>plc E (.r 2 1 .nil) (fun a E=>pld (hK1 _ _ (sq fun K6 hK6=>sq fun K7 hK7=>?_))))
 have J21:∀ kq19,kq19≤k→∀(G:NV)(y17:Bool)(a:Act)(w':World),Env 113 G a→At G [(2,.pointer (pb b2)),(3,.pointer (pb b4)),(29,.bool y17)]→Sm W F w' F [box b4 #[iv y.f0,iv y.f1,iv y.f2,iv y.f3,iv y.f4] 65,box b2 #[iv x.f0,iv x.f1,iv x.f2,iv x.f3,.slice A0_4 x.f4.length c0_4,.slice A0_5 x.f5.length c0_5,.slice A0_6 x.f6.length c0_6] 26]→qAB.j18 kq19 x y y17=some r→K7 a w':=by
  intro kq19 hkq G y17 a u22 E A S H
  obtain _ | k20:=kq19
  exact zz H
  rw [qAB.j18_s]at H
  obtain ⟨J,E⟩:=E.at A
  refine hK7 _ _ (E.ib 29 H (fun c23 E H=>?_) fun c23 E H=>?_)
  refine rr E fun a E=>(wp_ret (qCQ ?_))
  replace S:=S.pm [] 2
  obtain rfl:=si H
  exact rt1 E ⟨_,rfl,_,rfl,S⟩
  refine wp_skip (hK6 _ _ (sq fun K25 hK25=>pl0 ?_))
  have hb2:=S.ba 1
  refine plc E (.bn 0 0 7 hb2 .nil) (fun a E=>pla (t:=26) E S [iv 0,iv 0,iv 0,iv 0,.slice none 0 0,.slice none 0 0,.slice none 0 0] fun b26 u27 hb26 S a E=>pls E S [iv x.f0,iv x.f1,iv x.f2,iv x.f3,.slice A0_4 x.f4.length c0_4,.slice A0_5 x.f5.length c0_5,.slice A0_6 x.f6.length c0_6] fun u28 hb26 S a E=>pld (hK25 _ _ (sq fun K29 hK29=>?_)))
  have J88:∀ kq86,kq86≤k20→∀(G:NV)(x68:Int)(x69:Int)(x70:Int)(x71:Int)(A72:OA)(c73:Nat)(l74:List qA)(A76:OA)(c77:Nat)(l78:List qE)(A80:OA)(c81:Nat)(l82:List qC)(F84:World)(a:Act)(w':World),Env 113 G a→At G [(2,.pointer (pb b2)),(3,.pointer (pb b4)),(5,.pointer (pb b26))]→Sm W F w' F84 [box b26 #[iv x68,iv x69,iv x70,iv x71,.slice A72 l74.length c73,.slice A76 l78.length c77,.slice A80 l82.length c81] 26,box b4 #[iv y.f0,iv y.f1,iv y.f2,iv y.f3,iv y.f4] 65,box b2 #[iv x.f0,iv x.f1,iv x.f2,iv x.f3,.slice A0_4 x.f4.length c0_4,.slice A0_5 x.f5.length c0_5,.slice A0_6 x.f6.length c0_6] 26]→Rd qA.k F84 A72 c73 l74→Rd qE.k F84 A76 c77 l78→Rd qC.k F84 A80 c81 l82→Rd qA.k F84 A0_4 c0_4 x.f4→Rd qE.k F84 A0_5 c0_5 x.f5→Rd qC.k F84 A0_6 c0_6 x.f6→qAB.j85 kq86 x y x68 x69 x70 x71 l74 l78 l82=some r→K29 a w':=by
   intro kq86 hkq G x68 x69 x70 x71 A72 c73 l74 A76 c77 l78 A80 c81 l82 F84 a u89 E A S g75 g79 g83 g0_4 g0_5 g0_6 H
   obtain _ | k87:=kq86
   exact zz H
   rw [qAB.j85_s]at H
   obtain ⟨J,E⟩:=E.at A
   refine hK29 _ _ (sq fun K90 hK90=>pl0 ?_)
   have hb26:=S.ba 0
   have hb4:=S.ba 1
   refine plc E (.r 0 1<|.b 1 4 hb26<|.r 2 1<|.b 3 1 hb4<|.nil) (fun a E=>?_)
   obtain ⟨t92,h93,H⟩:=bd H
   refine plq E S en59 (qBF.calls k87 l74 y.f1 _ _ _ _ _ S.own.sub g75 h93) fun u91 S a E=>plc E (.r 5 3 .nil) (fun a E=>pla (t:=68) E S [iv 0,iv 0,iv 0,iv 0,.bool false,.bool false] fun b94 u95 hb94 S a E=>pls E S [iv t92.1.f0,iv t92.1.f1,iv t92.1.f2,iv t92.1.f3,.bool t92.1.f4,.bool t92.1.f5] fun u96 hb94 S a E=>plc E (.r 10 1 .nil) (fun a E=>pld (hK90 _ _ (sq fun K97 hK97=>wp_block (rr E fun a E=>(E.ibn 53 H (fun c99 E H=>?_) fun c99 E H=>?_))))))
   refine sq fun K100 hK100=>pl0 ?_
   have hb4:=S.ba 2
   refine plc E (.r 0 1<|.b 1 4 hb4<|.nil) (fun a E=>?_)
   obtain ⟨t102,h103,H⟩:=bd H
   refine plq E S en83 (qBv.calls y.f4 _ _ _ S.own.sub h103) fun u101 S a E=>plc E (.r 3 2 .nil) (fun a E=>pld (hK100 _ _ (E.ibn 56 H (fun c104 E H=>?_) fun c104 E H=>?_)))
   refine sq fun K105 hK105=>?_
   have J111:∀ kq109,kq109≤k87→∀(G:NV)(y107:Bool)(a:Act)(w':World),Env 113 G a→At G [(2,.pointer (pb b2)),(3,.pointer (pb b4)),(5,.pointer (pb b26)),(8,.pointer (pb b94)),(61,.bool y107)]→Sm W F w' F84 [box b94 #[iv t92.1.f0,iv t92.1.f1,iv t92.1.f2,iv t92.1.f3,.bool t92.1.f4,.bool t92.1.f5] 68,box b26 #[iv x68,iv x69,iv x70,iv x71,.slice A72 l74.length c73,.slice A76 l78.length c77,.slice A80 l82.length c81] 26,box b4 #[iv y.f0,iv y.f1,iv y.f2,iv y.f3,iv y.f4] 65,box b2 #[iv x.f0,iv x.f1,iv x.f2,iv x.f3,.slice A0_4 x.f4.length c0_4,.slice A0_5 x.f5.length c0_5,.slice A0_6 x.f6.length c0_6] 26]→qAB.j108 kq109 x y x68 x69 x70 x71 l74 l78 l82 t92 y107=some r→K105 a w':=by
    intro kq109 hkq G y107 a u112 E A S H
    obtain _ | k110:=kq109
    exact zz H
    rw [qAB.j108_s]at H
    obtain ⟨J,E⟩:=E.at A
    refine hK105 _ _ (E.ib 61 H (fun c113 E H=>?_) fun c113 E H=>?_)
    refine rr E fun a E=>(wp_ret (qCR (qCQ ?_)))
    replace S:=S.pm [] 4
    obtain rfl:=si H
    exact rt1 E ⟨_,rfl,_,rfl,S⟩
    refine sq fun K115 hK115=>?_
    have J129:∀ kq127,kq127≤k110→∀(G:NV)(y125:Bool)(a:Act)(w':World),Env 113 G a→At G [(2,.pointer (pb b2)),(3,.pointer (pb b4)),(5,.pointer (pb b26)),(72,.bool y125)]→Sm W F w' F84 [box b94 #[iv t92.1.f0,iv t92.1.f1,iv t92.1.f2,iv t92.1.f3,.bool t92.1.f4,.bool t92.1.f5] 68,box b26 #[iv x68,iv x69,iv x70,iv x71,.slice A72 l74.length c73,.slice A76 l78.length c77,.slice A80 l82.length c81] 26,box b4 #[iv y.f0,iv y.f1,iv y.f2,iv y.f3,iv y.f4] 65,box b2 #[iv x.f0,iv x.f1,iv x.f2,iv x.f3,.slice A0_4 x.f4.length c0_4,.slice A0_5 x.f5.length c0_5,.slice A0_6 x.f6.length c0_6] 26]→qAB.j126 kq127 x y l74 y125=some r→K115 a w':=by
     intro kq127 hkq G y125 a u130 E A S H
     obtain _ | k128:=kq127
     exact zz H
     rw [qAB.j126_s]at H
     obtain ⟨J,E⟩:=E.at A
     refine hK115 _ _ (E.ib 72 H (fun c131 E H=>?_) fun c131 E H=>?_)
     refine rr E fun a E=>(wp_ret (qCR (qCQ ?_)))
     replace S:=S.pm [] 4
     obtain rfl:=si H
     exact rt1 E ⟨_,rfl,_,rfl,S⟩
     refine wp_skip ?_
     refine qCS ?_
     refine hK97 _ _ (sq fun K135 hK135=>sq fun K136 hK136=>?_)
     refine drawn 9 ⟨[],[],fun q=>False⟩ mixed rfl (by kernel_rfl) (fun hst=>?_)
     replace S:=S.drew
     have hb26:=S.ba 1
     have hb4:=S.ba 2
     refine mny 4 hst E (.r 0 1<|.b 1 4 hb26<|.r 2 1<|.b 3 1 hb4<|.bn 4 0 5 hb4<|.nil) (fun a E=>?_)
     obtain ⟨t138,h139,H⟩:=bd H
     refine on1 5 E (.cl en60 (qBC.calls k128 y _ _ _ S.own.sub h139)) ?_
     rintro _ u137 a ⟨_,rfl,hC⟩ E
     refine ⟨.of hC.agr,?_⟩
     replace S:=S.lent hC
     obtain ⟨t141,h142,H⟩:=bd H
     refine on1 6 E (.cl en85 (qAw.calls k128 l74 y.f1 t138 _ _ _ _ _ S.own.sub g75 h142)) ?_
     rintro _ u140 a ⟨F143,A144,c145,rfl,hC⟩ E
     refine ⟨.of hC.agr,?_⟩
     have hs:=hC.sub
     replace S:=S.called (X:=[]) hC
     replace g75:=g75.mono hs
     replace g79:=g79.mono hs
     replace g83:=g83.mono hs
     replace g0_4:=g0_4.mono hs
     replace g0_5:=g0_5.mono hs
     replace g0_6:=g0_6.mono hs
     obtain ⟨t149,h150,H⟩:=bd H
     refine on1 7 E (.cl en84 (qBD.calls k128 t141 _ _ _ _ _ (Sub.refl _) (S.rd_at (i:=0) rfl) h150)) ?_
     rintro _ u148 a ⟨_,rfl,hC⟩ E
     refine ⟨.of hC.agr,?_⟩
     replace S:=S.lent hC
     refine mny 0 hst E (.r 8 1 .nil) (fun a E=>?_)
     refine dn ?_
     refine hK136 _ _ (sq fun K151 hK151=>?_)
     have J160:∀ kq158,kq158≤k128→∀(G:NV)(y156:Bool)(a:Act)(w':World),Env 113 G a→At G [(112,.bool y156)]→Sm W F w' F143 [box b94 #[iv t92.1.f0,iv t92.1.f1,iv t92.1.f2,iv t92.1.f3,.bool t92.1.f4,.bool t92.1.f5] 68,box b26 #[iv x68,iv x69,iv x70,iv x71,.slice A72 l74.length c73,.slice A76 l78.length c77,.slice A80 l82.length c81] 26,box b4 #[iv y.f0,iv y.f1,iv y.f2,iv y.f3,iv y.f4] 65,box b2 #[iv x.f0,iv x.f1,iv x.f2,iv x.f3,.slice A0_4 x.f4.length c0_4,.slice A0_5 x.f5.length c0_5,.slice A0_6 x.f6.length c0_6] 26]→qAB.j157 kq158 y156=some r→K151 a w':=by
      intro kq158 hkq G y156 a u161 E A S H
      obtain _ | k159:=kq158
      exact zz H
      rw [qAB.j157_s]at H
      obtain ⟨J,E⟩:=E.at A
      refine hK151 _ _ (E.ib 112 H (fun c162 E H=>?_) fun c162 E H=>?_)
      refine rr E fun a E=>(wp_ret (qCQ ?_))
      replace S:=S.pm [] 4
      obtain rfl:=si H
      exact rt1 E ⟨_,rfl,_,rfl,S⟩
      refine wp_skip (hK135 _ _ (rr E fun a E=>(wp_ret ?_)))
      replace S:=S.pm [] 4
      obtain rfl:=si H
      exact rt1 E ⟨_,rfl,_,rfl,S⟩
     refine drawn 12 ⟨[],[],fun q=>False⟩ mixed rfl (by kernel_rfl) (fun hst=>?_)
     replace S:=S.drew
     have hb2:=S.ba 4
     refine mny 7 hst E (.r 0 2<|.b 2 2 hb2<|.r 3 2<|.nil) (fun a E=>?_)
     refine E.fk 105 H (fun c152 E H=>?_) fun c152 E H=>?_
     refine mny 3 hst E (.r 5 1<|.b 6 4 hb2<|.r 8 1<|.b 9 2 hb2<|.nil) (fun a E=>?_)
     obtain ⟨t154,h155,H⟩:=bd H
     refine on1 7 E (.cl en84 (qBD.calls k128 x.f4 _ _ _ _ _ S.own.sub g0_4 h155)) ?_
     rintro _ u153 a ⟨_,rfl,hC⟩ E
     refine ⟨.of hC.agr,?_⟩
     replace S:=S.lent hC
     refine mny 0 hst E (.r 10 2 .nil) (fun a E=>?_)
     refine dn ?_
     replace S:=S.tail
     exact J160 _ (by omega) _ (decide (t154≥x.f2)) _ _ E .of S H
     refine mny 0 hst E (.r 5 7 .nil) (fun a E=>?_)
     refine dn ?_
     replace S:=S.tail
     exact J160 _ (by omega) _ false _ _ E .of S H
    refine pl0 ?_
    have hb4:=S.ba 2
    refine plc E (.r 0 1<|.b 1 0 hb4<|.r 2 2<|.nil) (fun a E=>E.fk 76 H (fun c116 E H=>?_) fun c116 E H=>?_)
    have hb94:=S.ba 0
    refine plc E (.r 4 1<|.b 5 3 hb94<|.r 6 2<|.nil) (fun a E=>E.fk 80 H (fun c117 E H=>?_) fun c117 E H=>?_)
    refine plc E (.r 8 6<|.bn 14 0 7 (S.ba 1)<|.r 15 1<|.b 16 1 hb4<|.nil) (fun a E=>?_)
    obtain ⟨t119,h120,H⟩:=bd H
    refine plq E S en66 (qAv.calls k110 (⟨x68,x69,x70,x71,l74,l78,l82⟩:qD) y.f1 _ _ _ _ _ _ _ _ _ S.own.sub g75 g79 g83 h120) fun u118 S a E=>plc E (.r 18 3 .nil) (fun a E=>pld ?_)
    exact J129 _ (by omega) _ (!t119) _ _ E .of S H
    refine plc E (.r 8 1<|.b 9 5 hb94<|.r 10 4<|.nil) (fun a E=>E.fbn 86 H (fun c121 E H=>?_) fun c121 E H=>?_)
    refine plc E (.r 14 7 .nil) (fun a E=>pld ?_)
    exact J129 _ (by omega) _ false _ _ E .of S H
    refine plc E (.bn 14 0 7 (S.ba 1)<|.r 15 1<|.b 16 1 hb4<|.nil) (fun a E=>?_)
    obtain ⟨t123,h124,H⟩:=bd H
    refine plq E S en66 (qAv.calls k110 (⟨x68,x69,x70,x71,l74,l78,l82⟩:qD) y.f1 _ _ _ _ _ _ _ _ _ S.own.sub g75 g79 g83 h124) fun u122 S a E=>plc E (.r 18 3 .nil) (fun a E=>pld ?_)
    exact J129 _ (by omega) _ (!t123) _ _ E .of S H
    refine plc E (.r 4 17 .nil) (fun a E=>pld ?_)
    exact J129 _ (by omega) _ false _ _ E .of S H
   refine pl0 ?_
   have hb4:=S.ba 2
   refine plc E (.r 0 1<|.b 1 0 hb4<|.r 2 2<|.nil) (fun a E=>E.fk 65 H (fun c106 E H=>?_) fun c106 E H=>?_)
   refine plc E (.r 4 1<|.b 5 3 (S.ba 0)<|.r 6 1<|.b 7 4 hb4<|.r 8 3<|.nil) (fun a E=>pld ?_)
   exact J111 _ (by omega) _ (t92.1.f3 == y.f4) _ _ E .of S H
   refine plc E (.r 4 7 .nil) (fun a E=>pld ?_)
   exact J111 _ (by omega) _ false _ _ E .of S H
   refine rr E fun a E=>(wp_ret (qCR (qCQ ?_)))
   replace S:=S.pm [] 4
   obtain rfl:=si H
   exact rt1 E ⟨_,rfl,_,rfl,S⟩
   refine rr E fun a E=>(wp_ret (qCR (qCQ ?_)))
   replace S:=S.pm [] 4
   obtain rfl:=si H
   exact rt1 E ⟨_,rfl,_,rfl,S⟩
  refine sq fun K30 hK30=>pl0 ?_
  have hb4:=S.ba 1
  refine plc E (.r 0 1<|.b 1 0 hb4<|.r 2 1<|.nil) (fun a E=>pld (hK30 _ _ (E.ik 33 H (fun c31 E H=>?_) fun c31 E H=>?_)))
  refine sq fun K32 hK32=>?_
  refine drawn 10 ⟨[8],[],fun q=>False⟩ mixed rfl (by kernel_rfl) (fun hst=>?_)
  replace S:=S.drew
  have hb2:=S.ba 2
  have hb4:=S.ba 1
  refine mny 8 hst E (.bn 0 0 7 hb2<|.bn 1 0 5 hb4<|.nil) (fun a E=>?_)
  obtain ⟨t33,h34,H⟩:=bd H
  obtain ⟨t42,h43,H⟩:=bd H
  refine meet2 (fun a w'=>∃(G:NV)(b40:Nat)(A52:OA)(c53:Nat)(A46:OA)(c47:Nat)(A49:OA)(c50:Nat)(F60:World),Env 113 G a∧At G [(2,.pointer (pb b2)),(3,.pointer (pb b4)),(5,.pointer (pb b26)),(6,.pointer (pb b40)),(39,.agg #[iv t42.1.f0,iv t42.1.f1,iv t42.1.f2,iv t42.1.f3,.slice A46 t42.1.f4.length c47,.slice A49 t42.1.f5.length c50,.slice A52 t42.1.f6.length c53]),(40,iv t42.2)]∧Sm W F w' F60 [box b40 #[iv 0,iv 0,iv 0,iv 0,.slice none 0 0,.slice none 0 0,.slice none 0 0] 26,box b26 #[iv x.f0,iv x.f1,iv x.f2,iv x.f3,.slice A0_4 x.f4.length c0_4,.slice A0_5 x.f5.length c0_5,.slice A0_6 x.f6.length c0_6] 26,box b4 #[iv y.f0,iv y.f1,iv y.f2,iv y.f3,iv y.f4] 65,box b2 #[iv x.f0,iv x.f1,iv x.f2,iv x.f3,.slice A0_4 x.f4.length c0_4,.slice A0_5 x.f5.length c0_5,.slice A0_6 x.f6.length c0_6] 26,row qC.k 73 (.slice A52 t42.1.f6.length c53) t42.1.f6]∧Rd qA.k F60 A46 c47 t42.1.f4∧Rd qE.k F60 A49 c50 t42.1.f5∧Rd qA.k F60 A0_4 c0_4 x.f4∧Rd qE.k F60 A0_5 c0_5 x.f5∧Rd qC.k F60 A0_6 c0_6 x.f6) 2 255 ?_ (fun hJb=>?_)
  rintro a u61 ⟨G,b40,A52,c53,A46,c47,A49,c50,F60,E,A,S,g48,g51,g0_4,g0_5,g0_6⟩
  obtain ⟨J,E⟩:=E.at A
  refine on1 8 E (.sto S [iv t42.1.f0,iv t42.1.f1,iv t42.1.f2,iv t42.1.f3,.slice A46 t42.1.f4.length c47,.slice A49 t42.1.f5.length c50,.slice A52 t42.1.f6.length c53]) ?_
  rintro _ u62 a ⟨rfl,hb40,S,hz⟩ E
  refine ⟨.d,?_⟩
  refine mny 0 hst E (.r 9 1 .nil) (fun a E=>?_)
  refine dn ?_
  refine hK32 _ _ (sq fun K63 hK63=>rr E fun a E=>(E.ikn 42 H (fun c65 E H=>?_) fun c65 E H=>?_))
  refine wp_skip (hK63 _ _ (pl0 (plc E (.bn 0 0 7 hb40 .nil) (fun a E=>?_))))
  replace S:=S.front 1 rfl
  refine pls E S [iv t42.1.f0,iv t42.1.f1,iv t42.1.f2,iv t42.1.f3,.slice A46 t42.1.f4.length c47,.slice A49 t42.1.f5.length c50,.slice A52 t42.1.f6.length c53] fun u67 hb26 S a E=>pld ?_
  replace S:=S.front 4 rfl
  obtain ⟨F165,hs,g166,S⟩:=S.give
  replace g48:=g48.mono hs
  replace g51:=g51.mono hs
  replace g0_4:=g0_4.mono hs
  replace g0_5:=g0_5.mono hs
  replace g0_6:=g0_6.mono hs
  replace S:=S.pm [0] 2
  exact J88 _ (by omega) _ t42.1.f0 t42.1.f1 t42.1.f2 t42.1.f3 A46 c47 t42.1.f4 A49 c50 t42.1.f5 A52 c53 t42.1.f6 F165 _ _ E .of S g48 g51 g166 g0_4 g0_5 g0_6 H
  refine rr E fun a E=>(wp_ret (qCQ (qCQ ?_)))
  replace S:=S.pm [] 5
  obtain rfl:=si H
  exact rt1 E ⟨_,rfl,_,rfl,S⟩
  refine meet2 (fun a w'=>∃(G:NV)(b40:Nat)(A37:OA)(c38:Nat)(F57:World),Env 113 G a∧At G [(2,.pointer (pb b2)),(3,.pointer (pb b4)),(5,.pointer (pb b26)),(6,.pointer (pb b40)),(35,.agg #[iv x.f0,iv x.f1,iv x.f2,iv x.f3,.slice A0_4 x.f4.length c0_4,.slice A0_5 x.f5.length c0_5,.slice A0_6 x.f6.length c0_6]),(37,.agg #[iv t33.f0,iv t33.f1,iv t33.f2,iv t33.f3,iv t33.f4,iv t33.f5,.slice A37 t33.f6.length c38])]∧Sm W F w' F57 [box b40 #[iv 0,iv 0,iv 0,iv 0,.slice none 0 0,.slice none 0 0,.slice none 0 0] 26,box b26 #[iv x.f0,iv x.f1,iv x.f2,iv x.f3,.slice A0_4 x.f4.length c0_4,.slice A0_5 x.f5.length c0_5,.slice A0_6 x.f6.length c0_6] 26,box b4 #[iv y.f0,iv y.f1,iv y.f2,iv y.f3,iv y.f4] 65,box b2 #[iv x.f0,iv x.f1,iv x.f2,iv x.f3,.slice A0_4 x.f4.length c0_4,.slice A0_5 x.f5.length c0_5,.slice A0_6 x.f6.length c0_6] 26]∧Rd qA.k F57 A0_4 c0_4 x.f4∧Rd qE.k F57 A0_5 c0_5 x.f5∧Rd qC.k F57 A0_6 c0_6 x.f6∧Rd ki F57 A37 c38 t33.f6) 6 135 ?_ (fun hJ=>?_)
  rintro a u58 ⟨G,b40,A37,c38,F57,E,A,S,g0_4,g0_5,g0_6,g39⟩
  obtain ⟨J,E⟩:=E.at A
  refine on1 3 E (.cl en39 (qAs.calls k20 x t33 _ _ _ _ _ _ _ _ _ _ _ S.own.sub g0_4 g0_5 g0_6 g39 h43)) ?_
  rintro _ u44 a ⟨F45,A46,c47,A49,c50,A52,c53,rfl,hC,g48,g51⟩ E
  refine ⟨.of hC.agr,?_⟩
  have hs:=hC.sub
  replace S:=S.called (X:=[]) hC
  replace g0_4:=g0_4.mono hs
  replace g0_5:=g0_5.mono hs
  replace g0_6:=g0_6.mono hs
  replace g39:=g39.mono hs
  refine mny 2 hst E (.r 4 3 .nil) (fun a E=>?_)
  replace S:=S.pm [1,2,3,4,0] 5
  exact hJb _ _ ⟨_,b40,A52,c53,A46,c47,A49,c50,F45,E,.of,S,g48,g51,g0_4,g0_5,g0_6⟩
  refine pk2 2 7 ?_ ?_
  refine pk1 2 E (.cl en57 (qCD.calls y _ _ _ S.own.sub h34)) ?_
  rintro _ u35 a ⟨F36,A37,c38,rfl,hC,g39⟩ E
  refine ⟨.of hC.agr,?_⟩
  have hs:=hC.sub
  replace S:=S.called (X:=[]) hC
  replace g0_4:=g0_4.mono hs
  replace g0_5:=g0_5.mono hs
  replace g0_6:=g0_6.mono hs
  refine pk2 7 3 ?_ ?_
  refine pk1 7 E (.al (t:=26) S [iv 0,iv 0,iv 0,iv 0,.slice none 0 0,.slice none 0 0,.slice none 0 0]) ?_
  rintro _ u41 a ⟨b40,rfl,hb40,S,hg⟩ E
  refine ⟨.of hg,?_⟩
  exact hJ _ _ ⟨_,b40,A37,c38,F36,E,.of,S,g0_4,g0_5,g0_6,g39⟩
  refine pk1 3 E (.cl en39 (qAs.calls k20 x t33 _ _ _ _ _ _ _ _ _ _ _ S.own.sub g0_4 g0_5 g0_6 g39 h43)) ?_
  rintro _ u44 a ⟨F45,A46,c47,A49,c50,A52,c53,rfl,hC,g48,g51⟩ E
  refine ⟨.of hC.agr,?_⟩
  have hs:=hC.sub
  replace S:=S.called (X:=[]) hC
  replace g0_4:=g0_4.mono hs
  replace g0_5:=g0_5.mono hs
  replace g0_6:=g0_6.mono hs
  replace g39:=g39.mono hs
  refine mny 3 hst E (.r 4 3 .nil) (fun a E=>?_)
  refine on1 7 E (.al (t:=26) S [iv 0,iv 0,iv 0,iv 0,.slice none 0 0,.slice none 0 0,.slice none 0 0]) ?_
  rintro _ u41 a ⟨b40,rfl,hb40,S,hg⟩ E
  refine ⟨.of hg,?_⟩
  replace S:=S.pm [0,2,3,4,1] 5
  exact hJb _ _ ⟨_,b40,A52,c53,A46,c47,A49,c50,F45,E,.of,S,g48,g51,g0_4,g0_5,g0_6⟩
  refine pk1 7 E (.al (t:=26) S [iv 0,iv 0,iv 0,iv 0,.slice none 0 0,.slice none 0 0,.slice none 0 0]) ?_
  rintro _ u41 a ⟨b40,rfl,hb40,S,hg⟩ E
  refine ⟨.of hg,?_⟩
  refine on1 2 E (.cl en57 (qCD.calls y _ _ _ S.own.sub h34)) ?_
  rintro _ u35 a ⟨F36,A37,c38,rfl,hC,g39⟩ E
  refine ⟨.of hC.agr,?_⟩
  have hs:=hC.sub
  replace S:=S.called (X:=[]) hC
  replace g0_4:=g0_4.mono hs
  replace g0_5:=g0_5.mono hs
  replace g0_6:=g0_6.mono hs
  exact hJ _ _ ⟨_,b40,A37,c38,F36,E,.of,S,g0_4,g0_5,g0_6,g39⟩
  refine wp_skip ?_
  exact J88 _ (by omega) _ x.f0 x.f1 x.f2 x.f3 A0_4 c0_4 x.f4 A0_5 c0_5 x.f5 A0_6 c0_6 x.f6 F _ _ E .of S g0_4 g0_5 g0_6 g0_4 g0_5 g0_6 H
 refine drawn 19 ⟨[],[],fun q=>False⟩ mixed rfl (by kernel_rfl) (fun hst=>?_)
 replace S:=S.drew
 have hb2:=S.ba 1
 refine mny 18 hst E (.bn 0 0 7 hb2 .nil) (fun a E=>?_)
 obtain ⟨t9,h10,H⟩:=bd H
 refine on1 1 E (.cl en65 (qAC.calls k x _ _ _ _ _ _ _ _ _ S.own.sub g0_4 g0_5 g0_6 h10)) ?_
 rintro _ u8 a ⟨_,rfl,hC⟩ E
 refine ⟨.of hC.agr,?_⟩
 replace S:=S.lent hC
 refine mny 15 hst E (.r 2 2 .nil) (fun a E=>?_)
 refine E.fkn 14 H (fun c11 E H=>?_) fun c11 E H=>?_
 have hb4:=S.ba 0
 refine mny 10 hst E (.r 4 1<|.b 5 0 hb4<|.r 6 3<|.nil) (fun a E=>?_)
 refine E.fk 19 H (fun c12 E H=>?_) fun c12 E H=>?_
 refine mny 0 hst E (.r 9 10 .nil) (fun a E=>?_)
 refine dn ?_
 exact J21 _ (by omega) _ true _ _ E .of S H
 refine mny 5 hst E (.r 9 1<|.b 10 0 hb4<|.r 11 3<|.nil) (fun a E=>?_)
 refine E.fk 24 H (fun c13 E H=>?_) fun c13 E H=>?_
 refine mny 0 hst E (.r 14 5 .nil) (fun a E=>?_)
 refine dn ?_
 exact J21 _ (by omega) _ true _ _ E .of S H
 refine mny 3 hst E (.bn 14 0 5 hb4<|.bn 15 0 5 hb4<|.nil) (fun a E=>?_)
 obtain ⟨t15,h16,H⟩:=bd H
 refine on1 16 E (.cl en82 (qCG.calls y _ _ _ S.own.sub h16)) ?_
 rintro _ u14 a ⟨_,rfl,hC⟩ E
 refine ⟨.of hC.agr,?_⟩
 replace S:=S.lent hC
 refine mny 0 hst E (.y 17 (y_nes (fun w=>eqs65 y t15 w 9998))<|.r 18 1<|.nil) (fun a E=>?_)
 refine dn ?_
 exact J21 _ (by omega) _ (!(decide (y=t15))) _ _ E .of S H
 refine mny 0 hst E (.r 4 15 .nil) (fun a E=>?_)
 refine dn ?_
 exact J21 _ (by omega) _ true _ _ E .of S H
def qAz.l7:Nat→qD→Int→Int→Option (List Int)
 | 0,_,_,_=>none
 | k+1,x,y,x6=>if x6<(x.f5.length:Int) then (if 0≤x6∧x6<(x.f5.length:Int) then (if (nth qE.z x.f5 x6).f0=y then (some ((nth qE.z x.f5 x6).f1)) else (qAz.l7 k x y (w64 (x6+1)))) else (none)) else (some [])
theorem qAz.l7_s k x y x6:type_of% (qAz.l7.eq_2 x y x6 k):=qAz.l7.eq_2 x y x6 k
def qAz.f(k:Nat)(x:qD)(y:Int):Option (List Int):=qAz.l7 k x y 0
def qAz.Post(W F:World)(r:List Int)(v:Value)(w':World):Prop:=∃(F':World)(RA0_0:OA)(rc0_0:Nat),v = .slice RA0_0 r.length rc0_0∧Sm W F w' F' []∧Rd ki F' RA0_0 rc0_0 r
theorem qAz.calls(k:Nat)(x:qD)(y:Int)(A0_4:OA)(c0_4:Nat)(A0_5:OA)(c0_5:Nat)(A0_6:OA)(c0_6:Nat)(r:List Int)(W F:World)(hown:Sub F W)(g0_4:Rd qA.k F A0_4 c0_4 x.f4)(g0_5:Rd qE.k F A0_5 c0_5 x.f5)(g0_6:Rd qC.k F A0_6 c0_6 x.f6)(H:qAz.f k x y=some r):
    Cr 87 #[.agg #[iv x.f0,iv x.f1,iv x.f2,iv x.f3,.slice A0_4 x.f4.length c0_4,.slice A0_5 x.f5.length c0_5,.slice A0_6 x.f6.length c0_6],iv y] W (qAz.Post W F r):=by
 have S:=sT hown
 unfold qAz.f at H
 refine ent 21 rfl rfl rfl (fun a E=>?_)
 refine sq fun K1 hK1=>pl0 (plx (t:=26) E S [iv x.f0,iv x.f1,iv x.f2,iv x.f3,.slice A0_4 x.f4.length c0_4,.slice A0_5 x.f5.length c0_5,.slice A0_6 x.f6.length c0_6] fun b2 u3 hb2 S a E=>plc E (.r 1 1 .nil) (fun a E=>pld (hK1 _ _ (sq fun K4 hK4=>rg E (.r 0 1<|.b 1 5 hb2<|.r 2 2<|.nil) fun a E=>(wp_block ?_)))))
 refine wp_loop_ghost (fun kq8 a w'=>∃(G:NV)(x6:Int),kq8≤k∧Env 21 G a∧At G [(1,iv y),(8,.slice A0_5 x.f5.length c0_5),(9,iv (x.f5.length:Int)),(10,iv x6)]∧Sm W F w' F [box b2 #[iv x.f0,iv x.f1,iv x.f2,iv x.f3,.slice A0_4 x.f4.length c0_4,.slice A0_5 x.f5.length c0_5,.slice A0_6 x.f6.length c0_6] 26]∧qAz.l7 kq8 x y x6=some r) k ⟨_,0,Nat.le_refl _,E,.of,S,H⟩ ?_
 rintro kq8 a u10 ⟨G,x6,hkq,E,A,S,H⟩
 obtain _ | k9:=kq8
 exact zz H
 rw [qAz.l7_s]at H
 obtain ⟨J,E⟩:=E.at A
 refine rr E fun a E=>(sq fun K12 hK12=>E.ik 11 H (fun c13 E H=>?_) fun c13 E H=>?_)
 refine wp_skip (hK12 _ _ (sq fun K14 hK14=>wp_block (sq fun K15 hK15=>pl0 ?_)))
 obtain ⟨c16,H⟩:=gd H
 have hE_:=E
 obtain ⟨ad17,rfl⟩:=g0_5.addr c16.1 c16.2
 replace E:=hE_
 obtain ⟨cs19,⟨A21,c22,rfl,g23⟩,hc20⟩:=g0_5.el qE.z x6 c16.1 c16.2
 refine plc E (.x 0 c16<|.cs 1 (S.fcs hc20)<|.nil) (fun a E=>pla (t:=75) E S [iv 0,.slice none 0 0] fun b24 u25 hb24 S a E=>pls E S [iv ((nth qE.z x.f5 x6).f0),.slice A21 (((nth qE.z x.f5 x6).f1).length) c22] fun u26 hb24 S a E=>pld (hK15 _ _ (rg E (.r 0 1<|.b 1 0 hb24<|.r 2 2<|.nil) fun a E=>(E.ik 17 H (fun c28 E H=>?_) fun c28 E H=>?_))))
 refine rg E (.r 0 1<|.b 1 1 hb24<|.r 2 1<|.nil) fun a E=>(wp_ret (qCR (qCQ (qCQ (qCR (qCQ ?_))))))
 replace S:=S.pm [] 2
 obtain rfl:=si H
 exact rt1 E ⟨_,rfl,_,_,_,rfl,S,g23⟩
 refine wp_skip ?_
 refine qCS ?_
 refine hK14 _ _ (pl0 (plc E (.r 0 2 .nil) (fun a E=>pld ?_)))
 replace S:=S.tail
 exact qCT ⟨k9,by omega,_,(w64 (x6+1)),by omega,E,.of,S,H⟩
 refine wp_exit ?_
 refine hK4 _ _ (rr E fun a E=>(wp_ret ?_))
 replace S:=S.tail
 obtain rfl:=si H
 exact rt1 E ⟨_,rfl,_,_,_,rfl,S,(Rd.nil _ _)⟩
mutual
def qAk.l26:Nat→qD→Int→Int→List Int→List qA→Int→Option (List Int)
 | 0,_,_,_,_,_,_=>none
 | k+1,x,y,z,l19,l22,x24=>if x24<x.f3 then ((qCB.f k x.f4 x24 x.f1).bind fun t37=>((qCB.f k l22 x24 x.f1).bind fun t45=>((qq.f k t37 t45).bind fun t53=>(if t53=true then (if z=0 then ((qAz.f k x x24).bind fun t59=>((qAG.f k t59 y).bind fun t66=>(qAk.j70 k x y z l19 l22 x24 t66))) else (qAk.j70 k x y z l19 l22 x24 false)) else (qAk.j70 k x y z l19 l22 x24 true))))) else (some l19)
def qAk.j70:Nat→qD→Int→Int→List Int→List qA→Int→Bool→Option (List Int)
 | 0,_,_,_,_,_,_,_=>none
 | k+1,x,y,z,l19,l22,x24,y68=>if y68=true then (if ((l19.length:Int)+((1:Nat):Int)) * 8≤140737488355328 then (qAk.l26 k x y z (l19++[x24]) l22 (w64 (x24+1))) else (none)) else (qAk.l26 k x y z l19 l22 (w64 (x24+1)))
end
theorem qAk.l26_s k x y z l19 l22 x24:type_of% (qAk.l26.eq_2 x y z l19 l22 x24 k):=qAk.l26.eq_2 x y z l19 l22 x24 k
theorem qAk.j70_s k x y z l19 l22 x24 y68:type_of% (qAk.j70.eq_2 x y z l19 l22 x24 y68 k):=qAk.j70.eq_2 x y z l19 l22 x24 y68 k
def qAk.f(k:Nat)(x:qD)(y:Int)(z:Int):Option (List Int):=(qAw.f k x.f4 y z).bind fun t7=>(qAk.l26 k x y z [] t7 0)
def qAk.Post(W F:World)(r:List Int)(v:Value)(w':World):Prop:=∃(F':World)(RA0_0:OA)(rc0_0:Nat),v = .slice RA0_0 r.length rc0_0∧Sm W F w' F' [row ki 3 (.slice RA0_0 r.length rc0_0) r]
theorem qAk.calls(k:Nat)(x:qD)(y:Int)(z:Int)(A0_4:OA)(c0_4:Nat)(A0_5:OA)(c0_5:Nat)(A0_6:OA)(c0_6:Nat)(r:List Int)(W F:World)(hown:Sub F W)(g0_4:Rd qA.k F A0_4 c0_4 x.f4)(g0_5:Rd qE.k F A0_5 c0_5 x.f5)(g0_6:Rd qC.k F A0_6 c0_6 x.f6)(H:qAk.f k x y z=some r):
    Cr 86 #[.agg #[iv x.f0,iv x.f1,iv x.f2,iv x.f3,.slice A0_4 x.f4.length c0_4,.slice A0_5 x.f5.length c0_5,.slice A0_6 x.f6.length c0_6],iv y,iv z] W (qAk.Post W F r):=by
 have S:=sT hown
 unfold qAk.f at H
 refine ent 52 rfl rfl rfl (fun a E=>?_)
 refine sq fun K1 hK1=>pl0 (plx (t:=26) E S [iv x.f0,iv x.f1,iv x.f2,iv x.f3,.slice A0_4 x.f4.length c0_4,.slice A0_5 x.f5.length c0_5,.slice A0_6 x.f6.length c0_6] fun b2 u3 hb2 S a E=>plc E (.r 1 1 .nil) (fun a E=>pld (hK1 _ _ (rr E fun a E=>(sq fun K5 hK5=>pl0 (plc E (.r 0 1<|.b 1 4 hb2<|.r 2 2<|.nil) (fun a E=>?_)))))))
 obtain ⟨t7,h8,H⟩:=bd H
 refine ple E (.cl en85 (qAw.calls k x.f4 y z _ _ _ _ _ S.own.sub g0_4 h8)) ?_
 rintro _ u6 a ⟨F9,A10,c11,rfl,hC⟩ E
 have hs:=hC.sub
 replace S:=S.called (X:=[]) hC
 replace g0_4:=g0_4.mono hs
 replace g0_5:=g0_5.mono hs
 replace g0_6:=g0_6.mono hs
 refine plc E (.r 5 1 .nil) (fun a E=>pld (hK5 _ _ (sq fun K14 hK14=>sq fun K15 hK15=>pl0 ?_)))
 have hb2:=S.ba 1
 refine plc E (.r 0 1<|.b 1 3 hb2<|.r 2 1<|.nil) (fun a E=>pld (hK15 _ _ (wp_block ?_)))
 obtain ⟨F84,hs,g85,S⟩:=S.give
 replace g0_4:=g0_4.mono hs
 replace g0_5:=g0_5.mono hs
 replace g0_6:=g0_6.mono hs
 replace S:=S.nilrow ki 3
 replace S:=S.front 1 rfl
 refine wp_loop_ghost (fun kq27 a w'=>∃(G:NV)(A17:OA)(c18:Nat)(l19:List Int)(A20:OA)(c21:Nat)(l22:List qA)(x24:Int)(F25:World),kq27≤k∧Env 52 G a∧At G [(1,iv y),(2,iv z),(3,.pointer (pb b2)),(7,.slice A17 l19.length c18),(8,.slice A20 l22.length c21),(17,iv x.f3),(18,iv x24)]∧Sm W F w' F25 [box b2 #[iv x.f0,iv x.f1,iv x.f2,iv x.f3,.slice A0_4 x.f4.length c0_4,.slice A0_5 x.f5.length c0_5,.slice A0_6 x.f6.length c0_6] 26,row ki 3 (.slice A17 l19.length c18) l19]∧Rd qA.k F25 A20 c21 l22∧Rd qA.k F25 A0_4 c0_4 x.f4∧Rd qE.k F25 A0_5 c0_5 x.f5∧Rd qC.k F25 A0_6 c0_6 x.f6∧qAk.l26 kq27 x y z l19 l22 x24=some r) k ⟨_,none,0,[],A10,c11,t7,0,F84,Nat.le_refl _,E,.of,S,g85,g0_4,g0_5,g0_6,H⟩ ?_
 rintro kq27 a u29 ⟨G,A17,c18,l19,A20,c21,l22,x24,F25,hkq,E,A,S,g23,g0_4,g0_5,g0_6,H⟩
 obtain _ | k28:=kq27
 exact zz H
 rw [qAk.l26_s]at H
 obtain ⟨J,E⟩:=E.at A
 refine rr E fun a E=>(sq fun K31 hK31=>E.ik 19 H (fun c32 E H=>?_) fun c32 E H=>?_)
 refine wp_skip (hK31 _ _ (sq fun K33 hK33=>wp_block (rr E fun a E=>(sq fun K35 hK35=>?_))))
 refine drawn 14 ⟨[],[],fun q=>False⟩ mixed rfl (by kernel_rfl) (fun hst=>?_)
 replace S:=S.drew
 have hb2:=S.ba 0
 refine mny 5 hst E (.r 0 1<|.b 1 4 hb2<|.r 2 2<|.b 4 1 hb2<|.r 6 3<|.b 9 1 hb2<|.nil) (fun a E=>?_)
 obtain ⟨t37,h38,H⟩:=bd H
 refine on1 5 E (.cl en114 (qCB.calls k28 x.f4 x24 x.f1 _ _ _ _ _ S.own.sub g0_4 h38)) ?_
 rintro _ u36 a ⟨F39,A40,c41,rfl,hC⟩ E
 refine ⟨.of hC.agr,?_⟩
 have hs:=hC.sub
 replace S:=S.called (X:=[]) hC
 replace g23:=g23.mono hs
 replace g0_4:=g0_4.mono hs
 replace g0_5:=g0_5.mono hs
 replace g0_6:=g0_6.mono hs
 obtain ⟨t45,h46,H⟩:=bd H
 refine on1 10 E (.cl en114 (qCB.calls k28 l22 x24 x.f1 _ _ _ _ _ S.own.sub g23 h46)) ?_
 rintro _ u44 a ⟨F47,A48,c49,rfl,hC⟩ E
 refine ⟨.of hC.agr,?_⟩
 have hs:=hC.sub
 replace S:=S.called (X:=[]) hC
 replace g23:=g23.mono hs
 replace g0_4:=g0_4.mono hs
 replace g0_5:=g0_5.mono hs
 replace g0_6:=g0_6.mono hs
 obtain ⟨t53,h54,H⟩:=bd H
 refine on1 11 E (.cl en63 (qq.calls k28 t37 t45 _ _ _ _ _ _ _ (Sub.refl _) (S.rd_at (i:=1) rfl) (S.rd_at (i:=0) rfl) h54)) ?_
 rintro _ u52 a ⟨_,rfl,hC⟩ E
 refine ⟨.of hC.agr,?_⟩
 replace S:=S.lent hC
 refine mny 0 hst E (.r 12 2 .nil) (fun a E=>?_)
 refine dn ?_
 refine hK35 _ _ (sq fun K55 hK55=>?_)
 have J73:∀ kq71,kq71≤k28→∀(G:NV)(y68:Bool)(F69:World)(a:Act)(w':World),Env 52 G a→At G [(1,iv y),(2,iv z),(3,.pointer (pb b2)),(7,.slice A17 l19.length c18),(8,.slice A20 l22.length c21),(9,iv x24),(17,iv x.f3),(18,iv x24),(45,.bool y68)]→Sm W F w' F69 [box b2 #[iv x.f0,iv x.f1,iv x.f2,iv x.f3,.slice A0_4 x.f4.length c0_4,.slice A0_5 x.f5.length c0_5,.slice A0_6 x.f6.length c0_6] 26,row ki 3 (.slice A17 l19.length c18) l19]→Rd qA.k F69 A20 c21 l22→Rd qA.k F69 A0_4 c0_4 x.f4→Rd qE.k F69 A0_5 c0_5 x.f5→Rd qC.k F69 A0_6 c0_6 x.f6→qAk.j70 kq71 x y z l19 l22 x24 y68=some r→K55 a w':=by
  intro kq71 hkq G y68 F69 a u74 E A S g23 g0_4 g0_5 g0_6 H
  obtain _ | k72:=kq71
  exact zz H
  rw [qAk.j70_s]at H
  obtain ⟨J,E⟩:=E.at A
  refine hK55 _ _ (E.ib 45 H (fun c75 E H=>?_) fun c75 E H=>?_)
  refine pl0 (plc E (.r 0 2 .nil) (fun a E=>ple E (.lit (d:=ki) (e:=3) S [x24] (.cons rfl .nil)) ?_))
  rintro _ u76 a ⟨A77,c78,rfl,S,hg⟩ E
  obtain ⟨c80,H⟩:=gd H
  replace S:=S.front 2 rfl
  refine ple E (.ap (d:=ki) 8 S (qCX (S.row_at (i:=1) rfl)) c80 c78) ?_
  rintro _ u83 a ⟨A81,c82,rfl,S,hz⟩ E
  refine plc E (.r 4 1 .nil) (fun a E=>pld ?_)
  refine qCS ?_
  refine hK33 _ _ (pl0 (plc E (.r 0 2 .nil) (fun a E=>pld ?_)))
  replace S:=S.pm [2,0] 3
  exact qCT ⟨k72,by omega,_,A81,c82,(l19++[x24]),A20,c21,l22,(w64 (x24+1)),F69,by omega,E,.of,S,g23,g0_4,g0_5,g0_6,H⟩
  refine wp_skip ?_
  refine qCS ?_
  refine hK33 _ _ (pl0 (plc E (.r 0 2 .nil) (fun a E=>pld ?_)))
  exact qCT ⟨k72,by omega,_,A17,c18,l19,A20,c21,l22,(w64 (x24+1)),F69,by omega,E,.of,S,g23,g0_4,g0_5,g0_6,H⟩
 refine pl0 (plc E (.r 0 2 .nil) (fun a E=>E.fbn 35 H (fun c56 E H=>?_) fun c56 E H=>?_))
 refine plc E (.r 2 3 .nil) (fun a E=>E.fk 38 H (fun c57 E H=>?_) fun c57 E H=>?_)
 refine plc E (.bn 5 0 7 (S.ba 2)<|.r 6 1<|.nil) (fun a E=>?_)
 obtain ⟨t59,h60,H⟩:=bd H
 refine ple E (.cl en87 (qAz.calls k28 x x24 _ _ _ _ _ _ _ _ _ S.own.sub g0_4 g0_5 g0_6 h60)) ?_
 rintro _ u58 a ⟨F61,A62,c63,rfl,hC,g64⟩ E
 have hs:=hC.sub
 replace S:=S.called (X:=[]) hC
 replace g23:=g23.mono hs
 replace g0_4:=g0_4.mono hs
 replace g0_5:=g0_5.mono hs
 replace g0_6:=g0_6.mono hs
 refine plc E (.r 8 1 .nil) (fun a E=>?_)
 obtain ⟨t66,h67,H⟩:=bd H
 refine plq E S en75 (qAG.calls k28 t59 y _ _ _ _ _ S.own.sub g64 h67) fun u65 S a E=>plc E (.r 10 2 .nil) (fun a E=>pld ?_)
 replace S:=S.pm [] 2
 exact J73 _ (by omega) _ t66 F61 _ _ E .of S g23 g0_4 g0_5 g0_6 H
 refine plc E (.r 5 7 .nil) (fun a E=>pld ?_)
 replace S:=S.pm [] 2
 exact J73 _ (by omega) _ false F47 _ _ E .of S g23 g0_4 g0_5 g0_6 H
 refine plc E (.r 2 10 .nil) (fun a E=>pld ?_)
 replace S:=S.pm [] 2
 exact J73 _ (by omega) _ true F47 _ _ E .of S g23 g0_4 g0_5 g0_6 H
 refine wp_exit ?_
 refine hK14 _ _ (rr E fun a E=>(wp_ret ?_))
 replace S:=S.tail
 obtain rfl:=si H
 exact rt1 E ⟨_,rfl,_,_,_,rfl,S⟩
mutual
def qAV.l25:Nat→qD→Int→Int→List Int→List qF→List qF→Int→Option (List qF)
 | 0,_,_,_,_,_,_,_=>none
 | k+1,x,y,z,t8,l19,l22,x23=>if x23<(t8.length:Int) then (if 0≤x23∧x23<(t8.length:Int) then ((qBZ.f k x (nth 0 t8 x23)).bind fun t42=>(if (t42.length:Int)=0 then (qAV.l25 k x y z t8 l19 l22 (w64 (x23+1))) else ((qAz.f k x (nth 0 t8 x23)).bind fun t55=>(if (t55.length:Int)=0 then (if ((l19.length:Int)+((1:Nat):Int)) * 72≤140737488355328 then (qAV.j77 k x y z t8 l22 x23 (l19++[(⟨8,0,0,0,0,(nth 0 t8 x23),t42⟩:qF)])) else (none)) else (qAV.j77 k x y z t8 l22 x23 l19))))) else (none)) else ((qBF.f k x.f4 y).bind fun t95=>(if t95.1.f3=z then (qAV.j114 k l22 l19) else (if ((l19.length:Int)+((1:Nat):Int)) * 72≤140737488355328 then (qAV.j114 k l22 (l19++[(⟨2,y,0,0,z,0,[]⟩:qF)])) else (none))))
def qAV.j77:Nat→qD→Int→Int→List Int→List qF→Int→List qF→Option (List qF)
 | 0,_,_,_,_,_,_,_=>none
 | k+1,x,y,z,t8,l22,x23,l75=>if ((l22.length:Int)+((1:Nat):Int)) * 72≤140737488355328 then (qAV.l25 k x y z t8 l75 (l22++[(⟨8,0,0,0,0,(nth 0 t8 x23),[]⟩:qF)]) (w64 (x23+1))) else (none)
def qAV.j114:Nat→List qF→List qF→Option (List qF)
 | 0,_,_=>none
 | k+1,l22,l113=>if ((l113.length:Int)+(l22.length:Int)) * 72≤140737488355328 then (some (l113++l22)) else (none)
end
theorem qAV.l25_s k x y z t8 l19 l22 x23:type_of% (qAV.l25.eq_2 x y z t8 l19 l22 x23 k):=qAV.l25.eq_2 x y z t8 l19 l22 x23 k
theorem qAV.j77_s(k:Nat)(x:qD)(y:Int)(z:Int)(t8:List Int)(l22:List qF)(x23:Int)(l75:List qF):qAV.j77 (k+1) x y z t8 l22 x23 l75=(if ((l22.length:Int)+((1:Nat):Int)) * 72≤140737488355328 then (qAV.l25 k x y z t8 l75 (l22++[(⟨8,0,0,0,0,(nth 0 t8 x23),[]⟩:qF)]) (w64 (x23+1))) else (none)):=by kernel_rfl
theorem qAV.j114_s k l22 l113:type_of% (qAV.j114.eq_2 l22 l113 k):=qAV.j114.eq_2 l22 l113 k
def qAV.f(k:Nat)(x:qD)(y:Int)(z:Int):Option (List qF):=(qAk.f k x y z).bind fun t8=>(qAV.l25 k x y z t8 [] [] 0)
def qAV.Post(W F:World)(r:List qF)(v:Value)(w':World):Prop:=∃(F':World)(RA0_0:OA)(rc0_0:Nat),v = .slice RA0_0 r.length rc0_0∧Sm W F w' F' [row qF.k 29 (.slice RA0_0 r.length rc0_0) r]
theorem qAV.calls(k:Nat)(x:qD)(y:Int)(z:Int)(A0_4:OA)(c0_4:Nat)(A0_5:OA)(c0_5:Nat)(A0_6:OA)(c0_6:Nat)(r:List qF)(W F:World)(hown:Sub F W)(g0_4:Rd qA.k F A0_4 c0_4 x.f4)(g0_5:Rd qE.k F A0_5 c0_5 x.f5)(g0_6:Rd qC.k F A0_6 c0_6 x.f6)(H:qAV.f k x y z=some r):
    Cr 58 #[.agg #[iv x.f0,iv x.f1,iv x.f2,iv x.f3,.slice A0_4 x.f4.length c0_4,.slice A0_5 x.f5.length c0_5,.slice A0_6 x.f6.length c0_6],iv y,iv z] W (qAV.Post W F r):=by
 have S:=sT hown
 unfold qAV.f at H
 refine ent 66 rfl rfl rfl (fun a E=>?_)
 refine sq fun K1 hK1=>pl0 (plx (t:=26) E S [iv x.f0,iv x.f1,iv x.f2,iv x.f3,.slice A0_4 x.f4.length c0_4,.slice A0_5 x.f5.length c0_5,.slice A0_6 x.f6.length c0_6] fun b2 u3 hb2 S a E=>plc E (.r 1 1 .nil) (fun a E=>pld (hK1 _ _ (rr E fun a E=>(sq fun K5 hK5=>sq fun K6 hK6=>pl0 (plc E (.bn 0 0 7 hb2<|.r 1 2<|.nil) (fun a E=>?_)))))))
 obtain ⟨t8,h9,H⟩:=bd H
 refine ple E (.cl en86 (qAk.calls k x y z _ _ _ _ _ _ _ _ _ S.own.sub g0_4 g0_5 g0_6 h9)) ?_
 rintro _ u7 a ⟨F10,A11,c12,rfl,hC⟩ E
 have hs:=hC.sub
 replace S:=S.called (X:=[]) hC
 replace g0_4:=g0_4.mono hs
 replace g0_5:=g0_5.mono hs
 replace g0_6:=g0_6.mono hs
 refine plc E (.r 4 2 .nil) (fun a E=>pld (hK6 _ _ (wp_block ?_)))
 replace S:=S.nilrow qF.k 29
 replace S:=S.nilrow qF.k 29
 replace S:=S.pm [3,2,1,0] 4
 refine wp_loop_ghost (fun kq26 a w'=>∃(G:NV)(A17:OA)(c18:Nat)(l19:List qF)(A20:OA)(c21:Nat)(l22:List qF)(x23:Int)(F24:World),kq26≤k∧Env 66 G a∧At G [(1,iv y),(2,iv z),(3,.pointer (pb b2)),(7,.slice A17 l19.length c18),(8,.slice A20 l22.length c21),(17,.slice A11 t8.length c12),(18,iv (t8.length:Int)),(19,iv x23)]∧Sm W F w' F24 [box b2 #[iv x.f0,iv x.f1,iv x.f2,iv x.f3,.slice A0_4 x.f4.length c0_4,.slice A0_5 x.f5.length c0_5,.slice A0_6 x.f6.length c0_6] 26,row ki 3 (.slice A11 t8.length c12) t8,row qF.k 29 (.slice A17 l19.length c18) l19,row qF.k 29 (.slice A20 l22.length c21) l22]∧Rd qA.k F24 A0_4 c0_4 x.f4∧Rd qE.k F24 A0_5 c0_5 x.f5∧Rd qC.k F24 A0_6 c0_6 x.f6∧qAV.l25 kq26 x y z t8 l19 l22 x23=some r) k ⟨_,none,0,[],none,0,[],0,F10,Nat.le_refl _,E,.of,S,g0_4,g0_5,g0_6,H⟩ ?_
 rintro kq26 a u28 ⟨G,A17,c18,l19,A20,c21,l22,x23,F24,hkq,E,A,S,g0_4,g0_5,g0_6,H⟩
 obtain _ | k27:=kq26
 exact zz H
 rw [qAV.l25_s]at H
 obtain ⟨J,E⟩:=E.at A
 refine rr E fun a E=>(sq fun K30 hK30=>E.ik 20 H (fun c31 E H=>?_) fun c31 E H=>?_)
 refine wp_skip (hK30 _ _ (sq fun K32 hK32=>wp_block (sq fun K33 hK33=>pl0 ?_)))
 obtain ⟨c34,H⟩:=gd H
 have hr35:=S.ra 1
 have hE_:=E
 obtain ⟨b36,rfl⟩:=qCW hr35 c34.1 c34.2
 replace E:=hE_
 have hr_:=S.ra 1
 obtain ⟨cs38,rfl,hc39⟩:=qCV hr_ 0 x23 c34.1 c34.2
 refine plc E (.x 0 c34<|.c 1 (hc39 0 _ rfl)<|.r 2 1<|.nil) (fun a E=>pld (hK33 _ _ (sq fun K40 hK40=>pl0 (plc E (.bn 0 0 7 (S.ba 0)<|.r 1 1<|.nil) (fun a E=>?_)))))
 obtain ⟨t42,h43,H⟩:=bd H
 refine ple E (.cl en64 (qBZ.calls k27 x (nth 0 t8 x23) _ _ _ _ _ _ _ _ _ S.own.sub g0_4 g0_5 g0_6 h43)) ?_
 rintro _ u41 a ⟨F44,A45,c46,rfl,hC⟩ E
 have hs:=hC.sub
 replace S:=S.called (X:=[]) hC
 replace g0_4:=g0_4.mono hs
 replace g0_5:=g0_5.mono hs
 replace g0_6:=g0_6.mono hs
 refine plc E (.r 3 1 .nil) (fun a E=>pld (hK40 _ _ (sq fun K49 hK49=>rr E fun a E=>(E.ik 28 H (fun c51 E H=>?_) fun c51 E H=>?_))))
 refine wp_exit ?_
 refine hK32 _ _ (pl0 (plc E (.r 0 2 .nil) (fun a E=>pld ?_)))
 replace S:=S.tail
 exact qCT ⟨k27,by omega,_,A17,c18,l19,A20,c21,l22,(w64 (x23+1)),F44,by omega,E,.of,S,g0_4,g0_5,g0_6,H⟩
 refine wp_skip (hK49 _ _ (sq fun K52 hK52=>?_))
 have J80:∀ kq78,kq78≤k27→∀(G:NV)(A73:OA)(c74:Nat)(l75:List qF)(F76:World)(a:Act)(w':World),Env 66 G a→At G [(1,iv y),(2,iv z),(3,.pointer (pb b2)),(7,.slice A73 l75.length c74),(8,.slice A20 l22.length c21),(10,iv (nth 0 t8 x23)),(17,.slice (pb b36) t8.length c12),(18,iv (t8.length:Int)),(19,iv x23)]→Sm W F w' F76 [box b2 #[iv x.f0,iv x.f1,iv x.f2,iv x.f3,.slice A0_4 x.f4.length c0_4,.slice A0_5 x.f5.length c0_5,.slice A0_6 x.f6.length c0_6] 26,row ki 3 (.slice (pb b36) t8.length c12) t8,row qF.k 29 (.slice A20 l22.length c21) l22,row qF.k 29 (.slice A73 l75.length c74) l75]→Rd qA.k F76 A0_4 c0_4 x.f4→Rd qE.k F76 A0_5 c0_5 x.f5→Rd qC.k F76 A0_6 c0_6 x.f6→qAV.j77 kq78 x y z t8 l22 x23 l75=some r→K52 a w':=by
  intro kq78 hkq G A73 c74 l75 F76 a u81 E A S g0_4 g0_5 g0_6 H
  obtain _ | k79:=kq78
  exact zz H
  rw [qAV.j77_s]at H
  obtain ⟨J,E⟩:=E.at A
  refine hK52 _ _ (pl0 (plc E (.r 0 3 .nil) (fun a E=>ple E (.lit (d:=qF.k) (e:=29) S [(⟨8,0,0,0,0,(nth 0 t8 x23),[]⟩:qF)] (.cons ⟨none,0,rfl,Rd.nil _ _⟩ .nil)) ?_)))
  rintro _ u82 a ⟨A83,c84,rfl,S,hg⟩ E
  obtain ⟨c86,H⟩:=gd H
  replace S:=S.front 3 rfl
  refine ple E (.ap (d:=qF.k) 72 S (qCX (S.row_at (i:=1) rfl)) c86 c84) ?_
  rintro _ u89 a ⟨A87,c88,rfl,S,hz⟩ E
  refine plc E (.r 5 1 .nil) (fun a E=>pld ?_)
  refine qCS ?_
  refine hK32 _ _ (pl0 (plc E (.r 0 2 .nil) (fun a E=>pld ?_)))
  replace S:=S.pm [2,3,4,0] 5
  exact qCT ⟨k79,by omega,_,A73,c74,l75,A87,c88,(l22++[(⟨8,0,0,0,0,(nth 0 t8 x23),[]⟩:qF)]),(w64 (x23+1)),F76,by omega,E,.of,S,g0_4,g0_5,g0_6,H⟩
 refine sq fun K53 hK53=>pl0 (plc E (.bn 0 0 7 (S.ba 1)<|.r 1 1<|.nil) (fun a E=>?_))
 obtain ⟨t55,h56,H⟩:=bd H
 refine ple E (.cl en87 (qAz.calls k27 x (nth 0 t8 x23) _ _ _ _ _ _ _ _ _ S.own.sub g0_4 g0_5 g0_6 h56)) ?_
 rintro _ u54 a ⟨F57,A58,c59,rfl,hC,g60⟩ E
 have hs:=hC.sub
 replace S:=S.called (X:=[]) hC
 replace g0_4:=g0_4.mono hs
 replace g0_5:=g0_5.mono hs
 replace g0_6:=g0_6.mono hs
 refine plc E (.r 3 2 .nil) (fun a E=>pld (hK53 _ _ (E.ik 33 H (fun c61 E H=>?_) fun c61 E H=>?_)))
 refine pl0 (plc E (.r 0 4 .nil) (fun a E=>?_))
 obtain ⟨F65,hs,g66,S⟩:=S.give
 replace g0_4:=g0_4.mono hs
 replace g0_5:=g0_5.mono hs
 replace g0_6:=g0_6.mono hs
 replace g60:=g60.mono hs
 refine ple E (.lit (d:=qF.k) (e:=29) S [(⟨8,0,0,0,0,(nth 0 t8 x23),t42⟩:qF)] (.cons ⟨_,_,rfl,g66⟩ .nil)) ?_
 rintro _ u62 a ⟨A63,c64,rfl,S,hg⟩ E
 obtain ⟨c68,H⟩:=gd H
 replace S:=S.front 3 rfl
 refine ple E (.ap (d:=qF.k) 72 S (qCX (S.row_at (i:=1) rfl)) c68 c64) ?_
 rintro _ u71 a ⟨A69,c70,rfl,S,hz⟩ E
 refine plc E (.r 6 1 .nil) (fun a E=>pld ?_)
 replace S:=S.pm [2,3,4,0] 5
 exact J80 _ (by omega) _ A69 c70 (l19++[(⟨8,0,0,0,0,(nth 0 t8 x23),t42⟩:qF)]) F65 _ _ E .of S g0_4 g0_5 g0_6 H
 refine wp_skip ?_
 replace S:=S.pm [1,2,4,3] 5
 exact J80 _ (by omega) _ A17 c18 l19 F57 _ _ E .of S g0_4 g0_5 g0_6 H
 refine wp_exit ?_
 refine hK5 _ _ (sq fun K92 hK92=>?_)
 have J117:∀ kq115,kq115≤k27→∀(G:NV)(A111:OA)(c112:Nat)(l113:List qF)(a:Act)(w':World),Env 66 G a→At G [(7,.slice A111 l113.length c112),(8,.slice A20 l22.length c21)]→Sm W F w' F24 [box b2 #[iv x.f0,iv x.f1,iv x.f2,iv x.f3,.slice A0_4 x.f4.length c0_4,.slice A0_5 x.f5.length c0_5,.slice A0_6 x.f6.length c0_6] 26,row qF.k 29 (.slice A20 l22.length c21) l22,row qF.k 29 (.slice A111 l113.length c112) l113]→qAV.j114 kq115 l22 l113=some r→K92 a w':=by
  intro kq115 hkq G A111 c112 l113 a u118 E A S H
  obtain _ | k116:=kq115
  exact zz H
  rw [qAV.j114_s]at H
  obtain ⟨J,E⟩:=E.at A
  refine hK92 _ _ (sq fun K119 hK119=>pl0 (plc E (.r 0 2 .nil) (fun a E=>?_)))
  obtain ⟨c120,H⟩:=gd H
  replace S:=S.front 2 rfl
  refine ple E (.ap (d:=qF.k) 72 S (qCX (S.row_at (i:=2) rfl)) c120 c21) ?_
  rintro _ u123 a ⟨A121,c122,rfl,S,hz⟩ E
  refine plc E (.r 3 1 .nil) (fun a E=>pld (hK119 _ _ (wp_ret ?_)))
  replace S:=S.pm [0] 3
  obtain rfl:=si H
  exact rt1 E ⟨_,rfl,_,_,_,rfl,S⟩
 refine sq fun K93 hK93=>pl0 (plc E (.r 0 1<|.b 1 4 (S.ba 0)<|.r 2 1<|.nil) (fun a E=>?_))
 obtain ⟨t95,h96,H⟩:=bd H
 refine plq E S en59 (qBF.calls k27 x.f4 y _ _ _ _ _ S.own.sub g0_4 h96) fun u94 S a E=>plc E (.r 4 3 .nil) (fun a E=>pla (t:=68) E S [iv 0,iv 0,iv 0,iv 0,.bool false,.bool false] fun b97 u98 hb97 S a E=>pls E S [iv t95.1.f0,iv t95.1.f1,iv t95.1.f2,iv t95.1.f3,.bool t95.1.f4,.bool t95.1.f5] fun u99 hb97 S a E=>plc E (.r 9 1 .nil) (fun a E=>pld (hK93 _ _ (rg E (.r 0 1<|.b 1 3 hb97<|.r 2 2<|.nil) fun a E=>(E.ikn 56 H (fun c101 E H=>?_) fun c101 E H=>?_)))))
 refine wp_skip ?_
 replace S:=S.pm [1,4,3] 5
 exact J117 _ (by omega) _ A17 c18 l19 _ _ E .of S H
 refine pl0 (plc E (.r 0 4 .nil) (fun a E=>ple E (.lit (d:=qF.k) (e:=29) S [(⟨2,y,0,0,z,0,[]⟩:qF)] (.cons ⟨none,0,rfl,Rd.nil _ _⟩ .nil)) ?_))
 rintro _ u102 a ⟨A103,c104,rfl,S,hg⟩ E
 obtain ⟨c106,H⟩:=gd H
 replace S:=S.front 4 rfl
 refine ple E (.ap (d:=qF.k) 72 S (qCX (S.row_at (i:=1) rfl)) c106 c104) ?_
 rintro _ u109 a ⟨A107,c108,rfl,S,hz⟩ E
 refine plc E (.r 6 1 .nil) (fun a E=>pld ?_)
 replace S:=S.pm [3,5,0] 6
 exact J117 _ (by omega) _ A107 c108 (l19++[(⟨2,y,0,0,z,0,[]⟩:qF)]) _ _ E .of S H
end Go.Proofs.YthgfhlbjkmjlpaaGreat.PG
