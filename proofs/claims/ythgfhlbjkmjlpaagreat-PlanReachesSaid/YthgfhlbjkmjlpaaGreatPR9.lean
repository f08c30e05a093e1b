import Derived.Test.YthgfhlbjkmjlpaaGreatPR8
namespace Go.Proofs.YthgfhlbjkmjlpaaGreat.PR
open Go Go.RowKit Go.Proofs.YthgfhlbjkmjlpaaGreat.Sl
set_option linter.unusedVariables false
set_option linter.unusedSimpArgs false
set_option maxHeartbeats 4000000
set_option maxRecDepth 100000
def qBT.j112:Nat→qAE→List qF→Option ((List qF) × Int)
 | 0,_,_=>none
 | k+1,y,l111=>if ((l111.length:Int)+((1:Nat):Int)) * 72≤140737488355328 then (some ((l111++[(⟨7,y.f1,0,0,0,0,[]⟩:qF)]),0)) else (none)
theorem qBT.j112_s(k:Nat)(y:qAE)(l111:List qF):qBT.j112 (k+1) y l111=(if ((l111.length:Int)+((1:Nat):Int)) * 72≤140737488355328 then (some ((l111++[(⟨7,y.f1,0,0,0,0,[]⟩:qF)]),0)) else (none)):=by kernel_rfl
def qBT.f(k:Nat)(x:qE)(y:qAE):Option ((List qF) × Int):=(qAA.f k x y).bind fun t9=>(if t9=0 then (if y.f0=3 then ((qCD.f y).bind fun t20=>((qAr.f k x t20).bind fun t29=>((qCD.f y).bind fun t52=>((qAX.f k t29.1 y.f1 y.f4).bind fun t58=>(if (([t52].length:Int)+(t58.length:Int)) * 72≤140737488355328 then (some (([t52]++t58),0)) else (none)))))) else (if y.f0=4 then ((qAX.f k x y.f1 0).bind fun t83=>((qBG.f k x.f4 y.f1).bind fun t93=>(if t93.1.f5=true then (if ((t83.length:Int)+((1:Nat):Int)) * 72≤140737488355328 then (qBT.j112 k y (t83++[(⟨5,y.f1,0,0,0,0,[]⟩:qF)])) else (none)) else (qBT.j112 k y t83)))) else ((qBC.f k y).bind fun t128=>((qAX.f k x y.f1 t128).bind fun t131=>(some (t131,0)))))) else (some ([],t9)))
def qBT.Post(W F:World)(r:(List qF) × Int)(v:Value)(w':World):Prop:=∃(F':World)(RA0_0:OA)(rc0_0:Nat),v = .tuple #[.slice RA0_0 r.1.length rc0_0,iv r.2]∧Sm W F w' F' [row qF.k 29 (.slice RA0_0 r.1.length rc0_0) r.1]
theorem qBT.calls(k:Nat)(x:qE)(y:qAE)(A0_4:OA)(c0_4:Nat)(A0_5:OA)(c0_5:Nat)(A0_6:OA)(c0_6:Nat)(r:(List qF) × Int)(W F:World)(hown:Sub F W)(g0_4:Rd qA.k F A0_4 c0_4 x.f4)(g0_5:Rd qD.k F A0_5 c0_5 x.f5)(g0_6:Rd qC.k F A0_6 c0_6 x.f6)(H:qBT.f k x y=some r):
    Cr 32 #[.agg #[iv x.f0,iv x.f1,iv x.f2,iv x.f3,.slice A0_4 x.f4.length c0_4,.slice A0_5 x.f5.length c0_5,.slice A0_6 x.f6.length c0_6],.agg #[iv y.f0,iv y.f1,iv y.f2,iv y.f3,iv y.f4]] W (qBT.Post W F r):=by
 have S:=sT hown
 unfold qBT.f at H
 refine ent 73 rfl rfl rfl (fun a E=>?_)
 refine sq fun K1 hK1=>pl0 (plx (t:=26) E S [iv x.f0,iv x.f1,iv x.f2,iv x.f3,.slice A0_4 x.f4.length c0_4,.slice A0_5 x.f5.length c0_5,.slice A0_6 x.f6.length c0_6] fun b2 u3 hb2 S a E=>plx (t:=65) E S [iv y.f0,iv y.f1,iv y.f2,iv y.f3,iv y.f4] fun b4 u5 hb4 S a E=>plc E (.r 2 2 .nil) (fun a E=>pld (hK1 _ _ (sq fun K6 hK6=>sq fun K7 hK7=>pl0 ?_))))
 have hb2:=S.ba 1
 refine plc E (.bn 0 0 7 hb2<|.bn 1 0 5 hb4<|.nil) (fun a E=>?_)
 obtain ⟨t9,h10,H⟩:=bd H
 refine plq E S en56 (qAA.calls k x y _ _ _ _ _ _ _ _ _ S.own.sub g0_4 g0_5 g0_6 h10) fun u8 S a E=>plc E (.r 3 1 .nil) (fun a E=>pld (hK7 _ _ (rr E fun a E=>(E.ikn 16 H (fun c12 E H=>?_) fun c12 E H=>?_))))
 refine wp_skip (hK6 _ _ (sq fun K15 hK15=>sq fun K16 hK16=>pl0 ?_))
 have hb4:=S.ba 0
 refine plc E (.r 0 1<|.b 1 0 hb4<|.nil) (fun a E=>pld (hK16 _ _ (wp_block (rr E fun a E=>(E.ik 20 H (fun c18 E H=>?_) fun c18 E H=>?_)))))
 refine sq fun K19 hK19=>?_
 refine drawn 10 ⟨[8],[],fun q=>False⟩ mixed rfl (by kernel_rfl) (fun hst=>?_)
 replace S:=S.drew
 have hb2:=S.ba 1
 have hb4:=S.ba 0
 refine mny 8 hst E (.bn 0 0 7 hb2<|.bn 1 0 5 hb4<|.nil) (fun a E=>?_)
 obtain ⟨t20,h21,H⟩:=bd H
 obtain ⟨t29,h30,H⟩:=bd H
 refine meet2 (fun a w'=>∃(G:NV)(b27:Nat)(A39:OA)(c40:Nat)(A33:OA)(c34:Nat)(A36:OA)(c37:Nat)(F47:World),Env 73 G a∧At G [(3,.pointer (pb b4)),(7,.pointer (pb b27)),(27,.agg #[iv t29.1.f0,iv t29.1.f1,iv t29.1.f2,iv t29.1.f3,.slice A33 t29.1.f4.length c34,.slice A36 t29.1.f5.length c37,.slice A39 t29.1.f6.length c40]),(28,iv t29.2)]∧Sm W F w' F47 [box b27 #[iv 0,iv 0,iv 0,iv 0,.slice none 0 0,.slice none 0 0,.slice none 0 0] 26,box b4 #[iv y.f0,iv y.f1,iv y.f2,iv y.f3,iv y.f4] 65,box b2 #[iv x.f0,iv x.f1,iv x.f2,iv x.f3,.slice A0_4 x.f4.length c0_4,.slice A0_5 x.f5.length c0_5,.slice A0_6 x.f6.length c0_6] 26,row qC.k 73 (.slice A39 t29.1.f6.length c40) t29.1.f6]∧Rd qA.k F47 A33 c34 t29.1.f4∧Rd qD.k F47 A36 c37 t29.1.f5∧Rd qA.k F47 A0_4 c0_4 x.f4∧Rd qD.k F47 A0_5 c0_5 x.f5∧Rd qC.k F47 A0_6 c0_6 x.f6) 2 255 ?_ (fun hJb=>?_)
 rintro a u48 ⟨G,b27,A39,c40,A33,c34,A36,c37,F47,E,A,S,g35,g38,g0_4,g0_5,g0_6⟩
 obtain ⟨J,E⟩:=E.at A
 refine on1 8 E (.sto S [iv t29.1.f0,iv t29.1.f1,iv t29.1.f2,iv t29.1.f3,.slice A33 t29.1.f4.length c34,.slice A36 t29.1.f5.length c37,.slice A39 t29.1.f6.length c40]) ?_
 rintro _ u49 a ⟨rfl,hb27,S,hz⟩ E
 refine ⟨.d,?_⟩
 refine mny 0 hst E (.r 9 1 .nil) (fun a E=>?_)
 refine dn ?_
 refine hK19 _ _ (sq fun K50 hK50=>?_)
 refine drawn 12 ⟨[9],[],fun q=>False⟩ mixed rfl (by kernel_rfl) (fun hst=>?_)
 replace S:=S.drew
 have hb4:=S.ba 1
 have hb27:=S.ba 0
 refine mny 6 hst E (.bn 0 0 5 hb4<|.bn 3 0 7 hb27<|.r 4 1<|.b 5 1 hb4<|.r 6 1<|.b 7 4 hb4<|.nil) (fun a E=>?_)
 obtain ⟨t52,h53,H⟩:=bd H
 refine on1 1 E (.cl en57 (qCD.calls y _ _ _ S.own.sub h53)) ?_
 rintro _ u51 a ⟨F54,A55,c56,rfl,hC,g57⟩ E
 refine ⟨.of hC.agr,?_⟩
 have hs:=hC.sub
 replace S:=S.called (X:=[]) hC
 replace g35:=g35.mono hs
 replace g38:=g38.mono hs
 replace g0_4:=g0_4.mono hs
 replace g0_5:=g0_5.mono hs
 replace g0_6:=g0_6.mono hs
 obtain ⟨t58,h59,H⟩:=bd H
 refine meet2 (fun a w'=>∃(G:NV)(A68:OA)(c69:Nat)(A61:OA)(c62:Nat)(F73:World),Env 73 G a∧At G [(31,.slice A61 ([t52].length) c62),(37,.slice A68 t58.length c69)]∧Sm W F w' F73 [box b27 #[iv t29.1.f0,iv t29.1.f1,iv t29.1.f2,iv t29.1.f3,.slice A33 t29.1.f4.length c34,.slice A36 t29.1.f5.length c37,.slice A39 t29.1.f6.length c40] 26,box b4 #[iv y.f0,iv y.f1,iv y.f2,iv y.f3,iv y.f4] 65,box b2 #[iv x.f0,iv x.f1,iv x.f2,iv x.f3,.slice A0_4 x.f4.length c0_4,.slice A0_5 x.f5.length c0_5,.slice A0_6 x.f6.length c0_6] 26,row qF.k 29 (.slice A68 t58.length c69) t58,row qF.k 29 (.slice A61 ([t52].length) c62) [t52]]∧Rd qA.k F73 A33 c34 t29.1.f4∧Rd qD.k F73 A36 c37 t29.1.f5∧Rd qC.k F73 A39 c40 t29.1.f6∧Rd qA.k F73 A0_4 c0_4 x.f4∧Rd qD.k F73 A0_5 c0_5 x.f5∧Rd qC.k F73 A0_6 c0_6 x.f6) 3 511 ?_ (fun hJ=>?_)
 rintro a u74 ⟨G,A68,c69,A61,c62,F73,E,A,S,g35,g38,g65,g0_4,g0_5,g0_6⟩
 obtain ⟨J,E⟩:=E.at A
 obtain ⟨c75,H⟩:=gd H
 replace S:=S.front 4 rfl
 refine on1 9 E (.ap (d:=qF.k) 72 S (qCX (S.row_at (i:=4) rfl)) c75 c69) ?_
 rintro _ u78 a ⟨A76,c77,rfl,S,hz⟩ E
 refine ⟨.d,?_⟩
 refine mny 0 hst E (.r 10 2 .nil) (fun a E=>?_)
 refine dn ?_
 refine hK50 _ _ (wp_ret (qCR (qCQ ?_)))
 replace S:=S.pm [0] 5
 obtain rfl:=si H
 exact rtN E ⟨_,rfl,_,_,_,rfl,S⟩
 refine pk2 2 8 ?_ ?_
 refine pk1 2 E (.lit (d:=qF.k) (e:=29) S [t52] (.cons ⟨_,_,rfl,g57⟩ .nil)) ?_
 rintro _ u60 a ⟨A61,c62,rfl,S,hg⟩ E
 refine ⟨.of hg,?_⟩
 replace S:=S.front 4 rfl
 obtain ⟨F64,hs,g65,S⟩:=S.give
 replace g35:=g35.mono hs
 replace g38:=g38.mono hs
 replace g57:=g57.mono hs
 replace g0_4:=g0_4.mono hs
 replace g0_5:=g0_5.mono hs
 replace g0_6:=g0_6.mono hs
 refine on1 8 E (.cl en58 (qAX.calls k t29.1 y.f1 y.f4 _ _ _ _ _ _ _ _ _ S.own.sub g35 g38 g65 h59)) ?_
 rintro _ u66 a ⟨F67,A68,c69,rfl,hC⟩ E
 refine ⟨.of hC.agr,?_⟩
 have hs:=hC.sub
 replace S:=S.called (X:=[]) hC
 replace g35:=g35.mono hs
 replace g38:=g38.mono hs
 replace g65:=g65.mono hs
 replace g57:=g57.mono hs
 replace g0_4:=g0_4.mono hs
 replace g0_5:=g0_5.mono hs
 replace g0_6:=g0_6.mono hs
 replace S:=S.pm [2,3,4,0,1] 5
 exact hJ _ _ ⟨_,A68,c69,A61,c62,F67,E,.of,S,g35,g38,g65,g0_4,g0_5,g0_6⟩
 replace S:=S.front 3 rfl
 obtain ⟨F64,hs,g65,S⟩:=S.give
 replace g35:=g35.mono hs
 replace g38:=g38.mono hs
 replace g57:=g57.mono hs
 replace g0_4:=g0_4.mono hs
 replace g0_5:=g0_5.mono hs
 replace g0_6:=g0_6.mono hs
 refine pk1 8 E (.cl en58 (qAX.calls k t29.1 y.f1 y.f4 _ _ _ _ _ _ _ _ _ S.own.sub g35 g38 g65 h59)) ?_
 rintro _ u66 a ⟨F67,A68,c69,rfl,hC⟩ E
 refine ⟨.of hC.agr,?_⟩
 have hs:=hC.sub
 replace S:=S.called (X:=[]) hC
 replace g35:=g35.mono hs
 replace g38:=g38.mono hs
 replace g65:=g65.mono hs
 replace g57:=g57.mono hs
 replace g0_4:=g0_4.mono hs
 replace g0_5:=g0_5.mono hs
 replace g0_6:=g0_6.mono hs
 refine on1 2 E (.lit (d:=qF.k) (e:=29) S [t52] (.cons ⟨_,_,rfl,g57⟩ .nil)) ?_
 rintro _ u60 a ⟨A61,c62,rfl,S,hg⟩ E
 refine ⟨.of hg,?_⟩
 replace S:=S.pm [2,3,4,1,0] 5
 exact hJ _ _ ⟨_,A68,c69,A61,c62,F67,E,.of,S,g35,g38,g65,g0_4,g0_5,g0_6⟩
 refine meet2 (fun a w'=>∃(G:NV)(b27:Nat)(A24:OA)(c25:Nat)(F44:World),Env 73 G a∧At G [(3,.pointer (pb b4)),(7,.pointer (pb b27)),(23,.agg #[iv x.f0,iv x.f1,iv x.f2,iv x.f3,.slice A0_4 x.f4.length c0_4,.slice A0_5 x.f5.length c0_5,.slice A0_6 x.f6.length c0_6]),(25,.agg #[iv t20.f0,iv t20.f1,iv t20.f2,iv t20.f3,iv t20.f4,iv t20.f5,.slice A24 t20.f6.length c25])]∧Sm W F w' F44 [box b27 #[iv 0,iv 0,iv 0,iv 0,.slice none 0 0,.slice none 0 0,.slice none 0 0] 26,box b4 #[iv y.f0,iv y.f1,iv y.f2,iv y.f3,iv y.f4] 65,box b2 #[iv x.f0,iv x.f1,iv x.f2,iv x.f3,.slice A0_4 x.f4.length c0_4,.slice A0_5 x.f5.length c0_5,.slice A0_6 x.f6.length c0_6] 26]∧Rd qA.k F44 A0_4 c0_4 x.f4∧Rd qD.k F44 A0_5 c0_5 x.f5∧Rd qC.k F44 A0_6 c0_6 x.f6∧Rd ki F44 A24 c25 t20.f6) 6 135 ?_ (fun hJ=>?_)
 rintro a u45 ⟨G,b27,A24,c25,F44,E,A,S,g0_4,g0_5,g0_6,g26⟩
 obtain ⟨J,E⟩:=E.at A
 refine on1 3 E (.cl en39 (qAr.calls k x t20 _ _ _ _ _ _ _ _ _ _ _ S.own.sub g0_4 g0_5 g0_6 g26 h30)) ?_
 rintro _ u31 a ⟨F32,A33,c34,A36,c37,A39,c40,rfl,hC,g35,g38⟩ E
 refine ⟨.of hC.agr,?_⟩
 have hs:=hC.sub
 replace S:=S.called (X:=[]) hC
 replace g0_4:=g0_4.mono hs
 replace g0_5:=g0_5.mono hs
 replace g0_6:=g0_6.mono hs
 replace g26:=g26.mono hs
 refine mny 2 hst E (.r 4 3 .nil) (fun a E=>?_)
 replace S:=S.pm [1,2,3,0] 4
 exact hJb _ _ ⟨_,b27,A39,c40,A33,c34,A36,c37,F32,E,.of,S,g35,g38,g0_4,g0_5,g0_6⟩
 refine pk2 2 7 ?_ ?_
 refine pk1 2 E (.cl en57 (qCD.calls y _ _ _ S.own.sub h21)) ?_
 rintro _ u22 a ⟨F23,A24,c25,rfl,hC,g26⟩ E
 refine ⟨.of hC.agr,?_⟩
 have hs:=hC.sub
 replace S:=S.called (X:=[]) hC
 replace g0_4:=g0_4.mono hs
 replace g0_5:=g0_5.mono hs
 replace g0_6:=g0_6.mono hs
 refine pk2 7 3 ?_ ?_
 refine pk1 7 E (.al (t:=26) S [iv 0,iv 0,iv 0,iv 0,.slice none 0 0,.slice none 0 0,.slice none 0 0]) ?_
 rintro _ u28 a ⟨b27,rfl,hb27,S,hg⟩ E
 refine ⟨.of hg,?_⟩
 exact hJ _ _ ⟨_,b27,A24,c25,F23,E,.of,S,g0_4,g0_5,g0_6,g26⟩
 refine pk1 3 E (.cl en39 (qAr.calls k x t20 _ _ _ _ _ _ _ _ _ _ _ S.own.sub g0_4 g0_5 g0_6 g26 h30)) ?_
 rintro _ u31 a ⟨F32,A33,c34,A36,c37,A39,c40,rfl,hC,g35,g38⟩ E
 refine ⟨.of hC.agr,?_⟩
 have hs:=hC.sub
 replace S:=S.called (X:=[]) hC
 replace g0_4:=g0_4.mono hs
 replace g0_5:=g0_5.mono hs
 replace g0_6:=g0_6.mono hs
 replace g26:=g26.mono hs
 refine mny 3 hst E (.r 4 3 .nil) (fun a E=>?_)
 refine on1 7 E (.al (t:=26) S [iv 0,iv 0,iv 0,iv 0,.slice none 0 0,.slice none 0 0,.slice none 0 0]) ?_
 rintro _ u28 a ⟨b27,rfl,hb27,S,hg⟩ E
 refine ⟨.of hg,?_⟩
 replace S:=S.pm [0,2,3,1] 4
 exact hJb _ _ ⟨_,b27,A39,c40,A33,c34,A36,c37,F32,E,.of,S,g35,g38,g0_4,g0_5,g0_6⟩
 refine pk1 7 E (.al (t:=26) S [iv 0,iv 0,iv 0,iv 0,.slice none 0 0,.slice none 0 0,.slice none 0 0]) ?_
 rintro _ u28 a ⟨b27,rfl,hb27,S,hg⟩ E
 refine ⟨.of hg,?_⟩
 refine on1 2 E (.cl en57 (qCD.calls y _ _ _ S.own.sub h21)) ?_
 rintro _ u22 a ⟨F23,A24,c25,rfl,hC,g26⟩ E
 refine ⟨.of hC.agr,?_⟩
 have hs:=hC.sub
 replace S:=S.called (X:=[]) hC
 replace g0_4:=g0_4.mono hs
 replace g0_5:=g0_5.mono hs
 replace g0_6:=g0_6.mono hs
 exact hJ _ _ ⟨_,b27,A24,c25,F23,E,.of,S,g0_4,g0_5,g0_6,g26⟩
 refine rr E fun a E=>(E.ik 39 H (fun c80 E H=>?_) fun c80 E H=>?_)
 refine sq fun K81 hK81=>pl0 (plc E (.bn 0 0 7 (S.ba 1)<|.r 1 1<|.b 2 1 hb4<|.nil) (fun a E=>?_))
 obtain ⟨t83,h84,H⟩:=bd H
 refine ple E (.cl en58 (qAX.calls k x y.f1 0 _ _ _ _ _ _ _ _ _ S.own.sub g0_4 g0_5 g0_6 h84)) ?_
 rintro _ u82 a ⟨F85,A86,c87,rfl,hC⟩ E
 have hs:=hC.sub
 replace S:=S.called (X:=[]) hC
 replace g0_4:=g0_4.mono hs
 replace g0_5:=g0_5.mono hs
 replace g0_6:=g0_6.mono hs
 refine plc E (.r 4 1 .nil) (fun a E=>pld (hK81 _ _ (sq fun K90 hK90=>?_)))
 have J115:∀ kq113,kq113≤k→∀(G:NV)(A109:OA)(c110:Nat)(l111:List qF)(a:Act)(w':World),Env 73 G a→At G [(3,.pointer (pb b4)),(9,.slice A109 l111.length c110)]→Sm W F w' F85 [box b4 #[iv y.f0,iv y.f1,iv y.f2,iv y.f3,iv y.f4] 65,box b2 #[iv x.f0,iv x.f1,iv x.f2,iv x.f3,.slice A0_4 x.f4.length c0_4,.slice A0_5 x.f5.length c0_5,.slice A0_6 x.f6.length c0_6] 26,row qF.k 29 (.slice A109 l111.length c110) l111]→qBT.j112 kq113 y l111=some r→K90 a w':=by
  intro kq113 hkq G A109 c110 l111 a u116 E A S H
  obtain _ | k114:=kq113
  exact zz H
  rw [qBT.j112_s]at H
  obtain ⟨J,E⟩:=E.at A
  refine hK90 _ _ (sq fun K117 hK117=>pl0 (plc E (.r 0 2<|.b 2 1 (S.ba 0)<|.r 3 1<|.nil) (fun a E=>ple E (.lit (d:=qF.k) (e:=29) S [(⟨7,y.f1,0,0,0,0,[]⟩:qF)] (.cons ⟨none,0,rfl,Rd.nil _ _⟩ .nil)) ?_)))
  rintro _ u118 a ⟨A119,c120,rfl,S,hg⟩ E
  obtain ⟨c122,H⟩:=gd H
  replace S:=S.front 3 rfl
  refine ple E (.ap (d:=qF.k) 72 S (qCX (S.row_at (i:=1) rfl)) c122 c120) ?_
  rintro _ u125 a ⟨A123,c124,rfl,S,hz⟩ E
  refine plc E (.r 6 2 .nil) (fun a E=>pld (hK117 _ _ (wp_ret (qCR (qCQ ?_)))))
  replace S:=S.pm [0] 4
  obtain rfl:=si H
  exact rtN E ⟨_,rfl,_,_,_,rfl,S⟩
 refine sq fun K91 hK91=>pl0 ?_
 have hb4:=S.ba 1
 refine plc E (.r 0 1<|.b 1 4 (S.ba 2)<|.r 2 1<|.b 3 1 hb4<|.nil) (fun a E=>?_)
 obtain ⟨t93,h94,H⟩:=bd H
 refine plq E S en59 (qBG.calls k x.f4 y.f1 _ _ _ _ _ S.own.sub g0_4 h94) fun u92 S a E=>plc E (.r 5 3 .nil) (fun a E=>pla (t:=68) E S [iv 0,iv 0,iv 0,iv 0,.bool false,.bool false] fun b95 u96 hb95 S a E=>pls E S [iv t93.1.f0,iv t93.1.f1,iv t93.1.f2,iv t93.1.f3,.bool t93.1.f4,.bool t93.1.f5] fun u97 hb95 S a E=>plc E (.r 10 1 .nil) (fun a E=>pld (hK91 _ _ (rg E (.r 0 1<|.b 1 5 hb95<|.nil) fun a E=>(E.ib 54 H (fun c99 E H=>?_) fun c99 E H=>?_)))))
 refine pl0 (plc E (.r 0 2<|.b 2 1 (S.ba 2)<|.r 3 1<|.nil) (fun a E=>ple E (.lit (d:=qF.k) (e:=29) S [(⟨5,y.f1,0,0,0,0,[]⟩:qF)] (.cons ⟨none,0,rfl,Rd.nil _ _⟩ .nil)) ?_))
 rintro _ u100 a ⟨A101,c102,rfl,S,hg⟩ E
 obtain ⟨c104,H⟩:=gd H
 replace S:=S.front 2 rfl
 refine ple E (.ap (d:=qF.k) 72 S (qCX (S.row_at (i:=1) rfl)) c104 c102) ?_
 rintro _ u107 a ⟨A105,c106,rfl,S,hz⟩ E
 refine plc E (.r 6 1 .nil) (fun a E=>pld ?_)
 replace S:=S.pm [3,4,0] 5
 exact J115 _ (by omega) _ A105 c106 (t83++[(⟨5,y.f1,0,0,0,0,[]⟩:qF)]) _ _ E .of S H
 refine wp_skip ?_
 replace S:=S.pm [2,3,1] 4
 exact J115 _ (by omega) _ A86 c87 t83 _ _ E .of S H
 refine wp_skip ?_
 refine qCS ?_
 refine hK15 _ _ (sq fun K126 hK126=>?_)
 refine drawn 8 ⟨[],[],fun q=>False⟩ mixed rfl (by kernel_rfl) (fun hst=>?_)
 replace S:=S.drew
 have hb2:=S.ba 1
 have hb4:=S.ba 0
 refine mny 4 hst E (.bn 0 0 7 hb2<|.r 1 1<|.b 2 1 hb4<|.bn 3 0 5 hb4<|.nil) (fun a E=>?_)
 obtain ⟨t128,h129,H⟩:=bd H
 refine on1 4 E (.cl en60 (qBC.calls k y _ _ _ S.own.sub h129)) ?_
 rintro _ u127 a ⟨_,rfl,hC⟩ E
 refine ⟨.of hC.agr,?_⟩
 replace S:=S.lent hC
 obtain ⟨t131,h132,H⟩:=bd H
 refine on1 5 E (.cl en58 (qAX.calls k x y.f1 t128 _ _ _ _ _ _ _ _ _ S.own.sub g0_4 g0_5 g0_6 h132)) ?_
 rintro _ u130 a ⟨F133,A134,c135,rfl,hC⟩ E
 refine ⟨.of hC.agr,?_⟩
 have hs:=hC.sub
 replace S:=S.called (X:=[]) hC
 replace g0_4:=g0_4.mono hs
 replace g0_5:=g0_5.mono hs
 replace g0_6:=g0_6.mono hs
 refine mny 0 hst E (.r 6 2 .nil) (fun a E=>?_)
 refine dn ?_
 refine hK126 _ _ (wp_ret ?_)
 replace S:=S.pm [0] 3
 obtain rfl:=si H
 exact rtN E ⟨_,rfl,_,_,_,rfl,S⟩
 refine rr E fun a E=>(wp_ret (qCQ ?_))
 replace S:=S.nilrow qF.k 29
 replace S:=S.pm [0] 3
 obtain rfl:=si H
 exact rtN E ⟨_,rfl,_,_,_,rfl,S⟩
def qAw.j37:Nat→qAE→qA × Bool→Bool→Option Bool
 | 0,_,_,_=>none
 | k+1,y,t15,y36=>if y36=true then (if t15.2=true then (some (t15.1.f3 == y.f4)) else (some false)) else (if y.f0=4 then (some (!t15.2)) else (some false))
theorem qAw.j37_s k y t15 y36:type_of% (qAw.j37.eq_2 y t15 y36 k):=qAw.j37.eq_2 y t15 y36 k
def qAw.f(k:Nat)(x:qE)(y:qAE):Option Bool:=(qAB.f k x).bind fun t9=>(if t9=0 then ((qBG.f k x.f4 y.f1).bind fun t15=>(if y.f0=1 then (if t15.1.f3=0 then ((qAu.f k x y.f1).bind fun t27=>(some (!t27))) else (if t15.1.f5=true then (some false) else ((qAu.f k x y.f1).bind fun t31=>(some (!t31))))) else (if y.f0=2 then (qAw.j37 k y t15 true) else (qAw.j37 k y t15 (y.f0 == 3))))) else (some false))
def qAw.Post(W F:World)(r:Bool)(v:Value)(w':World):Prop:=∃(F':World),v = .bool r∧Sm W F w' F' []
theorem qAw.calls(k:Nat)(x:qE)(y:qAE)(A0_4:OA)(c0_4:Nat)(A0_5:OA)(c0_5:Nat)(A0_6:OA)(c0_6:Nat)(r:Bool)(W F:World)(hown:Sub F W)(g0_4:Rd qA.k F A0_4 c0_4 x.f4)(g0_5:Rd qD.k F A0_5 c0_5 x.f5)(g0_6:Rd qC.k F A0_6 c0_6 x.f6)(H:qAw.f k x y=some r):
    Cr 36 #[.agg #[iv x.f0,iv x.f1,iv x.f2,iv x.f3,.slice A0_4 x.f4.length c0_4,.slice A0_5 x.f5.length c0_5,.slice A0_6 x.f6.length c0_6],.agg #[iv y.f0,iv y.f1,iv y.f2,iv y.f3,iv y.f4]] W (qAw.Post W F r):=by
 have S:=sT hown
 unfold qAw.f at H
 refine ent 52 rfl rfl rfl (fun a E=>?_)
 refine sq fun K1 hK1=>pl0 (plx (t:=26) E S [iv x.f0,iv x.f1,iv x.f2,iv x.f3,.slice A0_4 x.f4.length c0_4,.slice A0_5 x.f5.length c0_5,.slice A0_6 x.f6.length c0_6] fun b2 u3 hb2 S a E=>plx (t:=65) E S [iv y.f0,iv y.f1,iv y.f2,iv y.f3,iv y.f4] fun b4 u5 hb4 S a E=>plc E (.r 2 1 .nil) (fun a E=>pld (hK1 _ _ (sq fun K6 hK6=>sq fun K7 hK7=>pl0 ?_))))
 have hb2:=S.ba 1
 refine plc E (.bn 0 0 7 hb2 .nil) (fun a E=>?_)
 obtain ⟨t9,h10,H⟩:=bd H
 refine plq E S en65 (qAB.calls k x _ _ _ _ _ _ _ _ _ S.own.sub g0_4 g0_5 g0_6 h10) fun u8 S a E=>plc E (.r 2 1 .nil) (fun a E=>pld (hK7 _ _ (E.ikn 9 H (fun c11 E H=>?_) fun c11 E H=>?_)))
 refine wp_skip (hK6 _ _ (sq fun K13 hK13=>pl0 ?_))
 have hb2:=S.ba 1
 refine plc E (.r 0 1<|.b 1 4 hb2<|.r 2 1<|.b 3 1 (S.ba 0)<|.nil) (fun a E=>?_)
 obtain ⟨t15,h16,H⟩:=bd H
 refine plq E S en59 (qBG.calls k x.f4 y.f1 _ _ _ _ _ S.own.sub g0_4 h16) fun u14 S a E=>plc E (.r 5 3 .nil) (fun a E=>pla (t:=68) E S [iv 0,iv 0,iv 0,iv 0,.bool false,.bool false] fun b17 u18 hb17 S a E=>pls E S [iv t15.1.f0,iv t15.1.f1,iv t15.1.f2,iv t15.1.f3,.bool t15.1.f4,.bool t15.1.f5] fun u19 hb17 S a E=>plc E (.r 10 1 .nil) (fun a E=>pld (hK13 _ _ (sq fun K20 hK20=>sq fun K21 hK21=>pl0 ?_))))
 have hb4:=S.ba 1
 refine plc E (.r 0 1<|.b 1 0 hb4<|.nil) (fun a E=>pld (hK21 _ _ (wp_block (rr E fun a E=>(E.ik 20 H (fun c23 E H=>?_) fun c23 E H=>?_)))))
 refine sq fun K24 hK24=>pl0 (plc E (.r 0 1<|.b 1 3 hb17<|.r 2 2<|.nil) (fun a E=>E.fk 25 H (fun c25 E H=>?_) fun c25 E H=>?_))
 refine plc E (.r 4 5<|.bn 9 0 7 (S.ba 2)<|.r 10 1<|.b 11 1 hb4<|.nil) (fun a E=>?_)
 obtain ⟨t27,h28,H⟩:=bd H
 refine plq E S en66 (qAu.calls k x y.f1 _ _ _ _ _ _ _ _ _ S.own.sub g0_4 g0_5 g0_6 h28) fun u26 S a E=>plc E (.r 13 3 .nil) (fun a E=>pld (hK24 _ _ (wp_ret (qCR (qCQ ?_)))))
 replace S:=S.pm [] 3
 obtain rfl:=si H
 exact rt1 E ⟨_,rfl,_,rfl,S⟩
 refine plc E (.r 4 1<|.b 5 5 hb17<|.r 6 3<|.nil) (fun a E=>E.fbn 30 H (fun c29 E H=>?_) fun c29 E H=>?_)
 refine plc E (.r 9 7 .nil) (fun a E=>pld (hK24 _ _ (wp_ret (qCR (qCQ ?_)))))
 replace S:=S.pm [] 3
 obtain rfl:=si H
 exact rt1 E ⟨_,rfl,_,rfl,S⟩
 refine plc E (.bn 9 0 7 (S.ba 2)<|.r 10 1<|.b 11 1 hb4<|.nil) (fun a E=>?_)
 obtain ⟨t31,h32,H⟩:=bd H
 refine plq E S en66 (qAu.calls k x y.f1 _ _ _ _ _ _ _ _ _ S.own.sub g0_4 g0_5 g0_6 h32) fun u30 S a E=>plc E (.r 13 3 .nil) (fun a E=>pld (hK24 _ _ (wp_ret (qCR (qCQ ?_)))))
 replace S:=S.pm [] 3
 obtain rfl:=si H
 exact rt1 E ⟨_,rfl,_,rfl,S⟩
 refine sq fun K33 hK33=>?_
 have J40:∀ kq38,kq38≤k→∀(G:NV)(y36:Bool)(a:Act)(w':World),Env 52 G a→At G [(3,.pointer (pb b4)),(5,.pointer (pb b17)),(6,.bool t15.2),(19,iv y.f0),(37,.bool y36)]→Sm W F w' F [box b17 #[iv t15.1.f0,iv t15.1.f1,iv t15.1.f2,iv t15.1.f3,.bool t15.1.f4,.bool t15.1.f5] 68,box b4 #[iv y.f0,iv y.f1,iv y.f2,iv y.f3,iv y.f4] 65,box b2 #[iv x.f0,iv x.f1,iv x.f2,iv x.f3,.slice A0_4 x.f4.length c0_4,.slice A0_5 x.f5.length c0_5,.slice A0_6 x.f6.length c0_6] 26]→qAw.j37 kq38 y t15 y36=some r→K33 a w':=by
  intro kq38 hkq G y36 a u41 E A S H
  obtain _ | k39:=kq38
  exact zz H
  rw [qAw.j37_s]at H
  obtain ⟨J,E⟩:=E.at A
  refine hK33 _ _ (E.ib 37 H (fun c42 E H=>?_) fun c42 E H=>?_)
  refine sq fun K43 hK43=>pl0 (plc E (.r 0 2 .nil) (fun a E=>E.fb 41 H (fun c44 E H=>?_) fun c44 E H=>?_))
  refine plc E (.r 2 1<|.b 3 3 (S.ba 0)<|.r 4 1<|.b 5 4 (S.ba 1)<|.r 6 3<|.nil) (fun a E=>pld (hK43 _ _ (wp_ret (qCR (qCQ ?_)))))
  replace S:=S.pm [] 3
  obtain rfl:=si H
  exact rt1 E ⟨_,rfl,_,rfl,S⟩
  refine plc E (.r 2 7 .nil) (fun a E=>pld (hK43 _ _ (wp_ret (qCR (qCQ ?_)))))
  replace S:=S.pm [] 3
  obtain rfl:=si H
  exact rt1 E ⟨_,rfl,_,rfl,S⟩
  refine rr E fun a E=>(E.ik 48 H (fun c46 E H=>?_) fun c46 E H=>?_)
  refine rr E fun a E=>(wp_ret (qCR (qCQ ?_)))
  replace S:=S.pm [] 3
  obtain rfl:=si H
  exact rt1 E ⟨_,rfl,_,rfl,S⟩
  refine wp_skip ?_
  refine qCS ?_
  refine hK20 _ _ (rr E fun a E=>(wp_ret ?_))
  replace S:=S.pm [] 3
  obtain rfl:=si H
  exact rt1 E ⟨_,rfl,_,rfl,S⟩
 refine rr E fun a E=>(E.ik 37 H (fun c35 E H=>?_) fun c35 E H=>?_)
 refine wp_skip ?_
 exact J40 _ (by omega) _ true _ _ E .of S H
 refine pl0 (plc E (.r 0 2 .nil) (fun a E=>pld ?_))
 exact J40 _ (by omega) _ (y.f0 == 3) _ _ E .of S H
 refine rr E fun a E=>(wp_ret (qCQ ?_))
 replace S:=S.pm [] 2
 obtain rfl:=si H
 exact rt1 E ⟨_,rfl,_,rfl,S⟩
def qCL.f(k:Nat)(x:Int)(y:Int)(z:Int):Option (qE × Int):=if 0≤(if (if 8<z then 8 else z)>0 then (if 8<z then 8 else z) else 0)∧(if (if 8<z then 8 else z)>0 then (if 8<z then 8 else z) else 0) * 32≤140737488355328 then ((qAB.f k (⟨0,x,y,z,[],[],(List.replicate ((if (if 8<z then 8 else z)>0 then (if 8<z then 8 else z) else 0)).toNat (qC.z:qC))⟩:qE)).bind fun t16=>(if t16=0 then (some ((⟨0,x,y,z,[],[],(List.replicate ((if (if 8<z then 8 else z)>0 then (if 8<z then 8 else z) else 0)).toNat (qC.z:qC))⟩:qE),0)) else (some ((⟨0,0,0,0,[],[],[]⟩:qE),t16)))) else (none)
def qCL.Post(W F:World)(r:qE × Int)(v:Value)(w':World):Prop:=∃(F':World)(RA0_4:OA)(rc0_4:Nat)(RA0_5:OA)(rc0_5:Nat)(RA0_6:OA)(rc0_6:Nat),v = .tuple #[.agg #[iv r.1.f0,iv r.1.f1,iv r.1.f2,iv r.1.f3,.slice RA0_4 r.1.f4.length rc0_4,.slice RA0_5 r.1.f5.length rc0_5,.slice RA0_6 r.1.f6.length rc0_6],iv r.2]∧Sm W F w' F' [row qC.k 73 (.slice RA0_6 r.1.f6.length rc0_6) r.1.f6]∧Rd qA.k F' RA0_4 rc0_4 r.1.f4∧Rd qD.k F' RA0_5 rc0_5 r.1.f5
theorem qCL.calls(k:Nat)(x:Int)(y:Int)(z:Int)(r:qE × Int)(W F:World)(hown:Sub F W)(H:qCL.f k x y z=some r):
    Cr 67 #[iv x,iv y,iv z] W (qCL.Post W F r):=by
 have S:=sT hown
 unfold qCL.f at H
 refine ent 25 rfl rfl rfl (fun a E=>?_)
 refine sq fun K1 hK1=>pl0 (pla (t:=26) E S [iv 0,iv 0,iv 0,iv 0,.slice none 0 0,.slice none 0 0,.slice none 0 0] fun b2 u3 hb2 S a E=>plc E (.r 1 1 .nil) (fun a E=>pld (hK1 _ _ (sq fun K4 hK4=>pl0 (plc E (.r 0 6 .nil) (fun a E=>?_))))))
 obtain ⟨c5,H⟩:=gd H
 refine ple E (.mk (d:=qC.k) (e:=73) 32 qC.z S c5 (by rw [zr73]; exact ⟨none,0,rfl,Rd.nil _ _⟩)) ?_
 rintro _ u8 a ⟨A6,c7,rfl,S,hg⟩ E
 refine plc E (.r 7 1 .nil) (fun a E=>pla (t:=26) E S [iv 0,iv 0,iv 0,iv 0,.slice none 0 0,.slice none 0 0,.slice none 0 0] fun b10 u11 hb10 S a E=>pls E S [iv 0,iv x,iv y,iv z,.slice none 0 0,.slice none 0 0,.slice A6 ((List.replicate ((if (if 8<z then 8 else z)>0 then (if 8<z then 8 else z) else 0)).toNat (qC.z:qC)).length) c7] fun u12 hb10 S a E=>pld (hK4 _ _ (sq fun K13 hK13=>sq fun K14 hK14=>pl0 (plc E (.bn 0 0 7 hb10 .nil) (fun a E=>?_)))))
 obtain ⟨t16,h17,H⟩:=bd H
 refine plq E S en65 (qAB.calls k (⟨0,x,y,z,[],[],(List.replicate ((if (if 8<z then 8 else z)>0 then (if 8<z then 8 else z) else 0)).toNat (qC.z:qC))⟩:qE) _ _ _ _ _ _ _ _ _ (Sub.refl _) (Rd.nil _ _) (Rd.nil _ _) (S.rd_at (i:=1) rfl) h17) fun u15 S a E=>plc E (.r 2 1 .nil) (fun a E=>pld (hK14 _ _ (rr E fun a E=>(E.ikn 21 H (fun c19 E H=>?_) fun c19 E H=>?_))))
 refine wp_skip (hK13 _ _ (sq fun K23 hK23=>pl0 (plc E (.bn 0 0 7 (S.ba 0) .nil) (fun a E=>?_))))
 replace S:=S.front 2 rfl
 refine pls E S [iv 0,iv x,iv y,iv z,.slice none 0 0,.slice none 0 0,.slice A6 ((List.replicate ((if (if 8<z then 8 else z)>0 then (if 8<z then 8 else z) else 0)).toNat (qC.z:qC)).length) c7] fun u24 hb2 S a E=>plc E (.r 2 1 .nil) (fun a E=>pld (hK23 _ _ (wp_ret ?_)))
 replace S:=S.pm [] 2
 obtain rfl:=si H
 exact rtm E (.b hb2 ag26 sz26 (.t .nil)) ⟨_,rfl,_,_,_,_,_,_,_,rfl,S,(Rd.nil _ _),(Rd.nil _ _)⟩
 refine sq fun K20 hK20=>pl0 (plc E (.r 0 2 .nil) (fun a E=>?_))
 replace S:=S.front 2 rfl
 refine pls E S [iv 0,iv 0,iv 0,iv 0,.slice none 0 0,.slice none 0 0,.slice none 0 0] fun u21 hb2 S a E=>plc E (.r 3 1 .nil) (fun a E=>pld (hK20 _ _ (wp_ret (qCQ ?_))))
 replace S:=S.nilrow qC.k 73
 replace S:=S.pm [0] 4
 obtain rfl:=si H
 exact rtm E (.b hb2 ag26 sz26 (.t .nil)) ⟨_,rfl,_,_,_,_,_,_,_,rfl,S,(Rd.nil _ _),(Rd.nil _ _)⟩
def qAo.l42:Nat→Int→Int→Int→Int→Int→Int→List qA→List qD→List qC→Option qE
 | 0,_,_,_,_,_,_,_,_,_=>none
 | k+1,x,x25,x26,x27,x28,x29,l32,l36,l40=>if x25≤x then ((qAr.f k (⟨x26,x27,x28,x29,l32,l36,l40⟩:qE) (⟨1,x25,x25,1,1,0,[]⟩:qF)).bind fun t54=>((qAr.f k t54.1 (⟨3,x25,0,0,0,0,[]⟩:qF)).bind fun t71=>(qAo.l42 k x (w64 (x25+1)) t71.1.f0 t71.1.f1 t71.1.f2 t71.1.f3 t71.1.f4 t71.1.f5 t71.1.f6))) else (some (⟨x26,x27,x28,x29,l32,l36,l40⟩:qE))
theorem qAo.l42_s k x x25 x26 x27 x28 x29 l32 l36 l40:type_of% (qAo.l42.eq_2 x x25 x26 x27 x28 x29 l32 l36 l40 k):=qAo.l42.eq_2 x x25 x26 x27 x28 x29 l32 l36 l40 k
def qAo.f(k:Nat)(x:Int)(y:Int):Option qE:=(qCL.f k 3 y 1).bind fun t6=>(qAo.l42 k x 1 t6.1.f0 t6.1.f1 t6.1.f2 t6.1.f3 t6.1.f4 t6.1.f5 t6.1.f6)
def qAo.Post(W F:World)(r:qE)(v:Value)(w':World):Prop:=∃(F':World)(RA0_4:OA)(rc0_4:Nat)(RA0_5:OA)(rc0_5:Nat)(RA0_6:OA)(rc0_6:Nat),v = .agg #[iv r.f0,iv r.f1,iv r.f2,iv r.f3,.slice RA0_4 r.f4.length rc0_4,.slice RA0_5 r.f5.length rc0_5,.slice RA0_6 r.f6.length rc0_6]∧Sm W F w' F' [row qC.k 73 (.slice RA0_6 r.f6.length rc0_6) r.f6]∧Rd qA.k F' RA0_4 rc0_4 r.f4∧Rd qD.k F' RA0_5 rc0_5 r.f5
theorem qAo.calls(k:Nat)(x:Int)(y:Int)(r:qE)(W F:World)(hown:Sub F W)(H:qAo.f k x y=some r):
    Cr 37 #[iv x,iv y] W (qAo.Post W F r):=by
 have S:=sT hown
 unfold qAo.f at H
 refine ent 34 rfl rfl rfl (fun a E=>?_)
 refine sq fun K1 hK1=>pl0 (pla (t:=26) E S [iv 0,iv 0,iv 0,iv 0,.slice none 0 0,.slice none 0 0,.slice none 0 0] fun b2 u3 hb2 S a E=>pld (hK1 _ _ (sq fun K4 hK4=>pl0 (plc E (.r 0 1 .nil) (fun a E=>?_)))))
 obtain ⟨t6,h7,H⟩:=bd H
 refine ple E (.cl en67 (qCL.calls k 3 y 1 _ _ _ S.own.sub h7)) ?_
 rintro _ u5 a ⟨F8,A9,c10,A12,c13,A15,c16,rfl,hC,g11,g14⟩ E
 have hs:=hC.sub
 replace S:=S.called (X:=[]) hC
 refine plc E (.r 2 3 .nil) (fun a E=>pla (t:=26) E S [iv 0,iv 0,iv 0,iv 0,.slice none 0 0,.slice none 0 0,.slice none 0 0] fun b19 u20 hb19 S a E=>pls E S [iv t6.1.f0,iv t6.1.f1,iv t6.1.f2,iv t6.1.f3,.slice A9 t6.1.f4.length c10,.slice A12 t6.1.f5.length c13,.slice A15 t6.1.f6.length c16] fun u21 hb19 S a E=>plc E (.r 7 1 .nil) (fun a E=>pld (hK4 _ _ (sq fun K22 hK22=>rr E fun a E=>(wp_block ?_)))))
 replace S:=S.pm [0,2,1] 3
 refine wp_loop_ghost (fun kq43 a w'=>∃(G:NV)(x25:Int)(x26:Int)(x27:Int)(x28:Int)(x29:Int)(A30:OA)(c31:Nat)(l32:List qA)(A34:OA)(c35:Nat)(l36:List qD)(A38:OA)(c39:Nat)(l40:List qC)(F41:World),kq43≤k∧Env 34 G a∧At G [(0,iv x),(4,.pointer (pb b2)),(5,.pointer (pb b19)),(7,iv x25)]∧Sm W F w' F41 [box b19 #[iv x26,iv x27,iv x28,iv x29,.slice A30 l32.length c31,.slice A34 l36.length c35,.slice A38 l40.length c39] 26,box b2 #[iv 0,iv 0,iv 0,iv 0,.slice none 0 0,.slice none 0 0,.slice none 0 0] 26,row qC.k 73 (.slice A38 l40.length c39) l40]∧Rd qA.k F41 A30 c31 l32∧Rd qD.k F41 A34 c35 l36∧qAo.l42 kq43 x x25 x26 x27 x28 x29 l32 l36 l40=some r) k ⟨_,1,t6.1.f0,t6.1.f1,t6.1.f2,t6.1.f3,A9,c10,t6.1.f4,A12,c13,t6.1.f5,A15,c16,t6.1.f6,F8,Nat.le_refl _,E,.of,S,g11,g14,H⟩ ?_
 rintro kq43 a u45 ⟨G,x25,x26,x27,x28,x29,A30,c31,l32,A34,c35,l36,A38,c39,l40,F41,hkq,E,A,S,g33,g37,H⟩
 obtain _ | k44:=kq43
 exact zz H
 rw [qAo.l42_s]at H
 obtain ⟨J,E⟩:=E.at A
 refine sq fun K46 hK46=>rr E fun a E=>(E.ik 15 H (fun c48 E H=>?_) fun c48 E H=>?_)
 refine wp_skip (hK46 _ _ (sq fun K49 hK49=>wp_block (sq fun K50 hK50=>pl0 (plc E (.bn 0 0 7 (S.ba 0)<|.r 1 3<|.nil) (fun a E=>?_)))))
 replace S:=S.front 2 rfl
 obtain ⟨F51,hs,g52,S⟩:=S.give
 replace g33:=g33.mono hs
 replace g37:=g37.mono hs
 obtain ⟨t54,h55,H⟩:=bd H
 refine ple E (.cl en39 (qAr.calls k44 (⟨x26,x27,x28,x29,l32,l36,l40⟩:qE) (⟨1,x25,x25,1,1,0,[]⟩:qF) _ _ _ _ _ _ _ _ _ _ _ S.own.sub g33 g37 g52 (Rd.nil _ _) h55)) ?_
 rintro _ u53 a ⟨F56,A57,c58,A60,c61,A63,c64,rfl,hC,g59,g62⟩ E
 have hs:=hC.sub
 replace S:=S.called (X:=[]) hC
 replace g33:=g33.mono hs
 replace g37:=g37.mono hs
 replace g52:=g52.mono hs
 refine plc E (.r 5 3 .nil) (fun a E=>?_)
 replace S:=S.front 1 rfl
 refine pls E S [iv t54.1.f0,iv t54.1.f1,iv t54.1.f2,iv t54.1.f3,.slice A57 t54.1.f4.length c58,.slice A60 t54.1.f5.length c61,.slice A63 t54.1.f6.length c64] fun u67 hb19 S a E=>pld (hK50 _ _ (pl0 (plc E (.bn 0 0 7 hb19<|.r 1 2<|.nil) (fun a E=>?_))))
 replace S:=S.front 1 rfl
 obtain ⟨F68,hs,g69,S⟩:=S.give
 replace g59:=g59.mono hs
 replace g62:=g62.mono hs
 replace g33:=g33.mono hs
 replace g37:=g37.mono hs
 replace g52:=g52.mono hs
 obtain ⟨t71,h72,H⟩:=bd H
 refine ple E (.cl en39 (qAr.calls k44 t54.1 (⟨3,x25,0,0,0,0,[]⟩:qF) _ _ _ _ _ _ _ _ _ _ _ S.own.sub g59 g62 g69 (Rd.nil _ _) h72)) ?_
 rintro _ u70 a ⟨F73,A74,c75,A77,c78,A80,c81,rfl,hC,g76,g79⟩ E
 have hs:=hC.sub
 replace S:=S.called (X:=[]) hC
 replace g59:=g59.mono hs
 replace g62:=g62.mono hs
 replace g69:=g69.mono hs
 replace g33:=g33.mono hs
 replace g37:=g37.mono hs
 replace g52:=g52.mono hs
 refine plc E (.r 4 3 .nil) (fun a E=>?_)
 replace S:=S.front 1 rfl
 refine pls E S [iv t71.1.f0,iv t71.1.f1,iv t71.1.f2,iv t71.1.f3,.slice A74 t71.1.f4.length c75,.slice A77 t71.1.f5.length c78,.slice A80 t71.1.f6.length c81] fun u84 hb19 S a E=>pld ?_
 refine qCS ?_
 refine hK49 _ _ (pl0 (plc E (.r 0 3 .nil) (fun a E=>pld ?_)))
 replace S:=S.pm [0,2,1] 3
 exact qCT ⟨k44,by omega,_,(w64 (x25+1)),t71.1.f0,t71.1.f1,t71.1.f2,t71.1.f3,A74,c75,t71.1.f4,A77,c78,t71.1.f5,A80,c81,t71.1.f6,F73,by omega,E,.of,S,g76,g79,H⟩
 refine wp_exit ?_
 refine hK22 _ _ (sq fun K85 hK85=>pl0 (plc E (.bn 0 0 7 (S.ba 0) .nil) (fun a E=>?_)))
 replace S:=S.front 1 rfl
 refine pls E S [iv x26,iv x27,iv x28,iv x29,.slice A30 l32.length c31,.slice A34 l36.length c35,.slice A38 l40.length c39] fun u86 hb2 S a E=>pld (hK85 _ _ (wp_ret ?_))
 replace S:=S.pm [] 2
 obtain rfl:=si H
 exact ret1 E rfl (.cell (by kernel_rfl) (qCj [iv x26,iv x27,iv x28,iv x29,.slice A30 l32.length c31,.slice A34 l36.length c35,.slice A38 l40.length c39] ag26 sz26 hb2 rfl) .nil) ⟨_,rfl,_,_,_,_,_,_,_,rfl,S,g33,g37⟩
mutual
def qBH.j34:Nat→qE × Int→Bool→Option qE
 | 0,_,_=>none
 | k+1,t10,y33=>if y33=true then (qBH.j42 k t10 (w64 (t10.1.f0+1))) else (qBH.j42 k t10 t10.1.f0)
def qBH.j42:Nat→qE × Int→Int→Option qE
 | 0,_,_=>none
 | k+1,t10,x41=>some (⟨x41,t10.1.f1,t10.1.f2,t10.1.f3,t10.1.f4,t10.1.f5,t10.1.f6⟩:qE)
end
theorem qBH.j34_s k t10 y33:type_of% (qBH.j34.eq_2 t10 y33 k):=qBH.j34.eq_2 t10 y33 k
theorem qBH.j42_s k t10 x41:type_of% (qBH.j42.eq_2 t10 x41 k):=qBH.j42.eq_2 t10 x41 k
def qBH.f(k:Nat)(x:qE)(y:qF):Option qE:=(qAr.f k x y).bind fun t10=>(if t10.2=0 then (qBH.j34 k t10 false) else (if t10.1.f0<2147483647 then ((qAB.f k x).bind fun t31=>(qBH.j34 k t10 (t31 == 0))) else (qBH.j34 k t10 false)))
def qBH.Post(W F:World)(r:qE)(v:Value)(w':World):Prop:=∃(F':World)(RA0_4:OA)(rc0_4:Nat)(RA0_5:OA)(rc0_5:Nat)(RA0_6:OA)(rc0_6:Nat),v = .agg #[iv r.f0,iv r.f1,iv r.f2,iv r.f3,.slice RA0_4 r.f4.length rc0_4,.slice RA0_5 r.f5.length rc0_5,.slice RA0_6 r.f6.length rc0_6]∧Sm W F w' F' [row qC.k 73 (.slice RA0_6 r.f6.length rc0_6) r.f6]∧Rd qA.k F' RA0_4 rc0_4 r.f4∧Rd qD.k F' RA0_5 rc0_5 r.f5
theorem qBH.calls(k:Nat)(x:qE)(y:qF)(A0_4:OA)(c0_4:Nat)(A0_5:OA)(c0_5:Nat)(A0_6:OA)(c0_6:Nat)(A1_6:OA)(c1_6:Nat)(r:qE)(W F:World)(hown:Sub F W)(g0_4:Rd qA.k F A0_4 c0_4 x.f4)(g0_5:Rd qD.k F A0_5 c0_5 x.f5)(g0_6:Rd qC.k F A0_6 c0_6 x.f6)(g1_6:Rd ki F A1_6 c1_6 y.f6)(H:qBH.f k x y=some r):
    Cr 81 #[.agg #[iv x.f0,iv x.f1,iv x.f2,iv x.f3,.slice A0_4 x.f4.length c0_4,.slice A0_5 x.f5.length c0_5,.slice A0_6 x.f6.length c0_6],.agg #[iv y.f0,iv y.f1,iv y.f2,iv y.f3,iv y.f4,iv y.f5,.slice A1_6 y.f6.length c1_6]] W (qBH.Post W F r):=by
 have S:=sT hown
 unfold qBH.f at H
 refine ent 30 rfl rfl rfl (fun a E=>?_)
 refine sq fun K1 hK1=>pl0 (plx (t:=26) E S [iv x.f0,iv x.f1,iv x.f2,iv x.f3,.slice A0_4 x.f4.length c0_4,.slice A0_5 x.f5.length c0_5,.slice A0_6 x.f6.length c0_6] fun b2 u3 hb2 S a E=>plx (t:=29) E S [iv y.f0,iv y.f1,iv y.f2,iv y.f3,iv y.f4,iv y.f5,.slice A1_6 y.f6.length c1_6] fun b4 u5 hb4 S a E=>pla (t:=26) E S [iv 0,iv 0,iv 0,iv 0,.slice none 0 0,.slice none 0 0,.slice none 0 0] fun b6 u7 hb6 S a E=>pld (hK1 _ _ (sq fun K8 hK8=>pl0 ?_)))
 have hb2:=S.ba 2
 refine plc E (.bn 0 0 7 hb2<|.bn 1 0 7 (S.ba 1)<|.nil) (fun a E=>?_)
 obtain ⟨t10,h11,H⟩:=bd H
 refine ple E (.cl en39 (qAr.calls k x y _ _ _ _ _ _ _ _ _ _ _ S.own.sub g0_4 g0_5 g0_6 g1_6 h11)) ?_
 rintro _ u9 a ⟨F12,A13,c14,A16,c17,A19,c20,rfl,hC,g15,g18⟩ E
 have hs:=hC.sub
 replace S:=S.called (X:=[]) hC
 replace g0_4:=g0_4.mono hs
 replace g0_5:=g0_5.mono hs
 replace g0_6:=g0_6.mono hs
 replace g1_6:=g1_6.mono hs
 refine plc E (.r 3 3 .nil) (fun a E=>pla (t:=26) E S [iv 0,iv 0,iv 0,iv 0,.slice none 0 0,.slice none 0 0,.slice none 0 0] fun b23 u24 hb23 S a E=>pls E S [iv t10.1.f0,iv t10.1.f1,iv t10.1.f2,iv t10.1.f3,.slice A13 t10.1.f4.length c14,.slice A16 t10.1.f5.length c17,.slice A19 t10.1.f6.length c20] fun u25 hb23 S a E=>plc E (.r 8 1 .nil) (fun a E=>pld (hK8 _ _ (sq fun K26 hK26=>?_))))
 have J45:∀ kq43,kq43≤k→∀(G:NV)(x41:Int)(a:Act)(w':World),Env 30 G a→At G [(4,.pointer (pb b6)),(5,.pointer (pb b23))]→Sm W F w' F12 [box b23 #[iv x41,iv t10.1.f1,iv t10.1.f2,iv t10.1.f3,.slice A13 t10.1.f4.length c14,.slice A16 t10.1.f5.length c17,.slice A19 t10.1.f6.length c20] 26,box b6 #[iv 0,iv 0,iv 0,iv 0,.slice none 0 0,.slice none 0 0,.slice none 0 0] 26,box b4 #[iv y.f0,iv y.f1,iv y.f2,iv y.f3,iv y.f4,iv y.f5,.slice A1_6 y.f6.length c1_6] 29,box b2 #[iv x.f0,iv x.f1,iv x.f2,iv x.f3,.slice A0_4 x.f4.length c0_4,.slice A0_5 x.f5.length c0_5,.slice A0_6 x.f6.length c0_6] 26,row qC.k 73 (.slice A19 t10.1.f6.length c20) t10.1.f6]→qBH.j42 kq43 t10 x41=some r→K26 a w':=by
  intro kq43 hkq G x41 a u46 E A S H
  obtain _ | k44:=kq43
  exact zz H
  rw [qBH.j42_s]at H
  obtain ⟨J,E⟩:=E.at A
  refine hK26 _ _ (sq fun K47 hK47=>pl0 (plc E (.bn 0 0 7 (S.ba 0) .nil) (fun a E=>?_)))
  replace S:=S.front 1 rfl
  refine pls E S [iv x41,iv t10.1.f1,iv t10.1.f2,iv t10.1.f3,.slice A13 t10.1.f4.length c14,.slice A16 t10.1.f5.length c17,.slice A19 t10.1.f6.length c20] fun u48 hb6 S a E=>pld (hK47 _ _ (wp_ret ?_))
  replace S:=S.pm [] 4
  obtain rfl:=si H
  exact ret1 E rfl (.cell (by kernel_rfl) (qCj [iv x41,iv t10.1.f1,iv t10.1.f2,iv t10.1.f3,.slice A13 t10.1.f4.length c14,.slice A16 t10.1.f5.length c17,.slice A19 t10.1.f6.length c20] ag26 sz26 hb6 rfl) .nil) ⟨_,rfl,_,_,_,_,_,_,_,rfl,S,g15,g18⟩
 refine sq fun K27 hK27=>?_
 have J37:∀ kq35,kq35≤k→∀(G:NV)(y33:Bool)(a:Act)(w':World),Env 30 G a→At G [(4,.pointer (pb b6)),(5,.pointer (pb b23)),(24,.bool y33)]→Sm W F w' F12 [box b23 #[iv t10.1.f0,iv t10.1.f1,iv t10.1.f2,iv t10.1.f3,.slice A13 t10.1.f4.length c14,.slice A16 t10.1.f5.length c17,.slice A19 t10.1.f6.length c20] 26,box b6 #[iv 0,iv 0,iv 0,iv 0,.slice none 0 0,.slice none 0 0,.slice none 0 0] 26,box b4 #[iv y.f0,iv y.f1,iv y.f2,iv y.f3,iv y.f4,iv y.f5,.slice A1_6 y.f6.length c1_6] 29,box b2 #[iv x.f0,iv x.f1,iv x.f2,iv x.f3,.slice A0_4 x.f4.length c0_4,.slice A0_5 x.f5.length c0_5,.slice A0_6 x.f6.length c0_6] 26,row qC.k 73 (.slice A19 t10.1.f6.length c20) t10.1.f6]→qBH.j34 kq35 t10 y33=some r→K27 a w':=by
  intro kq35 hkq G y33 a u38 E A S H
  obtain _ | k36:=kq35
  exact zz H
  rw [qBH.j34_s]at H
  obtain ⟨J,E⟩:=E.at A
  refine hK27 _ _ (E.ib 24 H (fun c39 E H=>?_) fun c39 E H=>?_)
  refine pl0 (plc E (.r 0 1<|.b 1 0 (S.ba 0)<|.r 2 2<|.nil) (fun a E=>pls E S [iv (w64 (t10.1.f0+1)),iv t10.1.f1,iv t10.1.f2,iv t10.1.f3,.slice A13 t10.1.f4.length c14,.slice A16 t10.1.f5.length c17,.slice A19 t10.1.f6.length c20] fun u40 hb23 S a E=>pld ?_))
  exact J45 _ (by omega) _ (w64 (t10.1.f0+1)) _ _ E .of S H
  refine wp_skip ?_
  exact J45 _ (by omega) _ t10.1.f0 _ _ E .of S H
 refine pl0 (plc E (.r 0 3 .nil) (fun a E=>E.fkn 15 H (fun c28 E H=>?_) fun c28 E H=>?_))
 refine plc E (.r 3 9 .nil) (fun a E=>pld ?_)
 replace S:=S.pm [0,2,3,4,1] 5
 exact J37 _ (by omega) _ false _ _ E .of S H
 refine plc E (.r 3 1<|.b 4 0 hb23<|.r 5 3<|.nil) (fun a E=>E.fk 20 H (fun c29 E H=>?_) fun c29 E H=>?_)
 refine plc E (.bn 8 0 7 (S.ba 4) .nil) (fun a E=>?_)
 obtain ⟨t31,h32,H⟩:=bd H
 refine plq E S en65 (qAB.calls k x _ _ _ _ _ _ _ _ _ S.own.sub g0_4 g0_5 g0_6 h32) fun u30 S a E=>plc E (.r 10 2 .nil) (fun a E=>pld ?_)
 replace S:=S.pm [0,2,3,4,1] 5
 exact J37 _ (by omega) _ (t31 == 0) _ _ E .of S H
 refine plc E (.r 8 4 .nil) (fun a E=>pld ?_)
 replace S:=S.pm [0,2,3,4,1] 5
 exact J37 _ (by omega) _ false _ _ E .of S H
def qBh.l44:Nat→List qF→Int→Int→Int→Int→Int→List qA→List qD→List qC→Option qE
 | 0,_,_,_,_,_,_,_,_,_=>none
 | k+1,y,x27,x28,x29,x30,x31,l34,l38,l42=>if x27<(y.length:Int) then (if 0≤x27∧x27<(y.length:Int) then ((qBH.f k (⟨x28,x29,x30,x31,l34,l38,l42⟩:qE) (nth qF.z y x27)).bind fun t67=>(qBh.l44 k y (w64 (x27+1)) t67.f0 t67.f1 t67.f2 t67.f3 t67.f4 t67.f5 t67.f6)) else (none)) else ((qAB.f k (⟨x28,x29,x30,x31,l34,l38,l42⟩:qE)).bind fun t88=>(if t88=0 then (some (⟨x28,x29,x30,x31,l34,l38,l42⟩:qE)) else (some (⟨0,0,0,0,[],[],[]⟩:qE))))
theorem qBh.l44_s k y x27 x28 x29 x30 x31 l34 l38 l42:type_of% (qBh.l44.eq_2 y x27 x28 x29 x30 x31 l34 l38 l42 k):=qBh.l44.eq_2 y x27 x28 x29 x30 x31 l34 l38 l42 k
def qBh.f(k:Nat)(x:qE)(y:List qF):Option qE:=(qAx.f k x).bind fun t8=>(qBh.l44 k y 0 t8.f0 t8.f1 t8.f2 t8.f3 t8.f4 t8.f5 t8.f6)
def qBh.Post(W F:World)(r:qE)(v:Value)(w':World):Prop:=∃(F':World)(RA0_4:OA)(rc0_4:Nat)(RA0_5:OA)(rc0_5:Nat)(RA0_6:OA)(rc0_6:Nat),v = .agg #[iv r.f0,iv r.f1,iv r.f2,iv r.f3,.slice RA0_4 r.f4.length rc0_4,.slice RA0_5 r.f5.length rc0_5,.slice RA0_6 r.f6.length rc0_6]∧Sm W F w' F' [row qC.k 73 (.slice RA0_6 r.f6.length rc0_6) r.f6]∧Rd qA.k F' RA0_4 rc0_4 r.f4∧Rd qD.k F' RA0_5 rc0_5 r.f5
theorem qBh.calls(k:Nat)(x:qE)(y:List qF)(A0_4:OA)(c0_4:Nat)(A0_5:OA)(c0_5:Nat)(A0_6:OA)(c0_6:Nat)(A1_0:OA)(c1_0:Nat)(r:qE)(W F:World)(hown:Sub F W)(g0_4:Rd qA.k F A0_4 c0_4 x.f4)(g0_5:Rd qD.k F A0_5 c0_5 x.f5)(g0_6:Rd qC.k F A0_6 c0_6 x.f6)(g1_0:Rd qF.k F A1_0 c1_0 y)(H:qBh.f k x y=some r):
    Cr 80 #[.agg #[iv x.f0,iv x.f1,iv x.f2,iv x.f3,.slice A0_4 x.f4.length c0_4,.slice A0_5 x.f5.length c0_5,.slice A0_6 x.f6.length c0_6],.slice A1_0 y.length c1_0] W (qBh.Post W F r):=by
 have S:=sT hown
 unfold qBh.f at H
 refine ent 24 rfl rfl rfl (fun a E=>?_)
 refine sq fun K1 hK1=>pl0 (plx (t:=26) E S [iv x.f0,iv x.f1,iv x.f2,iv x.f3,.slice A0_4 x.f4.length c0_4,.slice A0_5 x.f5.length c0_5,.slice A0_6 x.f6.length c0_6] fun b2 u3 hb2 S a E=>pla (t:=26) E S [iv 0,iv 0,iv 0,iv 0,.slice none 0 0,.slice none 0 0,.slice none 0 0] fun b4 u5 hb4 S a E=>pld (hK1 _ _ (sq fun K6 hK6=>pl0 (plc E (.bn 0 0 7 (S.ba 1) .nil) (fun a E=>?_)))))
 obtain ⟨t8,h9,H⟩:=bd H
 refine ple E (.cl en69 (qAx.calls k x _ _ _ _ _ _ _ _ _ S.own.sub g0_4 g0_5 g0_6 h9)) ?_
 rintro _ u7 a ⟨F10,A11,c12,A15,c16,A19,c20,rfl,hC⟩ E
 have hs:=hC.sub
 replace S:=S.called (X:=[]) hC
 replace g0_4:=g0_4.mono hs
 replace g0_5:=g0_5.mono hs
 replace g0_6:=g0_6.mono hs
 replace g1_0:=g1_0.mono hs
 replace S:=S.front 4 rfl
 refine pls E S [iv t8.f0,iv t8.f1,iv t8.f2,iv t8.f3,.slice A11 t8.f4.length c12,.slice A15 t8.f5.length c16,.slice A19 t8.f6.length c20] fun u23 hb2 S a E=>pld (hK6 _ _ (sq fun K24 hK24=>rr E fun a E=>(wp_block ?_)))
 replace S:=S.front 1 rfl
 obtain ⟨F81,hs,g82,S⟩:=S.give
 replace g0_4:=g0_4.mono hs
 replace g0_5:=g0_5.mono hs
 replace g0_6:=g0_6.mono hs
 replace g1_0:=g1_0.mono hs
 replace S:=S.front 1 rfl
 obtain ⟨F83,hs,g84,S⟩:=S.give
 replace g0_4:=g0_4.mono hs
 replace g0_5:=g0_5.mono hs
 replace g0_6:=g0_6.mono hs
 replace g1_0:=g1_0.mono hs
 replace g82:=g82.mono hs
 replace S:=S.pm [0,2,1] 3
 refine wp_loop_ghost (fun kq45 a w'=>∃(G:NV)(x27:Int)(x28:Int)(x29:Int)(x30:Int)(x31:Int)(A32:OA)(c33:Nat)(l34:List qA)(A36:OA)(c37:Nat)(l38:List qD)(A40:OA)(c41:Nat)(l42:List qC)(F43:World),kq45≤k∧Env 24 G a∧At G [(2,.pointer (pb b2)),(4,.pointer (pb b4)),(9,.slice A1_0 y.length c1_0),(10,iv (y.length:Int)),(11,iv x27)]∧Sm W F w' F43 [box b2 #[iv x28,iv x29,iv x30,iv x31,.slice A32 l34.length c33,.slice A36 l38.length c37,.slice A40 l42.length c41] 26,box b4 #[iv 0,iv 0,iv 0,iv 0,.slice none 0 0,.slice none 0 0,.slice none 0 0] 26,row qC.k 73 (.slice A40 l42.length c41) l42]∧Rd qA.k F43 A32 c33 l34∧Rd qD.k F43 A36 c37 l38∧Rd qF.k F43 A1_0 c1_0 y∧qBh.l44 kq45 y x27 x28 x29 x30 x31 l34 l38 l42=some r) k ⟨_,0,t8.f0,t8.f1,t8.f2,t8.f3,A11,c12,t8.f4,A15,c16,t8.f5,A19,c20,t8.f6,F83,Nat.le_refl _,E,.of,S,g82,g84,g1_0,H⟩ ?_
 rintro kq45 a u47 ⟨G,x27,x28,x29,x30,x31,A32,c33,l34,A36,c37,l38,A40,c41,l42,F43,hkq,E,A,S,g35,g39,g1_0,H⟩
 obtain _ | k46:=kq45
 exact zz H
 rw [qBh.l44_s]at H
 obtain ⟨J,E⟩:=E.at A
 refine rr E fun a E=>(sq fun K49 hK49=>E.ik 12 H (fun c50 E H=>?_) fun c50 E H=>?_)
 refine wp_skip (hK49 _ _ (sq fun K51 hK51=>wp_block (sq fun K52 hK52=>pl0 ?_)))
 obtain ⟨c53,H⟩:=gd H
 have hE_:=E
 obtain ⟨ad54,rfl⟩:=g1_0.addr c53.1 c53.2
 replace E:=hE_
 obtain ⟨cs56,⟨A58,c59,rfl,g60⟩,hc57⟩:=g1_0.el qF.z x27 c53.1 c53.2
 refine plc E (.x 0 c53<|.cs 1 (S.fcs hc57)<|.nil) (fun a E=>pla (t:=29) E S [iv 0,iv 0,iv 0,iv 0,iv 0,iv 0,.slice none 0 0] fun b61 u62 hb61 S a E=>pls E S [iv ((nth qF.z y x27).f0),iv ((nth qF.z y x27).f1),iv ((nth qF.z y x27).f2),iv ((nth qF.z y x27).f3),iv ((nth qF.z y x27).f4),iv ((nth qF.z y x27).f5),.slice A58 (((nth qF.z y x27).f6).length) c59] fun u63 hb61 S a E=>pld (hK52 _ _ (pl0 (plc E (.bn 0 0 7 (S.ba 1)<|.bn 1 0 7 hb61<|.nil) (fun a E=>?_)))))
 replace S:=S.front 3 rfl
 obtain ⟨F64,hs,g65,S⟩:=S.give
 replace g1_0:=g1_0.mono hs
 replace g60:=g60.mono hs
 replace g35:=g35.mono hs
 replace g39:=g39.mono hs
 obtain ⟨t67,h68,H⟩:=bd H
 refine ple E (.cl en81 (qBH.calls k46 (⟨x28,x29,x30,x31,l34,l38,l42⟩:qE) (nth qF.z y x27) _ _ _ _ _ _ _ _ _ _ _ S.own.sub g35 g39 g65 g60 h68)) ?_
 rintro _ u66 a ⟨F69,A70,c71,A73,c74,A76,c77,rfl,hC,g72,g75⟩ E
 have hs:=hC.sub
 replace S:=S.called (X:=[]) hC
 replace g1_0:=g1_0.mono hs
 replace g60:=g60.mono hs
 replace g35:=g35.mono hs
 replace g39:=g39.mono hs
 replace g65:=g65.mono hs
 replace S:=S.front 2 rfl
 refine pls E S [iv t67.f0,iv t67.f1,iv t67.f2,iv t67.f3,.slice A70 t67.f4.length c71,.slice A73 t67.f5.length c74,.slice A76 t67.f6.length c77] fun u80 hb2 S a E=>pld ?_
 refine qCS ?_
 refine hK51 _ _ (pl0 (plc E (.r 0 2 .nil) (fun a E=>pld ?_)))
 replace S:=S.pm [0,3,1] 4
 exact qCT ⟨k46,by omega,_,(w64 (x27+1)),t67.f0,t67.f1,t67.f2,t67.f3,A70,c71,t67.f4,A73,c74,t67.f5,A76,c77,t67.f6,F69,by omega,E,.of,S,g72,g75,g1_0,H⟩
 refine wp_exit ?_
 refine hK24 _ _ (sq fun K85 hK85=>sq fun K86 hK86=>pl0 ?_)
 have hb2:=S.ba 0
 refine plc E (.bn 0 0 7 hb2 .nil) (fun a E=>?_)
 obtain ⟨t88,h89,H⟩:=bd H
 refine plq E S en65 (qAB.calls k46 (⟨x28,x29,x30,x31,l34,l38,l42⟩:qE) _ _ _ _ _ _ _ _ _ (Sub.refl _) (g35.mono S.own.sub) (g39.mono S.own.sub) (S.rd_at (i:=2) rfl) h89) fun u87 S a E=>plc E (.r 2 1 .nil) (fun a E=>pld (hK86 _ _ (E.ikn 21 H (fun c90 E H=>?_) fun c90 E H=>?_)))
 refine wp_skip (hK85 _ _ (sq fun K94 hK94=>pl0 (plc E (.bn 0 0 7 (S.ba 0) .nil) (fun a E=>?_))))
 replace S:=S.front 1 rfl
 refine pls E S [iv x28,iv x29,iv x30,iv x31,.slice A32 l34.length c33,.slice A36 l38.length c37,.slice A40 l42.length c41] fun u95 hb4 S a E=>pld (hK94 _ _ (wp_ret ?_))
 replace S:=S.pm [] 2
 obtain rfl:=si H
 exact ret1 E rfl (.cell (by kernel_rfl) (qCj [iv x28,iv x29,iv x30,iv x31,.slice A32 l34.length c33,.slice A36 l38.length c37,.slice A40 l42.length c41] ag26 sz26 hb4 rfl) .nil) ⟨_,rfl,_,_,_,_,_,_,_,rfl,S,g35,g39⟩
 refine sq fun K91 hK91=>pl0 (plc E (.r 0 1 .nil) (fun a E=>?_))
 replace S:=S.front 1 rfl
 refine pls E S [iv 0,iv 0,iv 0,iv 0,.slice none 0 0,.slice none 0 0,.slice none 0 0] fun u92 hb4 S a E=>pld (hK91 _ _ (wp_ret (qCQ ?_)))
 replace S:=S.nilrow qC.k 73
 replace S:=S.pm [0] 4
 obtain rfl:=si H
 exact ret1 E rfl (.cell (by kernel_rfl) (qCj [iv 0,iv 0,iv 0,iv 0,.slice none 0 0,.slice none 0 0,.slice none 0 0] ag26 sz26 hb4 rfl) .nil) ⟨_,rfl,_,_,_,_,_,_,_,rfl,S,(Rd.nil _ _),(Rd.nil _ _)⟩
mutual
def qBP.l44:Nat→List qF→Int→Int→Int→Int→Int→Int→List qA→List qD→List qC→Option (qE × Int)
 | 0,_,_,_,_,_,_,_,_,_,_=>none
 | k+1,y,x26,x27,x28,x29,x30,x31,l34,l38,l42=>if x27<(y.length:Int) then (if 0≤x27∧x27<(y.length:Int) then ((qAr.f k (⟨x28,x29,x30,x31,l34,l38,l42⟩:qE) (nth qF.z y x27)).bind fun t69=>(if t69.2=0 then (qBP.j93 k y x27 x28 x29 x30 x31 l34 l38 x26 l42) else (qBP.j93 k y x27 x28 x29 x30 x31 l34 l38 (w64 (x26+1)) l42))) else (none)) else (some ((⟨x28,x29,x30,x31,l34,l38,l42⟩:qE),x26))
def qBP.j93:Nat→List qF→Int→Int→Int→Int→Int→List qA→List qD→Int→List qC→Option (qE × Int)
 | 0,_,_,_,_,_,_,_,_,_,_=>none
 | k+1,y,x27,x28,x29,x30,x31,l34,l38,x87,l90=>(qBH.f k (⟨x28,x29,x30,x31,l34,l38,l90⟩:qE) (nth qF.z y x27)).bind fun t99=>(qBP.l44 k y x87 (w64 (x27+1)) t99.f0 t99.f1 t99.f2 t99.f3 t99.f4 t99.f5 t99.f6)
end
theorem qBP.l44_s k y x26 x27 x28 x29 x30 x31 l34 l38 l42:type_of% (qBP.l44.eq_2 y x26 x27 x28 x29 x30 x31 l34 l38 l42 k):=qBP.l44.eq_2 y x26 x27 x28 x29 x30 x31 l34 l38 l42 k
theorem qBP.j93_s k y x27 x28 x29 x30 x31 l34 l38 x87 l90:type_of% (qBP.j93.eq_2 y x27 x28 x29 x30 x31 l34 l38 x87 l90 k):=qBP.j93.eq_2 y x27 x28 x29 x30 x31 l34 l38 x87 l90 k
def qBP.f(k:Nat)(x:qE)(y:List qF):Option (qE × Int):=(qBh.f k x []).bind fun t8=>(qBP.l44 k y 0 0 t8.f0 t8.f1 t8.f2 t8.f3 t8.f4 t8.f5 t8.f6)
def qBP.Post(W F:World)(r:qE × Int)(v:Value)(w':World):Prop:=∃(F':World)(RA0_4:OA)(rc0_4:Nat)(RA0_5:OA)(rc0_5:Nat)(RA0_6:OA)(rc0_6:Nat),v = .tuple #[.agg #[iv r.1.f0,iv r.1.f1,iv r.1.f2,iv r.1.f3,.slice RA0_4 r.1.f4.length rc0_4,.slice RA0_5 r.1.f5.length rc0_5,.slice RA0_6 r.1.f6.length rc0_6],iv r.2]∧Sm W F w' F' [row qC.k 73 (.slice RA0_6 r.1.f6.length rc0_6) r.1.f6]∧Rd qA.k F' RA0_4 rc0_4 r.1.f4∧Rd qD.k F' RA0_5 rc0_5 r.1.f5
theorem qBP.calls(k:Nat)(x:qE)(y:List qF)(A0_4:OA)(c0_4:Nat)(A0_5:OA)(c0_5:Nat)(A0_6:OA)(c0_6:Nat)(A1_0:OA)(c1_0:Nat)(r:qE × Int)(W F:World)(hown:Sub F W)(g0_4:Rd qA.k F A0_4 c0_4 x.f4)(g0_5:Rd qD.k F A0_5 c0_5 x.f5)(g0_6:Rd qC.k F A0_6 c0_6 x.f6)(g1_0:Rd qF.k F A1_0 c1_0 y)(H:qBP.f k x y=some r):
    Cr 55 #[.agg #[iv x.f0,iv x.f1,iv x.f2,iv x.f3,.slice A0_4 x.f4.length c0_4,.slice A0_5 x.f5.length c0_5,.slice A0_6 x.f6.length c0_6],.slice A1_0 y.length c1_0] W (qBP.Post W F r):=by
 have S:=sT hown
 unfold qBP.f at H
 refine ent 35 rfl rfl rfl (fun a E=>?_)
 refine sq fun K1 hK1=>pl0 (plx (t:=26) E S [iv x.f0,iv x.f1,iv x.f2,iv x.f3,.slice A0_4 x.f4.length c0_4,.slice A0_5 x.f5.length c0_5,.slice A0_6 x.f6.length c0_6] fun b2 u3 hb2 S a E=>pla (t:=26) E S [iv 0,iv 0,iv 0,iv 0,.slice none 0 0,.slice none 0 0,.slice none 0 0] fun b4 u5 hb4 S a E=>plc E (.r 2 1 .nil) (fun a E=>pld (hK1 _ _ (sq fun K6 hK6=>pl0 (plc E (.bn 0 0 7 (S.ba 1) .nil) (fun a E=>?_))))))
 obtain ⟨t8,h9,H⟩:=bd H
 refine ple E (.cl en80 (qBh.calls k x [] _ _ _ _ _ _ _ _ _ _ _ S.own.sub g0_4 g0_5 g0_6 (Rd.nil _ _) h9)) ?_
 rintro _ u7 a ⟨F10,A11,c12,A14,c15,A17,c18,rfl,hC,g13,g16⟩ E
 have hs:=hC.sub
 replace S:=S.called (X:=[]) hC
 replace g0_4:=g0_4.mono hs
 replace g0_5:=g0_5.mono hs
 replace g0_6:=g0_6.mono hs
 replace g1_0:=g1_0.mono hs
 replace S:=S.front 2 rfl
 refine pls E S [iv t8.f0,iv t8.f1,iv t8.f2,iv t8.f3,.slice A11 t8.f4.length c12,.slice A14 t8.f5.length c15,.slice A17 t8.f6.length c18] fun u21 hb2 S a E=>pld (hK6 _ _ (rr E fun a E=>(sq fun K23 hK23=>rr E fun a E=>(wp_block ?_))))
 replace S:=S.pm [0,2,1] 3
 refine wp_loop_ghost (fun kq45 a w'=>∃(G:NV)(x26:Int)(x27:Int)(x28:Int)(x29:Int)(x30:Int)(x31:Int)(A32:OA)(c33:Nat)(l34:List qA)(A36:OA)(c37:Nat)(l38:List qD)(A40:OA)(c41:Nat)(l42:List qC)(F43:World),kq45≤k∧Env 35 G a∧At G [(2,.pointer (pb b2)),(4,.pointer (pb b4)),(6,iv x26),(13,.slice A1_0 y.length c1_0),(14,iv (y.length:Int)),(15,iv x27)]∧Sm W F w' F43 [box b2 #[iv x28,iv x29,iv x30,iv x31,.slice A32 l34.length c33,.slice A36 l38.length c37,.slice A40 l42.length c41] 26,box b4 #[iv 0,iv 0,iv 0,iv 0,.slice none 0 0,.slice none 0 0,.slice none 0 0] 26,row qC.k 73 (.slice A40 l42.length c41) l42]∧Rd qA.k F43 A32 c33 l34∧Rd qD.k F43 A36 c37 l38∧Rd qF.k F43 A1_0 c1_0 y∧qBP.l44 kq45 y x26 x27 x28 x29 x30 x31 l34 l38 l42=some r) k ⟨_,0,0,t8.f0,t8.f1,t8.f2,t8.f3,A11,c12,t8.f4,A14,c15,t8.f5,A17,c18,t8.f6,F10,Nat.le_refl _,E,.of,S,g13,g16,g1_0,H⟩ ?_
 rintro kq45 a u47 ⟨G,x26,x27,x28,x29,x30,x31,A32,c33,l34,A36,c37,l38,A40,c41,l42,F43,hkq,E,A,S,g35,g39,g1_0,H⟩
 obtain _ | k46:=kq45
 exact zz H
 rw [qBP.l44_s]at H
 obtain ⟨J,E⟩:=E.at A
 refine rr E fun a E=>(sq fun K49 hK49=>E.ik 16 H (fun c50 E H=>?_) fun c50 E H=>?_)
 refine wp_skip (hK49 _ _ (sq fun K51 hK51=>wp_block (sq fun K52 hK52=>pl0 ?_)))
 obtain ⟨c53,H⟩:=gd H
 have hE_:=E
 obtain ⟨ad54,rfl⟩:=g1_0.addr c53.1 c53.2
 replace E:=hE_
 obtain ⟨cs56,⟨A58,c59,rfl,g60⟩,hc57⟩:=g1_0.el qF.z x27 c53.1 c53.2
 refine plc E (.x 0 c53<|.cs 1 (S.fcs hc57)<|.nil) (fun a E=>pla (t:=29) E S [iv 0,iv 0,iv 0,iv 0,iv 0,iv 0,.slice none 0 0] fun b61 u62 hb61 S a E=>pls E S [iv ((nth qF.z y x27).f0),iv ((nth qF.z y x27).f1),iv ((nth qF.z y x27).f2),iv ((nth qF.z y x27).f3),iv ((nth qF.z y x27).f4),iv ((nth qF.z y x27).f5),.slice A58 (((nth qF.z y x27).f6).length) c59] fun u63 hb61 S a E=>pld (hK52 _ _ (sq fun K64 hK64=>?_)))
 have J96:∀ kq94,kq94≤k46→∀(G:NV)(x87:Int)(A88:OA)(c89:Nat)(l90:List qC)(F92:World)(a:Act)(w':World),Env 35 G a→At G [(2,.pointer (pb b2)),(4,.pointer (pb b4)),(6,iv x87),(8,.pointer (pb b61)),(13,.slice (some ad54) y.length c1_0),(14,iv (y.length:Int)),(15,iv x27)]→Sm W F w' F92 [box b61 #[iv ((nth qF.z y x27).f0),iv ((nth qF.z y x27).f1),iv ((nth qF.z y x27).f2),iv ((nth qF.z y x27).f3),iv ((nth qF.z y x27).f4),iv ((nth qF.z y x27).f5),.slice A58 (((nth qF.z y x27).f6).length) c59] 29,box b2 #[iv x28,iv x29,iv x30,iv x31,.slice A32 l34.length c33,.slice A36 l38.length c37,.slice A88 l90.length c89] 26,box b4 #[iv 0,iv 0,iv 0,iv 0,.slice none 0 0,.slice none 0 0,.slice none 0 0] 26]→Rd qC.k F92 A88 c89 l90→Rd qF.k F92 (some ad54) c1_0 y→Rd ki F92 A58 c59 ((nth qF.z y x27).f6)→Rd qA.k F92 A32 c33 l34→Rd qD.k F92 A36 c37 l38→qBP.j93 kq94 y x27 x28 x29 x30 x31 l34 l38 x87 l90=some r→K64 a w':=by
  intro kq94 hkq G x87 A88 c89 l90 F92 a u97 E A S g91 g1_0 g60 g35 g39 H
  obtain _ | k95:=kq94
  exact zz H
  rw [qBP.j93_s]at H
  obtain ⟨J,E⟩:=E.at A
  refine hK64 _ _ (pl0 (plc E (.bn 0 0 7 (S.ba 1)<|.bn 1 0 7 (S.ba 0)<|.nil) (fun a E=>?_)))
  obtain ⟨t99,h100,H⟩:=bd H
  refine ple E (.cl en81 (qBH.calls k95 (⟨x28,x29,x30,x31,l34,l38,l90⟩:qE) (nth qF.z y x27) _ _ _ _ _ _ _ _ _ _ _ S.own.sub g35 g39 g91 g60 h100)) ?_
  rintro _ u98 a ⟨F101,A102,c103,A105,c106,A108,c109,rfl,hC,g104,g107⟩ E
  have hs:=hC.sub
  replace S:=S.called (X:=[]) hC
  replace g1_0:=g1_0.mono hs
  replace g35:=g35.mono hs
  replace g39:=g39.mono hs
  replace g91:=g91.mono hs
  replace g60:=g60.mono hs
  replace S:=S.front 2 rfl
  refine pls E S [iv t99.f0,iv t99.f1,iv t99.f2,iv t99.f3,.slice A102 t99.f4.length c103,.slice A105 t99.f5.length c106,.slice A108 t99.f6.length c109] fun u112 hb2 S a E=>pld ?_
  refine qCS ?_
  refine hK51 _ _ (pl0 (plc E (.r 0 2 .nil) (fun a E=>pld ?_)))
  replace S:=S.pm [0,3,1] 4
  exact qCT ⟨k95,by omega,_,x87,(w64 (x27+1)),t99.f0,t99.f1,t99.f2,t99.f3,A102,c103,t99.f4,A105,c106,t99.f5,A108,c109,t99.f6,F101,by omega,E,.of,S,g104,g107,g1_0,H⟩
 refine sq fun K65 hK65=>pl0 (plc E (.bn 0 0 7 (S.ba 1)<|.bn 1 0 7 hb61<|.nil) (fun a E=>?_))
 replace S:=S.front 3 rfl
 obtain ⟨F66,hs,g67,S⟩:=S.give
 replace g1_0:=g1_0.mono hs
 replace g60:=g60.mono hs
 replace g35:=g35.mono hs
 replace g39:=g39.mono hs
 obtain ⟨t69,h70,H⟩:=bd H
 refine ple E (.cl en39 (qAr.calls k46 (⟨x28,x29,x30,x31,l34,l38,l42⟩:qE) (nth qF.z y x27) _ _ _ _ _ _ _ _ _ _ _ S.own.sub g35 g39 g67 g60 h70)) ?_
 rintro _ u68 a ⟨F71,A72,c73,A75,c76,A78,c79,rfl,hC,g74,g77⟩ E
 have hs:=hC.sub
 replace S:=S.called (X:=[]) hC
 replace g1_0:=g1_0.mono hs
 replace g60:=g60.mono hs
 replace g35:=g35.mono hs
 replace g39:=g39.mono hs
 replace g67:=g67.mono hs
 refine plc E (.r 3 3 .nil) (fun a E=>pla (t:=26) E S [iv 0,iv 0,iv 0,iv 0,.slice none 0 0,.slice none 0 0,.slice none 0 0] fun b82 u83 hb82 S a E=>pls E S [iv t69.1.f0,iv t69.1.f1,iv t69.1.f2,iv t69.1.f3,.slice A72 t69.1.f4.length c73,.slice A75 t69.1.f5.length c76,.slice A78 t69.1.f6.length c79] fun u84 hb82 S a E=>plc E (.r 8 1 .nil) (fun a E=>pld (hK65 _ _ (rr E fun a E=>(E.ikn 26 H (fun c86 E H=>?_) fun c86 E H=>?_)))))
 refine wp_skip ?_
 replace S:=S.pm [] 2
 exact J96 _ (by omega) _ x26 A40 c41 l42 F71 _ _ E .of S g67 g1_0 g60 g35 g39 H
 refine pl0 (plc E (.r 0 3 .nil) (fun a E=>pld ?_))
 replace S:=S.pm [] 2
 exact J96 _ (by omega) _ (w64 (x26+1)) A40 c41 l42 F71 _ _ E .of S g67 g1_0 g60 g35 g39 H
 refine wp_exit ?_
 refine hK23 _ _ (sq fun K113 hK113=>pl0 (plc E (.bn 0 0 7 (S.ba 0)<|.r 1 1<|.nil) (fun a E=>?_)))
 replace S:=S.front 1 rfl
 refine pls E S [iv x28,iv x29,iv x30,iv x31,.slice A32 l34.length c33,.slice A36 l38.length c37,.slice A40 l42.length c41] fun u114 hb4 S a E=>plc E (.r 3 1 .nil) (fun a E=>pld (hK113 _ _ (wp_ret ?_)))
 replace S:=S.pm [] 2
 obtain rfl:=si H
 exact rtm E (.b hb4 ag26 sz26 (.t .nil)) ⟨_,rfl,_,_,_,_,_,_,_,rfl,S,g35,g39⟩
def qAj.f(k:Nat):Option Bool:=(qAo.f k 3 1).bind fun t4=>((qBT.f k t4 (⟨1,2,0,0,0⟩:qAE)).bind fun t28=>((qBP.f k t4 t28.1).bind fun t39=>(if t28.2=0 then (if (t28.1.length:Int)=3 then (if t39.2=0 then ((qAw.f k t39.1 (⟨1,2,0,0,0⟩:qAE)).bind fun t60=>(if t60=true then ((qAw.f k t4 (⟨1,2,0,0,0⟩:qAE)).bind fun t64=>(some (!t64))) else (some false))) else (some false)) else (some false)) else (some false))))
def qAj.Post(W F:World)(r:Bool)(v:Value)(w':World):Prop:=∃(F':World),v = .bool r∧Sm W F w' F' []
theorem qAj.calls(k:Nat)(r:Bool)(W F:World)(hown:Sub F W)(H:qAj.f k=some r):
    Cr 31 #[] W (qAj.Post W F r):=by
 have S:=sT hown
 unfold qAj.f at H
 refine ent 43 rfl rfl rfl (fun a E=>?_)
 refine rr E fun a E=>(sq fun K2 hK2=>pl0 ?_)
 obtain ⟨t4,h5,H⟩:=bd H
 refine ple E (.cl en37 (qAo.calls k 3 1 _ _ _ S.own.sub h5)) ?_
 rintro _ u3 a ⟨F6,A7,c8,A10,c11,A13,c14,rfl,hC,g9,g12⟩ E
 have hs:=hC.sub
 replace S:=S.called (X:=[]) hC
 refine pla (t:=26) E S [iv 0,iv 0,iv 0,iv 0,.slice none 0 0,.slice none 0 0,.slice none 0 0] fun b17 u18 hb17 S a E=>pls E S [iv t4.f0,iv t4.f1,iv t4.f2,iv t4.f3,.slice A7 t4.f4.length c8,.slice A10 t4.f5.length c11,.slice A13 t4.f6.length c14] fun u19 hb17 S a E=>pld (hK2 _ _ (sq fun K20 hK20=>pl0 (plc E (.r 0 1 .nil) (fun a E=>pla (t:=65) E S [iv 0,iv 0,iv 0,iv 0,iv 0] fun b21 u22 hb21 S a E=>pls E S [iv 1,iv 2,iv 0,iv 0,iv 0] fun u23 hb21 S a E=>pld (hK20 _ _ (sq fun K24 hK24=>pl0 (plc E (.bn 0 0 7 (S.ba 1)<|.bn 1 0 5 hb21<|.nil) (fun a E=>?_))))))))
 replace S:=S.front 2 rfl
 obtain ⟨F25,hs,g26,S⟩:=S.give
 replace g9:=g9.mono hs
 replace g12:=g12.mono hs
 obtain ⟨t28,h29,H⟩:=bd H
 refine ple E (.cl en32 (qBT.calls k t4 (⟨1,2,0,0,0⟩:qAE) _ _ _ _ _ _ _ _ _ S.own.sub g9 g12 g26 h29)) ?_
 rintro _ u27 a ⟨F30,A31,c32,rfl,hC⟩ E
 have hs:=hC.sub
 replace S:=S.called (X:=[]) hC
 replace g9:=g9.mono hs
 replace g12:=g12.mono hs
 replace g26:=g26.mono hs
 refine plc E (.r 3 5 .nil) (fun a E=>pld (hK24 _ _ (sq fun K35 hK35=>pl0 ?_)))
 have hb17:=S.ba 2
 refine plc E (.bn 0 0 7 hb17<|.r 1 1<|.nil) (fun a E=>?_)
 obtain ⟨F36,hs,g37,S⟩:=S.give
 replace g9:=g9.mono hs
 replace g12:=g12.mono hs
 replace g26:=g26.mono hs
 obtain ⟨t39,h40,H⟩:=bd H
 refine ple E (.cl en55 (qBP.calls k t4 t28.1 _ _ _ _ _ _ _ _ _ _ _ S.own.sub g9 g12 g26 g37 h40)) ?_
 rintro _ u38 a ⟨F41,A42,c43,A45,c46,A48,c49,rfl,hC,g44,g47⟩ E
 have hs:=hC.sub
 replace S:=S.called (X:=[]) hC
 replace g37:=g37.mono hs
 replace g9:=g9.mono hs
 replace g12:=g12.mono hs
 replace g26:=g26.mono hs
 refine plc E (.r 3 3 .nil) (fun a E=>pla (t:=26) E S [iv 0,iv 0,iv 0,iv 0,.slice none 0 0,.slice none 0 0,.slice none 0 0] fun b52 u53 hb52 S a E=>pls E S [iv t39.1.f0,iv t39.1.f1,iv t39.1.f2,iv t39.1.f3,.slice A42 t39.1.f4.length c43,.slice A45 t39.1.f5.length c46,.slice A48 t39.1.f6.length c49] fun u54 hb52 S a E=>plc E (.r 8 1 .nil) (fun a E=>pld (hK35 _ _ (sq fun K55 hK55=>pl0 (plc E (.r 0 3 .nil) (fun a E=>E.fk 23 H (fun c56 E H=>?_) fun c56 E H=>?_))))))
 refine plc E (.r 3 5 .nil) (fun a E=>E.fk 28 H (fun c57 E H=>?_) fun c57 E H=>?_)
 refine plc E (.r 8 4 .nil) (fun a E=>E.fk 32 H (fun c58 E H=>?_) fun c58 E H=>?_)
 have hb21:=S.ba 2
 refine plc E (.bn 12 0 7 hb52<|.bn 13 0 5 hb21<|.nil) (fun a E=>?_)
 obtain ⟨t60,h61,H⟩:=bd H
 refine plq E S en36 (qAw.calls k t39.1 (⟨1,2,0,0,0⟩:qAE) _ _ _ _ _ _ _ _ _ (Sub.refl _) (g44.mono S.own.sub) (g47.mono S.own.sub) (S.rd_at (i:=1) rfl) h61) fun u59 S a E=>plc E (.r 15 2 .nil) (fun a E=>E.fb 37 H (fun c62 E H=>?_) fun c62 E H=>?_)
 refine plc E (.bn 17 0 7 (S.ba 3)<|.bn 18 0 5 (S.ba 2)<|.nil) (fun a E=>?_)
 obtain ⟨t64,h65,H⟩:=bd H
 refine plq E S en36 (qAw.calls k t4 (⟨1,2,0,0,0⟩:qAE) _ _ _ _ _ _ _ _ _ S.own.sub g9 g12 g26 h65) fun u63 S a E=>plc E (.r 20 3 .nil) (fun a E=>pld (hK55 _ _ (wp_ret ?_)))
 replace S:=S.pm [] 4
 obtain rfl:=si H
 exact rt1 E ⟨_,rfl,_,rfl,S⟩
 refine plc E (.r 17 6 .nil) (fun a E=>pld (hK55 _ _ (wp_ret ?_)))
 replace S:=S.pm [] 4
 obtain rfl:=si H
 exact rt1 E ⟨_,rfl,_,rfl,S⟩
 refine plc E (.r 12 11 .nil) (fun a E=>pld (hK55 _ _ (wp_ret ?_)))
 replace S:=S.pm [] 4
 obtain rfl:=si H
 exact rt1 E ⟨_,rfl,_,rfl,S⟩
 refine plc E (.r 8 15 .nil) (fun a E=>pld (hK55 _ _ (wp_ret ?_)))
 replace S:=S.pm [] 4
 obtain rfl:=si H
 exact rt1 E ⟨_,rfl,_,rfl,S⟩
 refine plc E (.r 3 20 .nil) (fun a E=>pld (hK55 _ _ (wp_ret ?_)))
 replace S:=S.pm [] 4
 obtain rfl:=si H
 exact rt1 E ⟨_,rfl,_,rfl,S⟩
def qBJ.l42:Nat→qE→qE × Int→List Int→Int→List qC→Option (List Int)
 | 0,_,_,_,_,_=>none
 | k+1,x,t8,l35,x36,l39=>if x36<x.f3 then ((qBS.f k x x36).bind fun t53=>((qBS.f k (⟨t8.1.f0,t8.1.f1,t8.1.f2,t8.1.f3,t8.1.f4,t8.1.f5,l39⟩:qE) x36).bind fun t61=>((qq.f k t53 t61).bind fun t69=>(if t69=true then (qBJ.l42 k x t8 l35 (w64 (x36+1)) l39) else (if ((l35.length:Int)+((1:Nat):Int)) * 8≤140737488355328 then (qBJ.l42 k x t8 (l35++[x36]) (w64 (x36+1)) l39) else (none)))))) else (some l35)
theorem qBJ.l42_s k x t8 l35 x36 l39:type_of% (qBJ.l42.eq_2 x t8 l35 x36 l39 k):=qBJ.l42.eq_2 x t8 l35 x36 l39 k
def qBJ.f(k:Nat)(x:qE)(y:qF):Option (List Int):=(qAr.f k x y).bind fun t8=>(if t8.2=0 then (qBJ.l42 k x t8 [] 0 t8.1.f6) else (some []))
def qBJ.Post(W F:World)(r:List Int)(v:Value)(w':World):Prop:=∃(F':World)(RA0_0:OA)(rc0_0:Nat),v = .slice RA0_0 r.length rc0_0∧Sm W F w' F' [row ki 3 (.slice RA0_0 r.length rc0_0) r]
theorem qBJ.calls(k:Nat)(x:qE)(y:qF)(A0_4:OA)(c0_4:Nat)(A0_5:OA)(c0_5:Nat)(A0_6:OA)(c0_6:Nat)(A1_6:OA)(c1_6:Nat)(r:List Int)(W F:World)(hown:Sub F W)(g0_4:Rd qA.k F A0_4 c0_4 x.f4)(g0_5:Rd qD.k F A0_5 c0_5 x.f5)(g0_6:Rd qC.k F A0_6 c0_6 x.f6)(g1_6:Rd ki F A1_6 c1_6 y.f6)(H:qBJ.f k x y=some r):
    Cr 35 #[.agg #[iv x.f0,iv x.f1,iv x.f2,iv x.f3,.slice A0_4 x.f4.length c0_4,.slice A0_5 x.f5.length c0_5,.slice A0_6 x.f6.length c0_6],.agg #[iv y.f0,iv y.f1,iv y.f2,iv y.f3,iv y.f4,iv y.f5,.slice A1_6 y.f6.length c1_6]] W (qBJ.Post W F r):=by
 have S:=sT hown
 unfold qBJ.f at H
 refine ent 36 rfl rfl rfl (fun a E=>?_)
 refine sq fun K1 hK1=>pl0 (plx (t:=26) E S [iv x.f0,iv x.f1,iv x.f2,iv x.f3,.slice A0_4 x.f4.length c0_4,.slice A0_5 x.f5.length c0_5,.slice A0_6 x.f6.length c0_6] fun b2 u3 hb2 S a E=>plx (t:=29) E S [iv y.f0,iv y.f1,iv y.f2,iv y.f3,iv y.f4,iv y.f5,.slice A1_6 y.f6.length c1_6] fun b4 u5 hb4 S a E=>plc E (.r 2 1 .nil) (fun a E=>pld (hK1 _ _ (sq fun K6 hK6=>pl0 ?_))))
 have hb2:=S.ba 1
 refine plc E (.bn 0 0 7 hb2<|.bn 1 0 7 hb4<|.nil) (fun a E=>?_)
 obtain ⟨t8,h9,H⟩:=bd H
 refine ple E (.cl en39 (qAr.calls k x y _ _ _ _ _ _ _ _ _ _ _ S.own.sub g0_4 g0_5 g0_6 g1_6 h9)) ?_
 rintro _ u7 a ⟨F10,A11,c12,A14,c15,A17,c18,rfl,hC,g13,g16⟩ E
 have hs:=hC.sub
 replace S:=S.called (X:=[]) hC
 replace g0_4:=g0_4.mono hs
 replace g0_5:=g0_5.mono hs
 replace g0_6:=g0_6.mono hs
 replace g1_6:=g1_6.mono hs
 refine plc E (.r 3 3 .nil) (fun a E=>pla (t:=26) E S [iv 0,iv 0,iv 0,iv 0,.slice none 0 0,.slice none 0 0,.slice none 0 0] fun b21 u22 hb21 S a E=>pls E S [iv t8.1.f0,iv t8.1.f1,iv t8.1.f2,iv t8.1.f3,.slice A11 t8.1.f4.length c12,.slice A14 t8.1.f5.length c15,.slice A17 t8.1.f6.length c18] fun u23 hb21 S a E=>plc E (.r 8 1 .nil) (fun a E=>pld (hK6 _ _ (sq fun K24 hK24=>rr E fun a E=>(E.ikn 16 H (fun c26 E H=>?_) fun c26 E H=>?_)))))
 refine wp_skip (hK24 _ _ (rr E fun a E=>(sq fun K30 hK30=>sq fun K31 hK31=>pl0 ?_)))
 have hb2:=S.ba 3
 refine plc E (.r 0 1<|.b 1 3 hb2<|.r 2 1<|.nil) (fun a E=>pld (hK31 _ _ (wp_block ?_)))
 replace S:=S.front 1 rfl
 obtain ⟨F80,hs,g81,S⟩:=S.give
 replace g0_4:=g0_4.mono hs
 replace g0_5:=g0_5.mono hs
 replace g0_6:=g0_6.mono hs
 replace g1_6:=g1_6.mono hs
 replace g13:=g13.mono hs
 replace g16:=g16.mono hs
 replace S:=S.nilrow ki 3
 replace S:=S.pm [1,2,3,0] 4
 refine wp_loop_ghost (fun kq43 a w'=>∃(G:NV)(A33:OA)(c34:Nat)(l35:List Int)(x36:Int)(A37:OA)(c38:Nat)(l39:List qC)(F41:World),kq43≤k∧Env 36 G a∧At G [(2,.pointer (pb b2)),(5,.pointer (pb b21)),(7,.slice A33 l35.length c34),(18,iv x.f3),(19,iv x36)]∧Sm W F w' F41 [box b21 #[iv t8.1.f0,iv t8.1.f1,iv t8.1.f2,iv t8.1.f3,.slice A11 t8.1.f4.length c12,.slice A14 t8.1.f5.length c15,.slice A37 l39.length c38] 26,box b4 #[iv y.f0,iv y.f1,iv y.f2,iv y.f3,iv y.f4,iv y.f5,.slice A1_6 y.f6.length c1_6] 29,box b2 #[iv x.f0,iv x.f1,iv x.f2,iv x.f3,.slice A0_4 x.f4.length c0_4,.slice A0_5 x.f5.length c0_5,.slice A0_6 x.f6.length c0_6] 26,row ki 3 (.slice A33 l35.length c34) l35]∧Rd qC.k F41 A37 c38 l39∧Rd qA.k F41 A11 c12 t8.1.f4∧Rd qD.k F41 A14 c15 t8.1.f5∧Rd ki F41 A1_6 c1_6 y.f6∧Rd qA.k F41 A0_4 c0_4 x.f4∧Rd qD.k F41 A0_5 c0_5 x.f5∧Rd qC.k F41 A0_6 c0_6 x.f6∧qBJ.l42 kq43 x t8 l35 x36 l39=some r) k ⟨_,none,0,[],0,A17,c18,t8.1.f6,F80,Nat.le_refl _,E,.of,S,g81,g13,g16,g1_6,g0_4,g0_5,g0_6,H⟩ ?_
 rintro kq43 a u45 ⟨G,A33,c34,l35,x36,A37,c38,l39,F41,hkq,E,A,S,g40,g13,g16,g1_6,g0_4,g0_5,g0_6,H⟩
 obtain _ | k44:=kq43
 exact zz H
 rw [qBJ.l42_s]at H
 obtain ⟨J,E⟩:=E.at A
 refine rr E fun a E=>(sq fun K47 hK47=>E.ik 20 H (fun c48 E H=>?_) fun c48 E H=>?_)
 refine wp_skip (hK47 _ _ (sq fun K49 hK49=>wp_block (rr E fun a E=>(sq fun K51 hK51=>?_))))
 refine drawn 8 ⟨[],[],fun q=>False⟩ mixed rfl (by kernel_rfl) (fun hst=>?_)
 replace S:=S.drew
 have hb2:=S.ba 2
 have hb21:=S.ba 0
 refine mny 4 hst E (.bn 0 0 7 hb2<|.r 1 1<|.bn 3 0 7 hb21<|.r 4 1<|.nil) (fun a E=>?_)
 obtain ⟨t53,h54,H⟩:=bd H
 refine on1 2 E (.cl en64 (qBS.calls k44 x x36 _ _ _ _ _ _ _ _ _ S.own.sub g0_4 g0_5 g0_6 h54)) ?_
 rintro _ u52 a ⟨F55,A56,c57,rfl,hC⟩ E
 refine ⟨.of hC.agr,?_⟩
 have hs:=hC.sub
 replace S:=S.called (X:=[]) hC
 replace g0_4:=g0_4.mono hs
 replace g0_5:=g0_5.mono hs
 replace g0_6:=g0_6.mono hs
 replace g13:=g13.mono hs
 replace g16:=g16.mono hs
 replace g40:=g40.mono hs
 replace g1_6:=g1_6.mono hs
 obtain ⟨t61,h62,H⟩:=bd H
 refine on1 5 E (.cl en64 (qBS.calls k44 (⟨t8.1.f0,t8.1.f1,t8.1.f2,t8.1.f3,t8.1.f4,t8.1.f5,l39⟩:qE) x36 _ _ _ _ _ _ _ _ _ S.own.sub g13 g16 g40 h62)) ?_
 rintro _ u60 a ⟨F63,A64,c65,rfl,hC⟩ E
 refine ⟨.of hC.agr,?_⟩
 have hs:=hC.sub
 replace S:=S.called (X:=[]) hC
 replace g0_4:=g0_4.mono hs
 replace g0_5:=g0_5.mono hs
 replace g0_6:=g0_6.mono hs
 replace g13:=g13.mono hs
 replace g16:=g16.mono hs
 replace g40:=g40.mono hs
 replace g1_6:=g1_6.mono hs
 obtain ⟨t69,h70,H⟩:=bd H
 refine on1 6 E (.cl en63 (qq.calls k44 t53 t61 _ _ _ _ _ _ _ (Sub.refl _) (S.rd_at (i:=1) rfl) (S.rd_at (i:=0) rfl) h70)) ?_
 rintro _ u68 a ⟨_,rfl,hC⟩ E
 refine ⟨.of hC.agr,?_⟩
 replace S:=S.lent hC
 refine mny 0 hst E (.r 7 1 .nil) (fun a E=>?_)
 refine dn ?_
 refine hK51 _ _ (E.ibn 29 H (fun c71 E H=>?_) fun c71 E H=>?_)
 refine wp_skip ?_
 refine qCS ?_
 refine hK49 _ _ (pl0 (plc E (.r 0 2 .nil) (fun a E=>pld ?_)))
 replace S:=S.pm [] 2
 exact qCT ⟨k44,by omega,_,A33,c34,l35,(w64 (x36+1)),A37,c38,l39,F63,by omega,E,.of,S,g40,g13,g16,g1_6,g0_4,g0_5,g0_6,H⟩
 refine pl0 (plc E (.r 0 2 .nil) (fun a E=>ple E (.lit (d:=ki) (e:=3) S [x36] (.cons rfl .nil)) ?_))
 rintro _ u72 a ⟨A73,c74,rfl,S,hg⟩ E
 obtain ⟨c76,H⟩:=gd H
 replace S:=S.front 6 rfl
 refine ple E (.ap (d:=ki) 8 S (qCX (S.row_at (i:=1) rfl)) c76 c74) ?_
 rintro _ u79 a ⟨A77,c78,rfl,S,hz⟩ E
 refine plc E (.r 4 1 .nil) (fun a E=>pld ?_)
 refine qCS ?_
 refine hK49 _ _ (pl0 (plc E (.r 0 2 .nil) (fun a E=>pld ?_)))
 replace S:=S.pm [4,5,6,0] 7
 exact qCT ⟨k44,by omega,_,A77,c78,(l35++[x36]),(w64 (x36+1)),A37,c38,l39,F63,by omega,E,.of,S,g40,g13,g16,g1_6,g0_4,g0_5,g0_6,H⟩
 refine wp_exit ?_
 refine hK30 _ _ (rr E fun a E=>(wp_ret ?_))
 replace S:=S.pm [] 3
 obtain rfl:=si H
 exact rt1 E ⟨_,rfl,_,_,_,rfl,S⟩
 refine rr E fun a E=>(wp_ret (qCQ ?_))
 replace S:=S.nilrow ki 3
 replace S:=S.pm [0] 5
 obtain rfl:=si H
 exact rt1 E ⟨_,rfl,_,_,_,rfl,S⟩
mutual
def qN.j17:Nat→qE→qAE→Bool→Option Bool
 | 0,_,_,_=>none
 | k+1,x,y,y16=>if y16=true then ((qAj.f k).bind fun t25=>(some t25)) else ((qBT.f k x y).bind fun t29=>(if t29.2=0 then (qN.l67 k y t29 0 x.f0 x.f1 x.f2 x.f3 x.f4 x.f5 x.f6) else ((qAj.f k).bind fun t41=>(some t41))))
def qN.l67:Nat→qAE→(List qF) × Int→Int→Int→Int→Int→Int→List qA→List qD→List qC→Option Bool
 | 0,_,_,_,_,_,_,_,_,_,_=>none
 | k+1,y,t29,x49,x50,x51,x52,x53,l56,l60,l64=>if x49<(t29.1.length:Int) then (if 0≤x49∧x49<(t29.1.length:Int) then ((qBJ.f k (⟨x50,x51,x52,x53,l56,l60,l64⟩:qE) (nth qF.z t29.1 x49)).bind fun t86=>(qN.l99 k y t29 x49 x50 x51 x52 x53 l56 l60 l64 t86 0 0)) else (none)) else ((qAw.f k (⟨x50,x51,x52,x53,l56,l60,l64⟩:qE) y).bind fun t182=>(if t182=true then ((qAj.f k).bind fun t186=>(some t186)) else (some false)))
def qN.l99:Nat→qAE→(List qF) × Int→Int→Int→Int→Int→Int→List qA→List qD→List qC→List Int→Int→Int→Option Bool
 | 0,_,_,_,_,_,_,_,_,_,_,_,_,_=>none
 | k+1,y,t29,x49,x50,x51,x52,x53,l56,l60,l64,t86,x96,x97=>if x97<(t86.length:Int) then (if 0≤x97∧x97<(t86.length:Int) then ((qAT.f k (⟨x50,x51,x52,x53,l56,l60,l64⟩:qE) (nth 0 t86 x97)).bind fun t115=>(if (t115.length:Int)>0 then (qN.l99 k y t29 x49 x50 x51 x52 x53 l56 l60 l64 t86 (w64 (x96+1)) (w64 (x97+1))) else (qN.l99 k y t29 x49 x50 x51 x52 x53 l56 l60 l64 t86 x96 (w64 (x97+1))))) else (none)) else ((qr.f k (⟨x50,x51,x52,x53,l56,l60,l64⟩:qE) (nth qF.z t29.1 x49)).bind fun t130=>(if x96>1 then (some false) else (if t130.2=0 then (qN.j164 k y t29 x49 t130 false) else (qN.j164 k y t29 x49 t130 (!((nth qF.z t29.1 x49).f0 == 7))))))
def qN.j164:Nat→qAE→(List qF) × Int→Int→qE × Int→Bool→Option Bool
 | 0,_,_,_,_,_=>none
 | k+1,y,t29,x49,t130,y163=>if y163=true then (some false) else (if t130.2=0 then (qN.l67 k y t29 (w64 (x49+1)) t130.1.f0 t130.1.f1 t130.1.f2 t130.1.f3 t130.1.f4 t130.1.f5 t130.1.f6) else (if t130.2=11 then ((qAj.f k).bind fun t177=>(some t177)) else (some false)))
end
theorem qN.j17_s k x y y16:type_of% (qN.j17.eq_2 x y y16 k):=qN.j17.eq_2 x y y16 k
theorem qN.l67_s k y t29 x49 x50 x51 x52 x53 l56 l60 l64:type_of% (qN.l67.eq_2 y t29 x49 x50 x51 x52 x53 l56 l60 l64 k):=qN.l67.eq_2 y t29 x49 x50 x51 x52 x53 l56 l60 l64 k
theorem qN.l99_s k y t29 x49 x50 x51 x52 x53 l56 l60 l64 t86 x96 x97:type_of% (qN.l99.eq_2 y t29 x49 x50 x51 x52 x53 l56 l60 l64 t86 x96 x97 k):=qN.l99.eq_2 y t29 x49 x50 x51 x52 x53 l56 l60 l64 t86 x96 x97 k
theorem qN.j164_s k y t29 x49 t130 y163:type_of% (qN.j164.eq_2 y t29 x49 t130 y163 k):=qN.j164.eq_2 y t29 x49 t130 y163 k
def qN.f(k:Nat)(x:qE)(y:qAE):Option Bool:=(qW.f k x).bind fun t9=>(if t9=true then ((qe.f k x).bind fun t13=>(if t13=true then (qN.j17 k x y (decide (x.f0>1000000))) else (qN.j17 k x y true))) else (qN.j17 k x y true))
def qN.Post(W F:World)(r:Bool)(v:Value)(w':World):Prop:=∃(F':World),v = .bool r∧Sm W F w' F' []
theorem qN.calls(k:Nat)(x:qE)(y:qAE)(A0_4:OA)(c0_4:Nat)(A0_5:OA)(c0_5:Nat)(A0_6:OA)(c0_6:Nat)(r:Bool)(W F:World)(hown:Sub F W)(g0_4:Rd qA.k F A0_4 c0_4 x.f4)(g0_5:Rd qD.k F A0_5 c0_5 x.f5)(g0_6:Rd qC.k F A0_6 c0_6 x.f6)(H:qN.f k x y=some r):
    Cr 8 #[.agg #[iv x.f0,iv x.f1,iv x.f2,iv x.f3,.slice A0_4 x.f4.length c0_4,.slice A0_5 x.f5.length c0_5,.slice A0_6 x.f6.length c0_6],.agg #[iv y.f0,iv y.f1,iv y.f2,iv y.f3,iv y.f4]] W (qN.Post W F r):=by
 have S:=sT hown
 unfold qN.f at H
 refine ent 101 rfl rfl rfl (fun a E=>?_)
 refine sq fun K1 hK1=>pl0 (plx (t:=26) E S [iv x.f0,iv x.f1,iv x.f2,iv x.f3,.slice A0_4 x.f4.length c0_4,.slice A0_5 x.f5.length c0_5,.slice A0_6 x.f6.length c0_6] fun b2 u3 hb2 S a E=>plx (t:=65) E S [iv y.f0,iv y.f1,iv y.f2,iv y.f3,iv y.f4] fun b4 u5 hb4 S a E=>plc E (.r 2 1 .nil) (fun a E=>pld (hK1 _ _ (sq fun K6 hK6=>sq fun K7 hK7=>?_))))
 have J20:∀ kq18,kq18≤k→∀(G:NV)(y16:Bool)(a:Act)(w':World),Env 101 G a→At G [(2,.pointer (pb b2)),(3,.pointer (pb b4)),(26,.bool y16)]→Sm W F w' F [box b4 #[iv y.f0,iv y.f1,iv y.f2,iv y.f3,iv y.f4] 65,box b2 #[iv x.f0,iv x.f1,iv x.f2,iv x.f3,.slice A0_4 x.f4.length c0_4,.slice A0_5 x.f5.length c0_5,.slice A0_6 x.f6.length c0_6] 26]→qN.j17 kq18 x y y16=some r→K7 a w':=by
  intro kq18 hkq G y16 a u21 E A S H
  obtain _ | k19:=kq18
  exact zz H
  rw [qN.j17_s]at H
  obtain ⟨J,E⟩:=E.at A
  refine hK7 _ _ (E.ib 26 H (fun c22 E H=>?_) fun c22 E H=>?_)
  refine sq fun K23 hK23=>pl0 ?_
  obtain ⟨t25,h26,H⟩:=bd H
  refine plq E S en31 (qAj.calls k19 _ _ _ S.own.sub h26) fun u24 S a E=>plc E (.r 1 1 .nil) (fun a E=>pld (hK23 _ _ (wp_ret (qCQ ?_))))
  replace S:=S.pm [] 2
  obtain rfl:=si H
  exact rt1 E ⟨_,rfl,_,rfl,S⟩
  refine wp_skip (hK6 _ _ (sq fun K27 hK27=>pl0 ?_))
  have hb2:=S.ba 1
  have hb4:=S.ba 0
  refine plc E (.bn 0 0 7 hb2<|.bn 1 0 5 hb4<|.nil) (fun a E=>?_)
  obtain ⟨t29,h30,H⟩:=bd H
  refine ple E (.cl en32 (qBT.calls k19 x y _ _ _ _ _ _ _ _ _ S.own.sub g0_4 g0_5 g0_6 h30)) ?_
  rintro _ u28 a ⟨F31,A32,c33,rfl,hC⟩ E
  have hs:=hC.sub
  replace S:=S.called (X:=[]) hC
  replace g0_4:=g0_4.mono hs
  replace g0_5:=g0_5.mono hs
  replace g0_6:=g0_6.mono hs
  refine plc E (.r 3 5 .nil) (fun a E=>pld (hK27 _ _ (sq fun K36 hK36=>rr E fun a E=>(E.ikn 35 H (fun c38 E H=>?_) fun c38 E H=>?_))))
  refine wp_skip (hK36 _ _ (sq fun K43 hK43=>pl0 (plc E (.bn 0 0 7 (S.ba 2) .nil) (fun a E=>pla (t:=26) E S [iv 0,iv 0,iv 0,iv 0,.slice none 0 0,.slice none 0 0,.slice none 0 0] fun b44 u45 hb44 S a E=>pls E S [iv x.f0,iv x.f1,iv x.f2,iv x.f3,.slice A0_4 x.f4.length c0_4,.slice A0_5 x.f5.length c0_5,.slice A0_6 x.f6.length c0_6] fun u46 hb44 S a E=>pld (hK43 _ _ (sq fun K47 hK47=>rr E fun a E=>(wp_block ?_)))))))
  replace S:=S.pm [0,2,3,1] 4
  refine wp_loop_ghost (fun kq68 a w'=>∃(G:NV)(x49:Int)(x50:Int)(x51:Int)(x52:Int)(x53:Int)(A54:OA)(c55:Nat)(l56:List qA)(A58:OA)(c59:Nat)(l60:List qD)(A62:OA)(c63:Nat)(l64:List qC)(F66:World),kq68≤k19∧Env 101 G a∧At G [(3,.pointer (pb b4)),(5,.slice A32 t29.1.length c33),(7,.pointer (pb b44)),(8,iv x49)]∧Sm W F w' F66 [box b44 #[iv x50,iv x51,iv x52,iv x53,.slice A54 l56.length c55,.slice A58 l60.length c59,.slice A62 l64.length c63] 26,box b4 #[iv y.f0,iv y.f1,iv y.f2,iv y.f3,iv y.f4] 65,box b2 #[iv x.f0,iv x.f1,iv x.f2,iv x.f3,.slice A0_4 x.f4.length c0_4,.slice A0_5 x.f5.length c0_5,.slice A0_6 x.f6.length c0_6] 26,row qF.k 29 (.slice A32 t29.1.length c33) t29.1]∧Rd qA.k F66 A54 c55 l56∧Rd qD.k F66 A58 c59 l60∧Rd qC.k F66 A62 c63 l64∧Rd qA.k F66 A0_4 c0_4 x.f4∧Rd qD.k F66 A0_5 c0_5 x.f5∧Rd qC.k F66 A0_6 c0_6 x.f6∧qN.l67 kq68 y t29 x49 x50 x51 x52 x53 l56 l60 l64=some r) k19 ⟨_,0,x.f0,x.f1,x.f2,x.f3,A0_4,c0_4,x.f4,A0_5,c0_5,x.f5,A0_6,c0_6,x.f6,F31,Nat.le_refl _,E,.of,S,g0_4,g0_5,g0_6,g0_4,g0_5,g0_6,H⟩ ?_
  rintro kq68 a u70 ⟨G,x49,x50,x51,x52,x53,A54,c55,l56,A58,c59,l60,A62,c63,l64,F66,hkq,E,A,S,g57,g61,g65,g0_4,g0_5,g0_6,H⟩
  obtain _ | k69:=kq68
  exact zz H
  rw [qN.l67_s]at H
  obtain ⟨J,E⟩:=E.at A
  refine sq fun K71 hK71=>rr E fun a E=>(E.ik 41 H (fun c73 E H=>?_) fun c73 E H=>?_)
  refine wp_skip (hK71 _ _ (sq fun K74 hK74=>wp_block (sq fun K75 hK75=>?_)))
  refine drawn 7 ⟨[],[],fun q=>False⟩ mixed rfl (by kernel_rfl) (fun hst=>?_)
  replace S:=S.drew
  have hb44:=S.ba 0
  obtain ⟨c76,H⟩:=gd H
  have hr77:=S.ra 3
  have hE_:=E
  obtain ⟨b78,rfl⟩:=qCW hr77 c76.1 c76.2
  replace E:=hE_
  have hr_:=S.ra 3
  obtain ⟨cs80,⟨A82,c83,rfl,g84⟩,hc81⟩:=qCV hr_ qF.z x49 c76.1 c76.2
  refine mny 2 hst E (.bn 0 0 7 hb44<|.r 1 2<|.x 3 c76<|.cs 4 hc81<|.nil) (fun a E=>?_)
  obtain ⟨t86,h87,H⟩:=bd H
  refine on1 5 E (.cl en35 (qBJ.calls k69 (⟨x50,x51,x52,x53,l56,l60,l64⟩:qE) (nth qF.z t29.1 x49) _ _ _ _ _ _ _ _ _ _ _ S.own.sub g57 g61 g65 g84 h87)) ?_
  rintro _ u85 a ⟨F88,A89,c90,rfl,hC⟩ E
  refine ⟨.of hC.agr,?_⟩
  have hs:=hC.sub
  replace S:=S.called (X:=[]) hC
  replace g57:=g57.mono hs
  replace g61:=g61.mono hs
  replace g65:=g65.mono hs
  replace g84:=g84.mono hs
  replace g0_4:=g0_4.mono hs
  replace g0_5:=g0_5.mono hs
  replace g0_6:=g0_6.mono hs
  refine mny 0 hst E (.r 6 1 .nil) (fun a E=>?_)
  refine dn ?_
  refine hK75 _ _ (rr E fun a E=>(sq fun K94 hK94=>rr E fun a E=>(wp_block ?_)))
  replace S:=S.pm [1,2,3,0] 4
  refine wp_loop_ghost (fun kq100 a w'=>∃(G:NV)(x96:Int)(x97:Int)(F98:World),kq100≤k69∧Env 101 G a∧At G [(3,.pointer (pb b4)),(5,.slice (pb b78) t29.1.length c33),(7,.pointer (pb b44)),(8,iv x49),(9,.slice A89 t86.length c90),(10,iv x96),(11,iv x97)]∧Sm W F w' F98 [box b44 #[iv x50,iv x51,iv x52,iv x53,.slice A54 l56.length c55,.slice A58 l60.length c59,.slice A62 l64.length c63] 26,box b4 #[iv y.f0,iv y.f1,iv y.f2,iv y.f3,iv y.f4] 65,box b2 #[iv x.f0,iv x.f1,iv x.f2,iv x.f3,.slice A0_4 x.f4.length c0_4,.slice A0_5 x.f5.length c0_5,.slice A0_6 x.f6.length c0_6] 26,row ki 3 (.slice A89 t86.length c90) t86,row qF.k 29 (.slice (pb b78) t29.1.length c33) t29.1]∧Rd qA.k F98 A54 c55 l56∧Rd qD.k F98 A58 c59 l60∧Rd qC.k F98 A62 c63 l64∧Rd qA.k F98 A0_4 c0_4 x.f4∧Rd qD.k F98 A0_5 c0_5 x.f5∧Rd qC.k F98 A0_6 c0_6 x.f6∧qN.l99 kq100 y t29 x49 x50 x51 x52 x53 l56 l60 l64 t86 x96 x97=some r) k69 ⟨_,0,0,F88,Nat.le_refl _,E,.of,S,g57,g61,g65,g0_4,g0_5,g0_6,H⟩ ?_
  rintro kq100 a u102 ⟨G,x96,x97,F98,hkq,E,A,S,g57,g61,g65,g0_4,g0_5,g0_6,H⟩
  obtain _ | k101:=kq100
  exact zz H
  rw [qN.l99_s]at H
  obtain ⟨J,E⟩:=E.at A
  refine sq fun K103 hK103=>rr E fun a E=>(E.ik 53 H (fun c105 E H=>?_) fun c105 E H=>?_)
  refine wp_skip (hK103 _ _ (sq fun K106 hK106=>wp_block (sq fun K107 hK107=>?_)))
  refine drawn 8 ⟨[],[],fun q=>False⟩ mixed rfl (by kernel_rfl) (fun hst=>?_)
  replace S:=S.drew
  have hb44:=S.ba 0
  obtain ⟨c108,H⟩:=gd H
  have hr109:=S.ra 3
  have hE_:=E
  obtain ⟨b110,rfl⟩:=qCW hr109 c108.1 c108.2
  replace E:=hE_
  have hr_:=S.ra 3
  obtain ⟨cs112,rfl,hc113⟩:=qCV hr_ 0 x97 c108.1 c108.2
  refine mny 3 hst E (.bn 0 0 7 hb44<|.r 1 2<|.x 3 c108<|.c 4 (hc113 0 _ rfl)<|.nil) (fun a E=>?_)
  obtain ⟨t115,h116,H⟩:=bd H
  refine on1 5 E (.cl en34 (qAT.calls k101 (⟨x50,x51,x52,x53,l56,l60,l64⟩:qE) (nth 0 t86 x97) _ _ _ _ _ _ _ _ _ S.own.sub g57 g61 g65 h116)) ?_
  rintro _ u114 a ⟨F117,A118,c119,rfl,hC,g120⟩ E
  refine ⟨.of hC.agr,?_⟩
  have hs:=hC.sub
  replace S:=S.called (X:=[]) hC
  replace g57:=g57.mono hs
  replace g61:=g61.mono hs
  replace g65:=g65.mono hs
  replace g0_4:=g0_4.mono hs
  replace g0_5:=g0_5.mono hs
  replace g0_6:=g0_6.mono hs
  refine mny 0 hst E (.r 6 2 .nil) (fun a E=>?_)
  refine dn ?_
  refine hK107 _ _ (E.ik 63 H (fun c121 E H=>?_) fun c121 E H=>?_)
  refine pl0 (plc E (.r 0 3 .nil) (fun a E=>pld ?_))
  refine qCS ?_
  refine hK106 _ _ (pl0 (plc E (.r 0 3 .nil) (fun a E=>pld ?_)))
  exact qCT ⟨k101,by omega,_,(w64 (x96+1)),(w64 (x97+1)),F117,by omega,E,.of,S,g57,g61,g65,g0_4,g0_5,g0_6,H⟩
  refine wp_skip ?_
  refine qCS ?_
  refine hK106 _ _ (pl0 (plc E (.r 0 3 .nil) (fun a E=>pld ?_)))
  exact qCT ⟨k101,by omega,_,x96,(w64 (x97+1)),F117,by omega,E,.of,S,g57,g61,g65,g0_4,g0_5,g0_6,H⟩
  refine wp_exit ?_
  refine hK94 _ _ (sq fun K122 hK122=>?_)
  refine drawn 12 ⟨[10],[],fun q=>False⟩ mixed rfl (by kernel_rfl) (fun hst=>?_)
  replace S:=S.drew
  have hb44:=S.ba 0
  have hr123:=S.ra 4
  have hr_:=S.ra 4
  obtain ⟨cs125,⟨A127,c128,rfl,g129⟩,hc126⟩:=qCV hr_ qF.z x49 c76.1 c76.2
  refine mny 7 hst E (.bn 0 0 7 hb44<|.r 1 2<|.x 3 c76<|.cs 4 hc126<|.nil) (fun a E=>?_)
  obtain ⟨t130,h131,H⟩:=bd H
  refine meet2 (fun a w'=>∃(G:NV)(b143:Nat)(A134:OA)(c135:Nat)(A137:OA)(c138:Nat)(A140:OA)(c141:Nat)(F146:World),Env 101 G a∧At G [(3,.pointer (pb b4)),(5,.slice (pb b78) t29.1.length c33),(7,.pointer (pb b44)),(8,iv x49),(10,iv x96),(12,.pointer (pb b143)),(73,.agg #[iv t130.1.f0,iv t130.1.f1,iv t130.1.f2,iv t130.1.f3,.slice A134 t130.1.f4.length c135,.slice A137 t130.1.f5.length c138,.slice A140 t130.1.f6.length c141]),(74,iv t130.2)]∧Sm W F w' F146 [box b143 #[iv 0,iv 0,iv 0,iv 0,.slice none 0 0,.slice none 0 0,.slice none 0 0] 26,box b44 #[iv x50,iv x51,iv x52,iv x53,.slice A54 l56.length c55,.slice A58 l60.length c59,.slice A62 l64.length c63] 26,box b4 #[iv y.f0,iv y.f1,iv y.f2,iv y.f3,iv y.f4] 65,box b2 #[iv x.f0,iv x.f1,iv x.f2,iv x.f3,.slice A0_4 x.f4.length c0_4,.slice A0_5 x.f5.length c0_5,.slice A0_6 x.f6.length c0_6] 26,row qF.k 29 (.slice (pb b78) t29.1.length c33) t29.1]∧Rd qA.k F146 A134 c135 t130.1.f4∧Rd qD.k F146 A137 c138 t130.1.f5∧Rd qC.k F146 A140 c141 t130.1.f6∧Rd qA.k F146 A54 c55 l56∧Rd qD.k F146 A58 c59 l60∧Rd qC.k F146 A62 c63 l64∧Rd qA.k F146 A0_4 c0_4 x.f4∧Rd qD.k F146 A0_5 c0_5 x.f5∧Rd qC.k F146 A0_6 c0_6 x.f6) 2 1023 ?_ (fun hJ=>?_)
  rintro a u147 ⟨G,b143,A134,c135,A137,c138,A140,c141,F146,E,A,S,g136,g139,g142,g57,g61,g65,g0_4,g0_5,g0_6⟩
  obtain ⟨J,E⟩:=E.at A
  refine on1 10 E (.sto S [iv t130.1.f0,iv t130.1.f1,iv t130.1.f2,iv t130.1.f3,.slice A134 t130.1.f4.length c135,.slice A137 t130.1.f5.length c138,.slice A140 t130.1.f6.length c141]) ?_
  rintro _ u148 a ⟨rfl,hb143,S,hz⟩ E
  refine ⟨.d,?_⟩
  refine mny 0 hst E (.r 11 1 .nil) (fun a E=>?_)
  refine dn ?_
  refine hK122 _ _ (sq fun K149 hK149=>rr E fun a E=>(E.ik 76 H (fun c151 E H=>?_) fun c151 E H=>?_))
  refine rr E fun a E=>(wp_ret (qCQ (qCR (qCQ (qCQ (qCR (qCQ ?_)))))))
  replace S:=S.pm [] 5
  obtain rfl:=si H
  exact rt1 E ⟨_,rfl,_,rfl,S⟩
  refine wp_skip (hK149 _ _ (sq fun K153 hK153=>sq fun K154 hK154=>?_))
  have J167:∀ kq165,kq165≤k101→∀(G:NV)(y163:Bool)(a:Act)(w':World),Env 101 G a→At G [(3,.pointer (pb b4)),(5,.slice (pb b78) t29.1.length c33),(7,.pointer (pb b44)),(8,iv x49),(12,.pointer (pb b143)),(13,iv t130.2),(86,.bool y163)]→Sm W F w' F146 [box b143 #[iv t130.1.f0,iv t130.1.f1,iv t130.1.f2,iv t130.1.f3,.slice A134 t130.1.f4.length c135,.slice A137 t130.1.f5.length c138,.slice A140 t130.1.f6.length c141] 26,box b44 #[iv x50,iv x51,iv x52,iv x53,.slice A54 l56.length c55,.slice A58 l60.length c59,.slice A62 l64.length c63] 26,box b4 #[iv y.f0,iv y.f1,iv y.f2,iv y.f3,iv y.f4] 65,box b2 #[iv x.f0,iv x.f1,iv x.f2,iv x.f3,.slice A0_4 x.f4.length c0_4,.slice A0_5 x.f5.length c0_5,.slice A0_6 x.f6.length c0_6] 26,row qF.k 29 (.slice (pb b78) t29.1.length c33) t29.1]→qN.j164 kq165 y t29 x49 t130 y163=some r→K154 a w':=by
   intro kq165 hkq G y163 a u168 E A S H
   obtain _ | k166:=kq165
   exact zz H
   rw [qN.j164_s]at H
   obtain ⟨J,E⟩:=E.at A
   refine hK154 _ _ (E.ib 86 H (fun c169 E H=>?_) fun c169 E H=>?_)
   refine rr E fun a E=>(wp_ret (qCQ (qCR (qCQ (qCQ (qCR (qCQ ?_)))))))
   replace S:=S.pm [] 5
   obtain rfl:=si H
   exact rt1 E ⟨_,rfl,_,rfl,S⟩
   refine wp_skip (hK153 _ _ (sq fun K171 hK171=>rr E fun a E=>(E.ikn 88 H (fun c173 E H=>?_) fun c173 E H=>?_)))
   refine wp_skip (hK171 _ _ (pl0 (plc E (.bn 0 0 7 (S.ba 0) .nil) (fun a E=>?_))))
   replace S:=S.front 1 rfl
   refine pls E S [iv t130.1.f0,iv t130.1.f1,iv t130.1.f2,iv t130.1.f3,.slice A134 t130.1.f4.length c135,.slice A137 t130.1.f5.length c138,.slice A140 t130.1.f6.length c141] fun u179 hb44 S a E=>pld ?_
   refine qCS ?_
   refine hK74 _ _ (pl0 (plc E (.r 0 3 .nil) (fun a E=>pld ?_)))
   replace S:=S.pm [0] 2
   exact qCT ⟨k166,by omega,_,(w64 (x49+1)),t130.1.f0,t130.1.f1,t130.1.f2,t130.1.f3,A134,c135,t130.1.f4,A137,c138,t130.1.f5,A140,c141,t130.1.f6,F146,by omega,E,.of,S,g136,g139,g142,g0_4,g0_5,g0_6,H⟩
   refine sq fun K174 hK174=>pl0 (plc E (.r 0 3 .nil) (fun a E=>E.fk 91 H (fun c175 E H=>?_) fun c175 E H=>?_))
   obtain ⟨t177,h178,H⟩:=bd H
   refine plq E S en31 (qAj.calls k166 _ _ _ S.own.sub h178) fun u176 S a E=>plc E (.r 4 2 .nil) (fun a E=>pld (hK174 _ _ (wp_ret (qCQ (qCR (qCQ (qCQ (qCR (qCQ ?_)))))))))
   replace S:=S.pm [] 5
   obtain rfl:=si H
   exact rt1 E ⟨_,rfl,_,rfl,S⟩
   refine plc E (.r 3 3 .nil) (fun a E=>pld (hK174 _ _ (wp_ret (qCQ (qCR (qCQ (qCQ (qCR (qCQ ?_)))))))))
   replace S:=S.pm [] 5
   obtain rfl:=si H
   exact rt1 E ⟨_,rfl,_,rfl,S⟩
  refine pl0 (plc E (.r 0 3 .nil) (fun a E=>E.fkn 79 H (fun c155 E H=>?_) fun c155 E H=>?_))
  refine plc E (.r 3 7 .nil) (fun a E=>pld ?_)
  exact J167 _ (by omega) _ false _ _ E .of S H
  have hr156:=S.ra 4
  have hr_:=S.ra 4
  obtain ⟨cs158,⟨A160,c161,rfl,g162⟩,hc159⟩:=qCV hr_ qF.z x49 c76.1 c76.2
  refine plc E (.r 3 2<|.x 5 c76<|.r 6 1<|.c 7 (hc159 0 _ rfl)<|.r 8 2<|.nil) (fun a E=>pld ?_)
  exact J167 _ (by omega) _ (!((nth qF.z t29.1 x49).f0 == 7)) _ _ E .of S H
  refine pk2 5 9 ?_ ?_
  refine pk1 5 E (.cl en14 (qr.calls k101 (⟨x50,x51,x52,x53,l56,l60,l64⟩:qE) (nth qF.z t29.1 x49) _ _ _ _ _ _ _ _ _ _ _ S.own.sub g57 g61 g65 g129 h131)) ?_
  rintro _ u132 a ⟨F133,A134,c135,A137,c138,A140,c141,rfl,hC,g136,g139,g142⟩ E
  refine ⟨.of hC.agr,?_⟩
  have hs:=hC.sub
  replace S:=S.called (X:=[]) hC
  replace g57:=g57.mono hs
  replace g61:=g61.mono hs
  replace g65:=g65.mono hs
  replace g129:=g129.mono hs
  replace g0_4:=g0_4.mono hs
  replace g0_5:=g0_5.mono hs
  replace g0_6:=g0_6.mono hs
  refine mny 3 hst E (.r 6 3 .nil) (fun a E=>?_)
  refine on1 9 E (.al (t:=26) S [iv 0,iv 0,iv 0,iv 0,.slice none 0 0,.slice none 0 0,.slice none 0 0]) ?_
  rintro _ u144 a ⟨b143,rfl,hb143,S,hg⟩ E
  refine ⟨.of hg,?_⟩
  replace S:=S.pm [0,1,2,3] 5
  exact hJ _ _ ⟨_,b143,A134,c135,A137,c138,A140,c141,F133,E,.of,S,g136,g139,g142,g57,g61,g65,g0_4,g0_5,g0_6⟩
  refine pk1 9 E (.al (t:=26) S [iv 0,iv 0,iv 0,iv 0,.slice none 0 0,.slice none 0 0,.slice none 0 0]) ?_
  rintro _ u144 a ⟨b143,rfl,hb143,S,hg⟩ E
  refine ⟨.of hg,?_⟩
  refine on1 5 E (.cl en14 (qr.calls k101 (⟨x50,x51,x52,x53,l56,l60,l64⟩:qE) (nth qF.z t29.1 x49) _ _ _ _ _ _ _ _ _ _ _ S.own.sub g57 g61 g65 g129 h131)) ?_
  rintro _ u132 a ⟨F133,A134,c135,A137,c138,A140,c141,rfl,hC,g136,g139,g142⟩ E
  refine ⟨.of hC.agr,?_⟩
  have hs:=hC.sub
  replace S:=S.called (X:=[]) hC
  replace g57:=g57.mono hs
  replace g61:=g61.mono hs
  replace g65:=g65.mono hs
  replace g129:=g129.mono hs
  replace g0_4:=g0_4.mono hs
  replace g0_5:=g0_5.mono hs
  replace g0_6:=g0_6.mono hs
  refine mny 2 hst E (.r 6 3 .nil) (fun a E=>?_)
  replace S:=S.pm [0,1,2,3] 5
  exact hJ _ _ ⟨_,b143,A134,c135,A137,c138,A140,c141,F133,E,.of,S,g136,g139,g142,g57,g61,g65,g0_4,g0_5,g0_6⟩
  refine wp_exit ?_
  refine hK47 _ _ (sq fun K180 hK180=>pl0 (plc E (.bn 0 0 7 (S.ba 0)<|.bn 1 0 5 (S.ba 1)<|.nil) (fun a E=>?_)))
  obtain ⟨t182,h183,H⟩:=bd H
  refine plq E S en36 (qAw.calls k69 (⟨x50,x51,x52,x53,l56,l60,l64⟩:qE) y _ _ _ _ _ _ _ _ _ S.own.sub g57 g61 g65 h183) fun u181 S a E=>plc E (.r 3 1 .nil) (fun a E=>E.fb 98 H (fun c184 E H=>?_) fun c184 E H=>?_)
  obtain ⟨t186,h187,H⟩:=bd H
  refine plq E S en31 (qAj.calls k69 _ _ _ S.own.sub h187) fun u185 S a E=>plc E (.r 5 2 .nil) (fun a E=>pld (hK180 _ _ (wp_ret ?_)))
  replace S:=S.pm [] 4
  obtain rfl:=si H
  exact rt1 E ⟨_,rfl,_,rfl,S⟩
  refine plc E (.r 4 3 .nil) (fun a E=>pld (hK180 _ _ (wp_ret ?_)))
  replace S:=S.pm [] 4
  obtain rfl:=si H
  exact rt1 E ⟨_,rfl,_,rfl,S⟩
  refine sq fun K39 hK39=>pl0 ?_
  obtain ⟨t41,h42,H⟩:=bd H
  refine plq E S en31 (qAj.calls k19 _ _ _ S.own.sub h42) fun u40 S a E=>plc E (.r 1 1 .nil) (fun a E=>pld (hK39 _ _ (wp_ret (qCQ ?_))))
  replace S:=S.pm [] 3
  obtain rfl:=si H
  exact rt1 E ⟨_,rfl,_,rfl,S⟩
 refine pl0 ?_
 have hb2:=S.ba 1
 refine plc E (.bn 0 0 7 hb2 .nil) (fun a E=>?_)
 obtain ⟨t9,h10,H⟩:=bd H
 refine plq E S en10 (qW.calls k x _ _ _ _ _ _ _ _ _ S.own.sub g0_4 g0_5 g0_6 h10) fun u8 S a E=>plc E (.r 2 2 .nil) (fun a E=>E.fbn 17 H (fun c11 E H=>?_) fun c11 E H=>?_)
 have hb2:=S.ba 1
 refine plc E (.bn 4 0 7 hb2 .nil) (fun a E=>?_)
 obtain ⟨t13,h14,H⟩:=bd H
 refine plq E S en22 (qe.calls k x _ _ _ _ _ _ _ _ _ S.own.sub g0_4 g0_5 g0_6 h14) fun u12 S a E=>plc E (.r 6 3 .nil) (fun a E=>E.fbn 22 H (fun c15 E H=>?_) fun c15 E H=>?_)
 refine plc E (.r 9 1<|.b 10 0 (S.ba 1)<|.r 11 2<|.nil) (fun a E=>pld ?_)
 exact J20 _ (by omega) _ (decide (x.f0>1000000)) _ _ E .of S H
 refine plc E (.r 9 4 .nil) (fun a E=>pld ?_)
 exact J20 _ (by omega) _ true _ _ E .of S H
 refine plc E (.r 4 9 .nil) (fun a E=>pld ?_)
 exact J20 _ (by omega) _ true _ _ E .of S H
end Go.Proofs.YthgfhlbjkmjlpaaGreat.PR
