import Derived.Test.YthgfhlbjkmjlpaaGreatPG6
namespace Go.Proofs.YthgfhlbjkmjlpaaGreat.PG
open Go Go.RowKit Go.Proofs.YthgfhlbjkmjlpaaGreat.Sl
set_option linter.unusedVariables false
set_option linter.unusedSimpArgs false
set_option maxHeartbeats 4000000
set_option maxRecDepth 100000
def qBS.j112:Nat→qAY→List qF→Option ((List qF) × Int)
 | 0,_,_=>none
 | k+1,y,l111=>if ((l111.length:Int)+((1:Nat):Int)) * 72≤140737488355328 then (some ((l111++[(⟨7,y.f1,0,0,0,0,[]⟩:qF)]),0)) else (none)
theorem qBS.j112_s(k:Nat)(y:qAY)(l111:List qF):qBS.j112 (k+1) y l111=(if ((l111.length:Int)+((1:Nat):Int)) * 72≤140737488355328 then (some ((l111++[(⟨7,y.f1,0,0,0,0,[]⟩:qF)]),0)) else (none)):=by kernel_rfl
def qBS.f(k:Nat)(x:qD)(y:qAY):Option ((List qF) × Int):=(qAB.f k x y).bind fun t9=>(if t9=0 then (if y.f0=3 then ((qCD.f y).bind fun t20=>((qAs.f k x t20).bind fun t29=>((qCD.f y).bind fun t52=>((qAV.f k t29.1 y.f1 y.f4).bind fun t58=>(if (([t52].length:Int)+(t58.length:Int)) * 72≤140737488355328 then (some (([t52]++t58),0)) else (none)))))) else (if y.f0=4 then ((qAV.f k x y.f1 0).bind fun t83=>((qBF.f k x.f4 y.f1).bind fun t93=>(if t93.1.f5=true then (if ((t83.length:Int)+((1:Nat):Int)) * 72≤140737488355328 then (qBS.j112 k y (t83++[(⟨5,y.f1,0,0,0,0,[]⟩:qF)])) else (none)) else (qBS.j112 k y t83)))) else ((qBC.f k y).bind fun t128=>((qAV.f k x y.f1 t128).bind fun t131=>(some (t131,0)))))) else (some ([],t9)))
def qBS.Post(W F:World)(r:(List qF) × Int)(v:Value)(w':World):Prop:=∃(F':World)(RA0_0:OA)(rc0_0:Nat),v = .tuple #[.slice RA0_0 r.1.length rc0_0,iv r.2]∧Sm W F w' F' [row qF.k 29 (.slice RA0_0 r.1.length rc0_0) r.1]
theorem qBS.calls(k:Nat)(x:qD)(y:qAY)(A0_4:OA)(c0_4:Nat)(A0_5:OA)(c0_5:Nat)(A0_6:OA)(c0_6:Nat)(r:(List qF) × Int)(W F:World)(hown:Sub F W)(g0_4:Rd qA.k F A0_4 c0_4 x.f4)(g0_5:Rd qE.k F A0_5 c0_5 x.f5)(g0_6:Rd qC.k F A0_6 c0_6 x.f6)(H:qBS.f k x y=some r):
    Cr 32 #[.agg #[iv x.f0,iv x.f1,iv x.f2,iv x.f3,.slice A0_4 x.f4.length c0_4,.slice A0_5 x.f5.length c0_5,.slice A0_6 x.f6.length c0_6],.agg #[iv y.f0,iv y.f1,iv y.f2,iv y.f3,iv y.f4]] W (qBS.Post W F r):=by
 have S:=sT hown
 unfold qBS.f at H
 refine ent 73 rfl rfl rfl (fun a E=>?_)
 refine sq fun K1 hK1=>pl0 (plx (t:=26) E S [iv x.f0,iv x.f1,iv x.f2,iv x.f3,.slice A0_4 x.f4.length c0_4,.slice A0_5 x.f5.length c0_5,.slice A0_6 x.f6.length c0_6] fun b2 u3 hb2 S a E=>plx (t:=65) E S [iv y.f0,iv y.f1,iv y.f2,iv y.f3,iv y.f4] fun b4 u5 hb4 S a E=>plc E (.r 2 2 .nil) (fun a E=>pld (hK1 _ _ (sq fun K6 hK6=>sq fun K7 hK7=>pl0 ?_))))
 have hb2:=S.ba 1
 refine plc E (.bn 0 0 7 hb2<|.bn 1 0 5 hb4<|.nil) (fun a E=>?_)
 obtain ⟨t9,h10,H⟩:=bd H
 refine plq E S en56 (qAB.calls k x y _ _ _ _ _ _ _ _ _ S.own.sub g0_4 g0_5 g0_6 h10) fun u8 S a E=>plc E (.r 3 1 .nil) (fun a E=>pld (hK7 _ _ (rr E fun a E=>(E.ikn 16 H (fun c12 E H=>?_) fun c12 E H=>?_))))
 refine wp_skip (hK6 _ _ (sq fun K15 hK15=>sq fun K16 hK16=>pl0 ?_))
 have hb4:=S.ba 0
 refine plc E (.r 0 1<|.b 1 0 hb4<|.nil) (fun a E=>pld (hK16 _ _ (wp_block (rr E fun a E=>(E.ik 20 H (fun c18 E H=>?_) fun c18 E H=>?_)))))
 refine sq fun K19 hK19=>?_
 refine drawn 10 ⟨[8],[],fun q=>False⟩ mixed rfl (by kernel_rfl) (fun hst=>?_)
 replace S:=S.drew
 have hb2:=S.ba 1
 have hb4:=S.ba 0
 refine mny 8 hst E (.bn 0 0 7 hb2<|.bn 1 0 5 hb4<|.nil) (fun a E=>?_)
 obtain ⟨t20,h21,H⟩:=bd H
 obtain ⟨t29,h30,H⟩:=bd H
 refine meet2 (fun a w'=>∃(G:NV)(b27:Nat)(A39:OA)(c40:Nat)(A33:OA)(c34:Nat)(A36:OA)(c37:Nat)(F47:World),Env 73 G a∧At G [(3,.pointer (pb b4)),(7,.pointer (pb b27)),(27,.agg #[iv t29.1.f0,iv t29.1.f1,iv t29.1.f2,iv t29.1.f3,.slice A33 t29.1.f4.length c34,.slice A36 t29.1.f5.length c37,.slice A39 t29.1.f6.length c40]),(28,iv t29.2)]∧Sm W F w' F47 [box b27 #[iv 0,iv 0,iv 0,iv 0,.slice none 0 0,.slice none 0 0,.slice none 0 0] 26,box b4 #[iv y.f0,iv y.f1,iv y.f2,iv y.f3,iv y.f4] 65,box b2 #[iv x.f0,iv x.f1,iv x.f2,iv x.f3,.slice A0_4 x.f4.length c0_4,.slice A0_5 x.f5.length c0_5,.slice A0_6 x.f6.length c0_6] 26,row qC.k 73 (.slice A39 t29.1.f6.length c40) t29.1.f6]∧Rd qA.k F47 A33 c34 t29.1.f4∧Rd qE.k F47 A36 c37 t29.1.f5∧Rd qA.k F47 A0_4 c0_4 x.f4∧Rd qE.k F47 A0_5 c0_5 x.f5∧Rd qC.k F47 A0_6 c0_6 x.f6) 2 255 ?_ (fun hJb=>?_)
 rintro a u48 ⟨G,b27,A39,c40,A33,c34,A36,c37,F47,E,A,S,g35,g38,g0_4,g0_5,g0_6⟩
 obtain ⟨J,E⟩:=E.at A
 refine on1 8 E (.sto S [iv t29.1.f0,iv t29.1.f1,iv t29.1.f2,iv t29.1.f3,.slice A33 t29.1.f4.length c34,.slice A36 t29.1.f5.length c37,.slice A39 t29.1.f6.length c40]) ?_
 rintro _ u49 a ⟨rfl,hb27,S,hz⟩ E
 refine ⟨.d,?_⟩
 refine mny 0 hst E (.r 9 1 .nil) (fun a E=>?_)
 refine dn ?_
 refine hK19 _ _ (sq fun K50 hK50=>?_)
 refine drawn 12 ⟨[9],[],fun q=>False⟩ mixed rfl (by kernel_rfl) (fun hst=>?_)
 replace S:=S.drew
 have hb4:=S.ba 1
 have hb27:=S.ba 0
 refine mny 6 hst E (.bn 0 0 5 hb4<|.bn 3 0 7 hb27<|.r 4 1<|.b 5 1 hb4<|.r 6 1<|.b 7 4 hb4<|.nil) (fun a E=>?_)
 obtain ⟨t52,h53,H⟩:=bd H
 refine on1 1 E (.cl en57 (qCD.calls y _ _ _ S.own.sub h53)) ?_
 rintro _ u51 a ⟨F54,A55,c56,rfl,hC,g57⟩ E
 refine ⟨.of hC.agr,?_⟩
 have hs:=hC.sub
 replace S:=S.called (X:=[]) hC
 replace g35:=g35.mono hs
 replace g38:=g38.mono hs
 replace g0_4:=g0_4.mono hs
 replace g0_5:=g0_5.mono hs
 replace g0_6:=g0_6.mono hs
 obtain ⟨t58,h59,H⟩:=bd H
 refine meet2 (fun a w'=>∃(G:NV)(A68:OA)(c69:Nat)(A61:OA)(c62:Nat)(F73:World),Env 73 G a∧At G [(31,.slice A61 ([t52].length) c62),(37,.slice A68 t58.length c69)]∧Sm W F w' F73 [box b27 #[iv t29.1.f0,iv t29.1.f1,iv t29.1.f2,iv t29.1.f3,.slice A33 t29.1.f4.length c34,.slice A36 t29.1.f5.length c37,.slice A39 t29.1.f6.length c40] 26,box b4 #[iv y.f0,iv y.f1,iv y.f2,iv y.f3,iv y.f4] 65,box b2 #[iv x.f0,iv x.f1,iv x.f2,iv x.f3,.slice A0_4 x.f4.length c0_4,.slice A0_5 x.f5.length c0_5,.slice A0_6 x.f6.length c0_6] 26,row qF.k 29 (.slice A68 t58.length c69) t58,row qF.k 29 (.slice A61 ([t52].length) c62) [t52]]∧Rd qA.k F73 A33 c34 t29.1.f4∧Rd qE.k F73 A36 c37 t29.1.f5∧Rd qC.k F73 A39 c40 t29.1.f6∧Rd qA.k F73 A0_4 c0_4 x.f4∧Rd qE.k F73 A0_5 c0_5 x.f5∧Rd qC.k F73 A0_6 c0_6 x.f6) 3 511 ?_ (fun hJ=>?_)
 rintro a u74 ⟨G,A68,c69,A61,c62,F73,E,A,S,g35,g38,g65,g0_4,g0_5,g0_6⟩
 obtain ⟨J,E⟩:=E.at A
 obtain ⟨c75,H⟩:=gd H
 replace S:=S.front 4 rfl
 refine on1 9 E (.ap (d:=qF.k) 72 S (qCX (S.row_at (i:=4) rfl)) c75 c69) ?_
 rintro _ u78 a ⟨A76,c77,rfl,S,hz⟩ E
 refine ⟨.d,?_⟩
 refine mny 0 hst E (.r 10 2 .nil) (fun a E=>?_)
 refine dn ?_
 refine hK50 _ _ (wp_ret (qCR (qCQ ?_)))
 replace S:=S.pm [0] 5
 obtain rfl:=si H
 exact rtN E ⟨_,rfl,_,_,_,rfl,S⟩
 refine pk2 2 8 ?_ ?_
 refine pk1 2 E (.lit (d:=qF.k) (e:=29) S [t52] (.cons ⟨_,_,rfl,g57⟩ .nil)) ?_
 rintro _ u60 a ⟨A61,c62,rfl,S,hg⟩ E
 refine ⟨.of hg,?_⟩
 replace S:=S.front 4 rfl
 obtain ⟨F64,hs,g65,S⟩:=S.give
 replace g35:=g35.mono hs
 replace g38:=g38.mono hs
 replace g57:=g57.mono hs
 replace g0_4:=g0_4.mono hs
 replace g0_5:=g0_5.mono hs
 replace g0_6:=g0_6.mono hs
 refine on1 8 E (.cl en58 (qAV.calls k t29.1 y.f1 y.f4 _ _ _ _ _ _ _ _ _ S.own.sub g35 g38 g65 h59)) ?_
 rintro _ u66 a ⟨F67,A68,c69,rfl,hC⟩ E
 refine ⟨.of hC.agr,?_⟩
 have hs:=hC.sub
 replace S:=S.called (X:=[]) hC
 replace g35:=g35.mono hs
 replace g38:=g38.mono hs
 replace g65:=g65.mono hs
 replace g57:=g57.mono hs
 replace g0_4:=g0_4.mono hs
 replace g0_5:=g0_5.mono hs
 replace g0_6:=g0_6.mono hs
 replace S:=S.pm [2,3,4,0,1] 5
 exact hJ _ _ ⟨_,A68,c69,A61,c62,F67,E,.of,S,g35,g38,g65,g0_4,g0_5,g0_6⟩
 replace S:=S.front 3 rfl
 obtain ⟨F64,hs,g65,S⟩:=S.give
 replace g35:=g35.mono hs
 replace g38:=g38.mono hs
 replace g57:=g57.mono hs
 replace g0_4:=g0_4.mono hs
 replace g0_5:=g0_5.mono hs
 replace g0_6:=g0_6.mono hs
 refine pk1 8 E (.cl en58 (qAV.calls k t29.1 y.f1 y.f4 _ _ _ _ _ _ _ _ _ S.own.sub g35 g38 g65 h59)) ?_
 rintro _ u66 a ⟨F67,A68,c69,rfl,hC⟩ E
 refine ⟨.of hC.agr,?_⟩
 have hs:=hC.sub
 replace S:=S.called (X:=[]) hC
 replace g35:=g35.mono hs
 replace g38:=g38.mono hs
 replace g65:=g65.mono hs
 replace g57:=g57.mono hs
 replace g0_4:=g0_4.mono hs
 replace g0_5:=g0_5.mono hs
 replace g0_6:=g0_6.mono hs
 refine on1 2 E (.lit (d:=qF.k) (e:=29) S [t52] (.cons ⟨_,_,rfl,g57⟩ .nil)) ?_
 rintro _ u60 a ⟨A61,c62,rfl,S,hg⟩ E
 refine ⟨.of hg,?_⟩
 replace S:=S.pm [2,3,4,1,0] 5
 exact hJ _ _ ⟨_,A68,c69,A61,c62,F67,E,.of,S,g35,g38,g65,g0_4,g0_5,g0_6⟩
 refine meet2 (fun a w'=>∃(G:NV)(b27:Nat)(A24:OA)(c25:Nat)(F44:World),Env 73 G a∧At G [(3,.pointer (pb b4)),(7,.pointer (pb b27)),(23,.agg #[iv x.f0,iv x.f1,iv x.f2,iv x.f3,.slice A0_4 x.f4.length c0_4,.slice A0_5 x.f5.length c0_5,.slice A0_6 x.f6.length c0_6]),(25,.agg #[iv t20.f0,iv t20.f1,iv t20.f2,iv t20.f3,iv t20.f4,iv t20.f5,.slice A24 t20.f6.length c25])]∧Sm W F w' F44 [box b27 #[iv 0,iv 0,iv 0,iv 0,.slice none 0 0,.slice none 0 0,.slice none 0 0] 26,box b4 #[iv y.f0,iv y.f1,iv y.f2,iv y.f3,iv y.f4] 65,box b2 #[iv x.f0,iv x.f1,iv x.f2,iv x.f3,.slice A0_4 x.f4.length c0_4,.slice A0_5 x.f5.length c0_5,.slice A0_6 x.f6.length c0_6] 26]∧Rd qA.k F44 A0_4 c0_4 x.f4∧Rd qE.k F44 A0_5 c0_5 x.f5∧Rd qC.k F44 A0_6 c0_6 x.f6∧Rd ki F44 A24 c25 t20.f6) 6 135 ?_ (fun hJ=>?_)
 rintro a u45 ⟨G,b27,A24,c25,F44,E,A,S,g0_4,g0_5,g0_6,g26⟩
 obtain ⟨J,E⟩:=E.at A
 refine on1 3 E (.cl en39 (qAs.calls k x t20 _ _ _ _ _ _ _ _ _ _ _ S.own.sub g0_4 g0_5 g0_6 g26 h30)) ?_
 rintro _ u31 a ⟨F32,A33,c34,A36,c37,A39,c40,rfl,hC,g35,g38⟩ E
 refine ⟨.of hC.agr,?_⟩
 have hs:=hC.sub
 replace S:=S.called (X:=[]) hC
 replace g0_4:=g0_4.mono hs
 replace g0_5:=g0_5.mono hs
 replace g0_6:=g0_6.mono hs
 replace g26:=g26.mono hs
 refine mny 2 hst E (.r 4 3 .nil) (fun a E=>?_)
 replace S:=S.pm [1,2,3,0] 4
 exact hJb _ _ ⟨_,b27,A39,c40,A33,c34,A36,c37,F32,E,.of,S,g35,g38,g0_4,g0_5,g0_6⟩
 refine pk2 2 7 ?_ ?_
 refine pk1 2 E (.cl en57 (qCD.calls y _ _ _ S.own.sub h21)) ?_
 rintro _ u22 a ⟨F23,A24,c25,rfl,hC,g26⟩ E
 refine ⟨.of hC.agr,?_⟩
 have hs:=hC.sub
 replace S:=S.called (X:=[]) hC
 replace g0_4:=g0_4.mono hs
 replace g0_5:=g0_5.mono hs
 replace g0_6:=g0_6.mono hs
 refine pk2 7 3 ?_ ?_
 refine pk1 7 E (.al (t:=26) S [iv 0,iv 0,iv 0,iv 0,.slice none 0 0,.slice none 0 0,.slice none 0 0]) ?_
 rintro _ u28 a ⟨b27,rfl,hb27,S,hg⟩ E
 refine ⟨.of hg,?_⟩
 exact hJ _ _ ⟨_,b27,A24,c25,F23,E,.of,S,g0_4,g0_5,g0_6,g26⟩
 refine pk1 3 E (.cl en39 (qAs.calls k x t20 _ _ _ _ _ _ _ _ _ _ _ S.own.sub g0_4 g0_5 g0_6 g26 h30)) ?_
 rintro _ u31 a ⟨F32,A33,c34,A36,c37,A39,c40,rfl,hC,g35,g38⟩ E
 refine ⟨.of hC.agr,?_⟩
 have hs:=hC.sub
 replace S:=S.called (X:=[]) hC
 replace g0_4:=g0_4.mono hs
 replace g0_5:=g0_5.mono hs
 replace g0_6:=g0_6.mono hs
 replace g26:=g26.mono hs
 refine mny 3 hst E (.r 4 3 .nil) (fun a E=>?_)
 refine on1 7 E (.al (t:=26) S [iv 0,iv 0,iv 0,iv 0,.slice none 0 0,.slice none 0 0,.slice none 0 0]) ?_
 rintro _ u28 a ⟨b27,rfl,hb27,S,hg⟩ E
 refine ⟨.of hg,?_⟩
 replace S:=S.pm [0,2,3,1] 4
 exact hJb _ _ ⟨_,b27,A39,c40,A33,c34,A36,c37,F32,E,.of,S,g35,g38,g0_4,g0_5,g0_6⟩
 refine pk1 7 E (.al (t:=26) S [iv 0,iv 0,iv 0,iv 0,.slice none 0 0,.slice none 0 0,.slice none 0 0]) ?_
 rintro _ u28 a ⟨b27,rfl,hb27,S,hg⟩ E
 refine ⟨.of hg,?_⟩
 refine on1 2 E (.cl en57 (qCD.calls y _ _ _ S.own.sub h21)) ?_
 rintro _ u22 a ⟨F23,A24,c25,rfl,hC,g26⟩ E
 refine ⟨.of hC.agr,?_⟩
 have hs:=hC.sub
 replace S:=S.called (X:=[]) hC
 replace g0_4:=g0_4.mono hs
 replace g0_5:=g0_5.mono hs
 replace g0_6:=g0_6.mono hs
 exact hJ _ _ ⟨_,b27,A24,c25,F23,E,.of,S,g0_4,g0_5,g0_6,g26⟩
 refine rr E fun a E=>(E.ik 39 H (fun c80 E H=>?_) fun c80 E H=>?_)
 refine sq fun K81 hK81=>pl0 (plc E (.bn 0 0 7 (S.ba 1)<|.r 1 1<|.b 2 1 hb4<|.nil) (fun a E=>?_))
 obtain ⟨t83,h84,H⟩:=bd H
 refine ple E (.cl en58 (qAV.calls k x y.f1 0 _ _ _ _ _ _ _ _ _ S.own.sub g0_4 g0_5 g0_6 h84)) ?_
 rintro _ u82 a ⟨F85,A86,c87,rfl,hC⟩ E
 have hs:=hC.sub
 replace S:=S.called (X:=[]) hC
 replace g0_4:=g0_4.mono hs
 replace g0_5:=g0_5.mono hs
 replace g0_6:=g0_6.mono hs
 refine plc E (.r 4 1 .nil) (fun a E=>pld (hK81 _ _ (sq fun K90 hK90=>?_)))
 have J115:∀ kq113,kq113≤k→∀(G:NV)(A109:OA)(c110:Nat)(l111:List qF)(a:Act)(w':World),Env 73 G a→At G [(3,.pointer (pb b4)),(9,.slice A109 l111.length c110)]→Sm W F w' F85 [box b4 #[iv y.f0,iv y.f1,iv y.f2,iv y.f3,iv y.f4] 65,box b2 #[iv x.f0,iv x.f1,iv x.f2,iv x.f3,.slice A0_4 x.f4.length c0_4,.slice A0_5 x.f5.length c0_5,.slice A0_6 x.f6.length c0_6] 26,row qF.k 29 (.slice A109 l111.length c110) l111]→qBS.j112 kq113 y l111=some r→K90 a w':=by
  intro kq113 hkq G A109 c110 l111 a u116 E A S H
  obtain _ | k114:=kq113
  exact zz H
  rw [qBS.j112_s]at H
  obtain ⟨J,E⟩:=E.at A
  refine hK90 _ _ (sq fun K117 hK117=>pl0 (plc E (.r 0 2<|.b 2 1 (S.ba 0)<|.r 3 1<|.nil) (fun a E=>ple E (.lit (d:=qF.k) (e:=29) S [(⟨7,y.f1,0,0,0,0,[]⟩:qF)] (.cons ⟨none,0,rfl,Rd.nil _ _⟩ .nil)) ?_)))
  rintro _ u118 a ⟨A119,c120,rfl,S,hg⟩ E
  obtain ⟨c122,H⟩:=gd H
  replace S:=S.front 3 rfl
  refine ple E (.ap (d:=qF.k) 72 S (qCX (S.row_at (i:=1) rfl)) c122 c120) ?_
  rintro _ u125 a ⟨A123,c124,rfl,S,hz⟩ E
  refine plc E (.r 6 2 .nil) (fun a E=>pld (hK117 _ _ (wp_ret (qCR (qCQ ?_)))))
  replace S:=S.pm [0] 4
  obtain rfl:=si H
  exact rtN E ⟨_,rfl,_,_,_,rfl,S⟩
 refine sq fun K91 hK91=>pl0 ?_
 have hb4:=S.ba 1
 refine plc E (.r 0 1<|.b 1 4 (S.ba 2)<|.r 2 1<|.b 3 1 hb4<|.nil) (fun a E=>?_)
 obtain ⟨t93,h94,H⟩:=bd H
 refine plq E S en59 (qBF.calls k x.f4 y.f1 _ _ _ _ _ S.own.sub g0_4 h94) fun u92 S a E=>plc E (.r 5 3 .nil) (fun a E=>pla (t:=68) E S [iv 0,iv 0,iv 0,iv 0,.bool false,.bool false] fun b95 u96 hb95 S a E=>pls E S [iv t93.1.f0,iv t93.1.f1,iv t93.1.f2,iv t93.1.f3,.bool t93.1.f4,.bool t93.1.f5] fun u97 hb95 S a E=>plc E (.r 10 1 .nil) (fun a E=>pld (hK91 _ _ (rg E (.r 0 1<|.b 1 5 hb95<|.nil) fun a E=>(E.ib 54 H (fun c99 E H=>?_) fun c99 E H=>?_)))))
 refine pl0 (plc E (.r 0 2<|.b 2 1 (S.ba 2)<|.r 3 1<|.nil) (fun a E=>ple E (.lit (d:=qF.k) (e:=29) S [(⟨5,y.f1,0,0,0,0,[]⟩:qF)] (.cons ⟨none,0,rfl,Rd.nil _ _⟩ .nil)) ?_))
 rintro _ u100 a ⟨A101,c102,rfl,S,hg⟩ E
 obtain ⟨c104,H⟩:=gd H
 replace S:=S.front 2 rfl
 refine ple E (.ap (d:=qF.k) 72 S (qCX (S.row_at (i:=1) rfl)) c104 c102) ?_
 rintro _ u107 a ⟨A105,c106,rfl,S,hz⟩ E
 refine plc E (.r 6 1 .nil) (fun a E=>pld ?_)
 replace S:=S.pm [3,4,0] 5
 exact J115 _ (by omega) _ A105 c106 (t83++[(⟨5,y.f1,0,0,0,0,[]⟩:qF)]) _ _ E .of S H
 refine wp_skip ?_
 replace S:=S.pm [2,3,1] 4
 exact J115 _ (by omega) _ A86 c87 t83 _ _ E .of S H
 refine wp_skip ?_
 refine qCS ?_
 refine hK15 _ _ (sq fun K126 hK126=>?_)
 refine drawn 8 ⟨[],[],fun q=>False⟩ mixed rfl (by kernel_rfl) (fun hst=>?_)
 replace S:=S.drew
 have hb2:=S.ba 1
 have hb4:=S.ba 0
 refine mny 4 hst E (.bn 0 0 7 hb2<|.r 1 1<|.b 2 1 hb4<|.bn 3 0 5 hb4<|.nil) (fun a E=>?_)
 obtain ⟨t128,h129,H⟩:=bd H
 refine on1 4 E (.cl en60 (qBC.calls k y _ _ _ S.own.sub h129)) ?_
 rintro _ u127 a ⟨_,rfl,hC⟩ E
 refine ⟨.of hC.agr,?_⟩
 replace S:=S.lent hC
 obtain ⟨t131,h132,H⟩:=bd H
 refine on1 5 E (.cl en58 (qAV.calls k x y.f1 t128 _ _ _ _ _ _ _ _ _ S.own.sub g0_4 g0_5 g0_6 h132)) ?_
 rintro _ u130 a ⟨F133,A134,c135,rfl,hC⟩ E
 refine ⟨.of hC.agr,?_⟩
 have hs:=hC.sub
 replace S:=S.called (X:=[]) hC
 replace g0_4:=g0_4.mono hs
 replace g0_5:=g0_5.mono hs
 replace g0_6:=g0_6.mono hs
 refine mny 0 hst E (.r 6 2 .nil) (fun a E=>?_)
 refine dn ?_
 refine hK126 _ _ (wp_ret ?_)
 replace S:=S.pm [0] 3
 obtain rfl:=si H
 exact rtN E ⟨_,rfl,_,_,_,rfl,S⟩
 refine rr E fun a E=>(wp_ret (qCQ ?_))
 replace S:=S.nilrow qF.k 29
 replace S:=S.pm [0] 3
 obtain rfl:=si H
 exact rtN E ⟨_,rfl,_,_,_,rfl,S⟩
def qBH.j37:Nat→qAY→qA × Bool→Bool→Option Bool
 | 0,_,_,_=>none
 | k+1,y,t15,y36=>if y36=true then (if t15.2=true then (some (t15.1.f3 == y.f4)) else (some false)) else (if y.f0=4 then (some (!t15.2)) else (some false))
theorem qBH.j37_s k y t15 y36:type_of% (qBH.j37.eq_2 y t15 y36 k):=qBH.j37.eq_2 y t15 y36 k
def qBH.f(k:Nat)(x:qD)(y:qAY):Option Bool:=(qAC.f k x).bind fun t9=>(if t9=0 then ((qBF.f k x.f4 y.f1).bind fun t15=>(if y.f0=1 then (if t15.1.f3=0 then ((qAv.f k x y.f1).bind fun t27=>(some (!t27))) else (if t15.1.f5=true then (some false) else ((qAv.f k x y.f1).bind fun t31=>(some (!t31))))) else (if y.f0=2 then (qBH.j37 k y t15 true) else (qBH.j37 k y t15 (y.f0 == 3))))) else (some false))
def qBH.Post(W F:World)(r:Bool)(v:Value)(w':World):Prop:=∃(F':World),v = .bool r∧Sm W F w' F' []
theorem qBH.calls(k:Nat)(x:qD)(y:qAY)(A0_4:OA)(c0_4:Nat)(A0_5:OA)(c0_5:Nat)(A0_6:OA)(c0_6:Nat)(r:Bool)(W F:World)(hown:Sub F W)(g0_4:Rd qA.k F A0_4 c0_4 x.f4)(g0_5:Rd qE.k F A0_5 c0_5 x.f5)(g0_6:Rd qC.k F A0_6 c0_6 x.f6)(H:qBH.f k x y=some r):
    Cr 36 #[.agg #[iv x.f0,iv x.f1,iv x.f2,iv x.f3,.slice A0_4 x.f4.length c0_4,.slice A0_5 x.f5.length c0_5,.slice A0_6 x.f6.length c0_6],.agg #[iv y.f0,iv y.f1,iv y.f2,iv y.f3,iv y.f4]] W (qBH.Post W F r):=by
 have S:=sT hown
 unfold qBH.f at H
 refine ent 52 rfl rfl rfl (fun a E=>?_)
 refine sq fun K1 hK1=>pl0 (plx (t:=26) E S [iv x.f0,iv x.f1,iv x.f2,iv x.f3,.slice A0_4 x.f4.length c0_4,.slice A0_5 x.f5.length c0_5,.slice A0_6 x.f6.length c0_6] fun b2 u3 hb2 S a E=>plx (t:=65) E S [iv y.f0,iv y.f1,iv y.f2,iv y.f3,iv y.f4] fun b4 u5 hb4 S a E=>plc E (.r 2 1 .nil) (fun a E=>pld (hK1 _ _ (sq fun K6 hK6=>sq fun K7 hK7=>pl0 ?_))))
 have hb2:=S.ba 1
 refine plc E (.bn 0 0 7 hb2 .nil) (fun a E=>?_)
 obtain ⟨t9,h10,H⟩:=bd H
 refine plq E S en65 (qAC.calls k x _ _ _ _ _ _ _ _ _ S.own.sub g0_4 g0_5 g0_6 h10) fun u8 S a E=>plc E (.r 2 1 .nil) (fun a E=>pld (hK7 _ _ (E.ikn 9 H (fun c11 E H=>?_) fun c11 E H=>?_)))
 refine wp_skip (hK6 _ _ (sq fun K13 hK13=>pl0 ?_))
 have hb2:=S.ba 1
 refine plc E (.r 0 1<|.b 1 4 hb2<|.r 2 1<|.b 3 1 (S.ba 0)<|.nil) (fun a E=>?_)
 obtain ⟨t15,h16,H⟩:=bd H
 refine plq E S en59 (qBF.calls k x.f4 y.f1 _ _ _ _ _ S.own.sub g0_4 h16) fun u14 S a E=>plc E (.r 5 3 .nil) (fun a E=>pla (t:=68) E S [iv 0,iv 0,iv 0,iv 0,.bool false,.bool false] fun b17 u18 hb17 S a E=>pls E S [iv t15.1.f0,iv t15.1.f1,iv t15.1.f2,iv t15.1.f3,.bool t15.1.f4,.bool t15.1.f5] fun u19 hb17 S a E=>plc E (.r 10 1 .nil) (fun a E=>pld (hK13 _ _ (sq fun K20 hK20=>sq fun K21 hK21=>pl0 ?_))))
 have hb4:=S.ba 1
 refine plc E (.r 0 1<|.b 1 0 hb4<|.nil) (fun a E=>pld (hK21 _ _ (wp_block (rr E fun a E=>(E.ik 20 H (fun c23 E H=>?_) fun c23 E H=>?_)))))
 refine sq fun K24 hK24=>pl0 (plc E (.r 0 1<|.b 1 3 hb17<|.r 2 2<|.nil) (fun a E=>E.fk 25 H (fun c25 E H=>?_) fun c25 E H=>?_))
 refine plc E (.r 4 5<|.bn 9 0 7 (S.ba 2)<|.r 10 1<|.b 11 1 hb4<|.nil) (fun a E=>?_)
 obtain ⟨t27,h28,H⟩:=bd H
 refine plq E S en66 (qAv.calls k x y.f1 _ _ _ _ _ _ _ _ _ S.own.sub g0_4 g0_5 g0_6 h28) fun u26 S a E=>plc E (.r 13 3 .nil) (fun a E=>pld (hK24 _ _ (wp_ret (qCR (qCQ ?_)))))
 replace S:=S.pm [] 3
 obtain rfl:=si H
 exact rt1 E ⟨_,rfl,_,rfl,S⟩
 refine plc E (.r 4 1<|.b 5 5 hb17<|.r 6 3<|.nil) (fun a E=>E.fbn 30 H (fun c29 E H=>?_) fun c29 E H=>?_)
 refine plc E (.r 9 7 .nil) (fun a E=>pld (hK24 _ _ (wp_ret (qCR (qCQ ?_)))))
 replace S:=S.pm [] 3
 obtain rfl:=si H
 exact rt1 E ⟨_,rfl,_,rfl,S⟩
 refine plc E (.bn 9 0 7 (S.ba 2)<|.r 10 1<|.b 11 1 hb4<|.nil) (fun a E=>?_)
 obtain ⟨t31,h32,H⟩:=bd H
 refine plq E S en66 (qAv.calls k x y.f1 _ _ _ _ _ _ _ _ _ S.own.sub g0_4 g0_5 g0_6 h32) fun u30 S a E=>plc E (.r 13 3 .nil) (fun a E=>pld (hK24 _ _ (wp_ret (qCR (qCQ ?_)))))
 replace S:=S.pm [] 3
 obtain rfl:=si H
 exact rt1 E ⟨_,rfl,_,rfl,S⟩
 refine sq fun K33 hK33=>?_
 have J40:∀ kq38,kq38≤k→∀(G:NV)(y36:Bool)(a:Act)(w':World),Env 52 G a→At G [(3,.pointer (pb b4)),(5,.pointer (pb b17)),(6,.bool t15.2),(19,iv y.f0),(37,.bool y36)]→Sm W F w' F [box b17 #[iv t15.1.f0,iv t15.1.f1,iv t15.1.f2,iv t15.1.f3,.bool t15.1.f4,.bool t15.1.f5] 68,box b4 #[iv y.f0,iv y.f1,iv y.f2,iv y.f3,iv y.f4] 65,box b2 #[iv x.f0,iv x.f1,iv x.f2,iv x.f3,.slice A0_4 x.f4.length c0_4,.slice A0_5 x.f5.length c0_5,.slice A0_6 x.f6.length c0_6] 26]→qBH.j37 kq38 y t15 y36=some r→K33 a w':=by
  intro kq38 hkq G y36 a u41 E A S H
  obtain _ | k39:=kq38
  exact zz H
  rw [qBH.j37_s]at H
  obtain ⟨J,E⟩:=E.at A
  refine hK33 _ _ (E.ib 37 H (fun c42 E H=>?_) fun c42 E H=>?_)
  refine sq fun K43 hK43=>pl0 (plc E (.r 0 2 .nil) (fun a E=>E.fb 41 H (fun c44 E H=>?_) fun c44 E H=>?_))
  refine plc E (.r 2 1<|.b 3 3 (S.ba 0)<|.r 4 1<|.b 5 4 (S.ba 1)<|.r 6 3<|.nil) (fun a E=>pld (hK43 _ _ (wp_ret (qCR (qCQ ?_)))))
  replace S:=S.pm [] 3
  obtain rfl:=si H
  exact rt1 E ⟨_,rfl,_,rfl,S⟩
  refine plc E (.r 2 7 .nil) (fun a E=>pld (hK43 _ _ (wp_ret (qCR (qCQ ?_)))))
  replace S:=S.pm [] 3
  obtain rfl:=si H
  exact rt1 E ⟨_,rfl,_,rfl,S⟩
  refine rr E fun a E=>(E.ik 48 H (fun c46 E H=>?_) fun c46 E H=>?_)
  refine rr E fun a E=>(wp_ret (qCR (qCQ ?_)))
  replace S:=S.pm [] 3
  obtain rfl:=si H
  exact rt1 E ⟨_,rfl,_,rfl,S⟩
  refine wp_skip ?_
  refine qCS ?_
  refine hK20 _ _ (rr E fun a E=>(wp_ret ?_))
  replace S:=S.pm [] 3
  obtain rfl:=si H
  exact rt1 E ⟨_,rfl,_,rfl,S⟩
 refine rr E fun a E=>(E.ik 37 H (fun c35 E H=>?_) fun c35 E H=>?_)
 refine wp_skip ?_
 exact J40 _ (by omega) _ true _ _ E .of S H
 refine pl0 (plc E (.r 0 2 .nil) (fun a E=>pld ?_))
 exact J40 _ (by omega) _ (y.f0 == 3) _ _ E .of S H
 refine rr E fun a E=>(wp_ret (qCQ ?_))
 replace S:=S.pm [] 2
 obtain rfl:=si H
 exact rt1 E ⟨_,rfl,_,rfl,S⟩
def qCL.f(k:Nat)(x:Int)(y:Int)(z:Int):Option (qD × Int):=if 0≤(if (if 8<z then 8 else z)>0 then (if 8<z then 8 else z) else 0)∧(if (if 8<z then 8 else z)>0 then (if 8<z then 8 else z) else 0) * 32≤140737488355328 then ((qAC.f k (⟨0,x,y,z,[],[],(List.replicate ((if (if 8<z then 8 else z)>0 then (if 8<z then 8 else z) else 0)).toNat (qC.z:qC))⟩:qD)).bind fun t16=>(if t16=0 then (some ((⟨0,x,y,z,[],[],(List.replicate ((if (if 8<z then 8 else z)>0 then (if 8<z then 8 else z) else 0)).toNat (qC.z:qC))⟩:qD),0)) else (some ((⟨0,0,0,0,[],[],[]⟩:qD),t16)))) else (none)
def qCL.Post(W F:World)(r:qD × Int)(v:Value)(w':World):Prop:=∃(F':World)(RA0_4:OA)(rc0_4:Nat)(RA0_5:OA)(rc0_5:Nat)(RA0_6:OA)(rc0_6:Nat),v = .tuple #[.agg #[iv r.1.f0,iv r.1.f1,iv r.1.f2,iv r.1.f3,.slice RA0_4 r.1.f4.length rc0_4,.slice RA0_5 r.1.f5.length rc0_5,.slice RA0_6 r.1.f6.length rc0_6],iv r.2]∧Sm W F w' F' [row qC.k 73 (.slice RA0_6 r.1.f6.length rc0_6) r.1.f6]∧Rd qA.k F' RA0_4 rc0_4 r.1.f4∧Rd qE.k F' RA0_5 rc0_5 r.1.f5
theorem qCL.calls(k:Nat)(x:Int)(y:Int)(z:Int)(r:qD × Int)(W F:World)(hown:Sub F W)(H:qCL.f k x y z=some r):
    Cr 67 #[iv x,iv y,iv z] W (qCL.Post W F r):=by
 have S:=sT hown
 unfold qCL.f at H
 refine ent 25 rfl rfl rfl (fun a E=>?_)
 refine sq fun K1 hK1=>pl0 (pla (t:=26) E S [iv 0,iv 0,iv 0,iv 0,.slice none 0 0,.slice none 0 0,.slice none 0 0] fun b2 u3 hb2 S a E=>plc E (.r 1 1 .nil) (fun a E=>pld (hK1 _ _ (sq fun K4 hK4=>pl0 (plc E (.r 0 6 .nil) (fun a E=>?_))))))
 obtain ⟨c5,H⟩:=gd H
 refine ple E (.mk (d:=qC.k) (e:=73) 32 qC.z S c5 (by rw [zr73]; exact ⟨none,0,rfl,Rd.nil _ _⟩)) ?_
 rintro _ u8 a ⟨A6,c7,rfl,S,hg⟩ E
 refine plc E (.r 7 1 .nil) (fun a E=>pla (t:=26) E S [iv 0,iv 0,iv 0,iv 0,.slice none 0 0,.slice none 0 0,.slice none 0 0] fun b10 u11 hb10 S a E=>pls E S [iv 0,iv x,iv y,iv z,.slice none 0 0,.slice none 0 0,.slice A6 ((List.replicate ((if (if 8<z then 8 else z)>0 then (if 8<z then 8 else z) else 0)).toNat (qC.z:qC)).length) c7] fun u12 hb10 S a E=>pld (hK4 _ _ (sq fun K13 hK13=>sq fun K14 hK14=>pl0 (plc E (.bn 0 0 7 hb10 .nil) (fun a E=>?_)))))
 obtain ⟨t16,h17,H⟩:=bd H
 refine plq E S en65 (qAC.calls k (⟨0,x,y,z,[],[],(List.replicate ((if (if 8<z then 8 else z)>0 then (if 8<z then 8 else z) else 0)).toNat (qC.z:qC))⟩:qD) _ _ _ _ _ _ _ _ _ (Sub.refl _) (Rd.nil _ _) (Rd.nil _ _) (S.rd_at (i:=1) rfl) h17) fun u15 S a E=>plc E (.r 2 1 .nil) (fun a E=>pld (hK14 _ _ (rr E fun a E=>(E.ikn 21 H (fun c19 E H=>?_) fun c19 E H=>?_))))
 refine wp_skip (hK13 _ _ (sq fun K23 hK23=>pl0 (plc E (.bn 0 0 7 (S.ba 0) .nil) (fun a E=>?_))))
 replace S:=S.front 2 rfl
 refine pls E S [iv 0,iv x,iv y,iv z,.slice none 0 0,.slice none 0 0,.slice A6 ((List.replicate ((if (if 8<z then 8 else z)>0 then (if 8<z then 8 else z) else 0)).toNat (qC.z:qC)).length) c7] fun u24 hb2 S a E=>plc E (.r 2 1 .nil) (fun a E=>pld (hK23 _ _ (wp_ret ?_)))
 replace S:=S.pm [] 2
 obtain rfl:=si H
 exact rtm E (.b hb2 ag26 sz26 (.t .nil)) ⟨_,rfl,_,_,_,_,_,_,_,rfl,S,(Rd.nil _ _),(Rd.nil _ _)⟩
 refine sq fun K20 hK20=>pl0 (plc E (.r 0 2 .nil) (fun a E=>?_))
 replace S:=S.front 2 rfl
 refine pls E S [iv 0,iv 0,iv 0,iv 0,.slice none 0 0,.slice none 0 0,.slice none 0 0] fun u21 hb2 S a E=>plc E (.r 3 1 .nil) (fun a E=>pld (hK20 _ _ (wp_ret (qCQ ?_))))
 replace S:=S.nilrow qC.k 73
 replace S:=S.pm [0] 4
 obtain rfl:=si H
 exact rtm E (.b hb2 ag26 sz26 (.t .nil)) ⟨_,rfl,_,_,_,_,_,_,_,rfl,S,(Rd.nil _ _),(Rd.nil _ _)⟩
def qAo.l42:Nat→Int→Int→Int→Int→Int→Int→List qA→List qE→List qC→Option qD
 | 0,_,_,_,_,_,_,_,_,_=>none
 | k+1,x,x25,x26,x27,x28,x29,l32,l36,l40=>if x25≤x then ((qAs.f k (⟨x26,x27,x28,x29,l32,l36,l40⟩:qD) (⟨1,x25,x25,1,1,0,[]⟩:qF)).bind fun t54=>((qAs.f k t54.1 (⟨3,x25,0,0,0,0,[]⟩:qF)).bind fun t71=>(qAo.l42 k x (w64 (x25+1)) t71.1.f0 t71.1.f1 t71.1.f2 t71.1.f3 t71.1.f4 t71.1.f5 t71.1.f6))) else (some (⟨x26,x27,x28,x29,l32,l36,l40⟩:qD))
theorem qAo.l42_s k x x25 x26 x27 x28 x29 l32 l36 l40:type_of% (qAo.l42.eq_2 x x25 x26 x27 x28 x29 l32 l36 l40 k):=qAo.l42.eq_2 x x25 x26 x27 x28 x29 l32 l36 l40 k
def qAo.f(k:Nat)(x:Int)(y:Int):Option qD:=(qCL.f k 3 y 1).bind fun t6=>(qAo.l42 k x 1 t6.1.f0 t6.1.f1 t6.1.f2 t6.1.f3 t6.1.f4 t6.1.f5 t6.1.f6)
def qAo.Post(W F:World)(r:qD)(v:Value)(w':World):Prop:=∃(F':World)(RA0_4:OA)(rc0_4:Nat)(RA0_5:OA)(rc0_5:Nat)(RA0_6:OA)(rc0_6:Nat),v = .agg #[iv r.f0,iv r.f1,iv r.f2,iv r.f3,.slice RA0_4 r.f4.length rc0_4,.slice RA0_5 r.f5.length rc0_5,.slice RA0_6 r.f6.length rc0_6]∧Sm W F w' F' [row qC.k 73 (.slice RA0_6 r.f6.length rc0_6) r.f6]∧Rd qA.k F' RA0_4 rc0_4 r.f4∧Rd qE.k F' RA0_5 rc0_5 r.f5
theorem qAo.calls(k:Nat)(x:Int)(y:Int)(r:qD)(W F:World)(hown:Sub F W)(H:qAo.f k x y=some r):
    Cr 37 #[iv x,iv y] W (qAo.Post W F r):=by
 have S:=sT hown
 unfold qAo.f at H
 refine ent 34 rfl rfl rfl (fun a E=>?_)
 refine sq fun K1 hK1=>pl0 (pla (t:=26) E S [iv 0,iv 0,iv 0,iv 0,.slice none 0 0,.slice none 0 0,.slice none 0 0] fun b2 u3 hb2 S a E=>pld (hK1 _ _ (sq fun K4 hK4=>pl0 (plc E (.r 0 1 .nil) (fun a E=>?_)))))
 obtain ⟨t6,h7,H⟩:=bd H
 refine ple E (.cl en67 (qCL.calls k 3 y 1 _ _ _ S.own.sub h7)) ?_
 rintro _ u5 a ⟨F8,A9,c10,A12,c13,A15,c16,rfl,hC,g11,g14⟩ E
 have hs:=hC.sub
 replace S:=S.called (X:=[]) hC
 refine plc E (.r 2 3 .nil) (fun a E=>pla (t:=26) E S [iv 0,iv 0,iv 0,iv 0,.slice none 0 0,.slice none 0 0,.slice none 0 0] fun b19 u20 hb19 S a E=>pls E S [iv t6.1.f0,iv t6.1.f1,iv t6.1.f2,iv t6.1.f3,.slice A9 t6.1.f4.length c10,.slice A12 t6.1.f5.length c13,.slice A15 t6.1.f6.length c16] fun u21 hb19 S a E=>plc E (.r 7 1 .nil) (fun a E=>pld (hK4 _ _ (sq fun K22 hK22=>rr E fun a E=>(wp_block ?_)))))
 replace S:=S.pm [0,2,1] 3
 refine wp_loop_ghost (fun kq43 a w'=>∃(G:NV)(x25:Int)(x26:Int)(x27:Int)(x28:Int)(x29:Int)(A30:OA)(c31:Nat)(l32:List qA)(A34:OA)(c35:Nat)(l36:List qE)(A38:OA)(c39:Nat)(l40:List qC)(F41:World),kq43≤k∧Env 34 G a∧At G [(0,iv x),(4,.pointer (pb b2)),(5,.pointer (pb b19)),(7,iv x25)]∧Sm W F w' F41 [box b19 #[iv x26,iv x27,iv x28,iv x29,.slice A30 l32.length c31,.slice A34 l36.length c35,.slice A38 l40.length c39] 26,box b2 #[iv 0,iv 0,iv 0,iv 0,.slice none 0 0,.slice none 0 0,.slice none 0 0] 26,row qC.k 73 (.slice A38 l40.length c39) l40]∧Rd qA.k F41 A30 c31 l32∧Rd qE.k F41 A34 c35 l36∧qAo.l42 kq43 x x25 x26 x27 x28 x29 l32 l36 l40=some r) k ⟨_,1,t6.1.f0,t6.1.f1,t6.1.f2,t6.1.f3,A9,c10,t6.1.f4,A12,c13,t6.1.f5,A15,c16,t6.1.f6,F8,Nat.le_refl _,E,.of,S,g11,g14,H⟩ ?_
 rintro kq43 a u45 ⟨G,x25,x26,x27,x28,x29,A30,c31,l32,A34,c35,l36,A38,c39,l40,F41,hkq,E,A,S,g33,g37,H⟩
 obtain _ | k44:=kq43
 exact zz H
 rw [qAo.l42_s]at H
 obtain ⟨J,E⟩:=E.at A
 refine sq fun K46 hK46=>rr E fun a E=>(E.ik 15 H (fun c48 E H=>?_) fun c48 E H=>?_)
 refine wp_skip (hK46 _ _ (sq fun K49 hK49=>wp_block (sq fun K50 hK50=>pl0 (plc E (.bn 0 0 7 (S.ba 0)<|.r 1 3<|.nil) (fun a E=>?_)))))
 replace S:=S.front 2 rfl
 obtain ⟨F51,hs,g52,S⟩:=S.give
 replace g33:=g33.mono hs
 replace g37:=g37.mono hs
 obtain ⟨t54,h55,H⟩:=bd H
 refine ple E (.cl en39 (qAs.calls k44 (⟨x26,x27,x28,x29,l32,l36,l40⟩:qD) (⟨1,x25,x25,1,1,0,[]⟩:qF) _ _ _ _ _ _ _ _ _ _ _ S.own.sub g33 g37 g52 (Rd.nil _ _) h55)) ?_
 rintro _ u53 a ⟨F56,A57,c58,A60,c61,A63,c64,rfl,hC,g59,g62⟩ E
 have hs:=hC.sub
 replace S:=S.called (X:=[]) hC
 replace g33:=g33.mono hs
 replace g37:=g37.mono hs
 replace g52:=g52.mono hs
 refine plc E (.r 5 3 .nil) (fun a E=>?_)
 replace S:=S.front 1 rfl
 refine pls E S [iv t54.1.f0,iv t54.1.f1,iv t54.1.f2,iv t54.1.f3,.slice A57 t54.1.f4.length c58,.slice A60 t54.1.f5.length c61,.slice A63 t54.1.f6.length c64] fun u67 hb19 S a E=>pld (hK50 _ _ (pl0 (plc E (.bn 0 0 7 hb19<|.r 1 2<|.nil) (fun a E=>?_))))
 replace S:=S.front 1 rfl
 obtain ⟨F68,hs,g69,S⟩:=S.give
 replace g59:=g59.mono hs
 replace g62:=g62.mono hs
 replace g33:=g33.mono hs
 replace g37:=g37.mono hs
 replace g52:=g52.mono hs
 obtain ⟨t71,h72,H⟩:=bd H
 refine ple E (.cl en39 (qAs.calls k44 t54.1 (⟨3,x25,0,0,0,0,[]⟩:qF) _ _ _ _ _ _ _ _ _ _ _ S.own.sub g59 g62 g69 (Rd.nil _ _) h72)) ?_
 rintro _ u70 a ⟨F73,A74,c75,A77,c78,A80,c81,rfl,hC,g76,g79⟩ E
 have hs:=hC.sub
 replace S:=S.called (X:=[]) hC
 replace g59:=g59.mono hs
 replace g62:=g62.mono hs
 replace g69:=g69.mono hs
 replace g33:=g33.mono hs
 replace g37:=g37.mono hs
 replace g52:=g52.mono hs
 refine plc E (.r 4 3 .nil) (fun a E=>?_)
 replace S:=S.front 1 rfl
 refine pls E S [iv t71.1.f0,iv t71.1.f1,iv t71.1.f2,iv t71.1.f3,.slice A74 t71.1.f4.length c75,.slice A77 t71.1.f5.length c78,.slice A80 t71.1.f6.length c81] fun u84 hb19 S a E=>pld ?_
 refine qCS ?_
 refine hK49 _ _ (pl0 (plc E (.r 0 3 .nil) (fun a E=>pld ?_)))
 replace S:=S.pm [0,2,1] 3
 exact qCT ⟨k44,by omega,_,(w64 (x25+1)),t71.1.f0,t71.1.f1,t71.1.f2,t71.1.f3,A74,c75,t71.1.f4,A77,c78,t71.1.f5,A80,c81,t71.1.f6,F73,by omega,E,.of,S,g76,g79,H⟩
 refine wp_exit ?_
 refine hK22 _ _ (sq fun K85 hK85=>pl0 (plc E (.bn 0 0 7 (S.ba 0) .nil) (fun a E=>?_)))
 replace S:=S.front 1 rfl
 refine pls E S [iv x26,iv x27,iv x28,iv x29,.slice A30 l32.length c31,.slice A34 l36.length c35,.slice A38 l40.length c39] fun u86 hb2 S a E=>pld (hK85 _ _ (wp_ret ?_))
 replace S:=S.pm [] 2
 obtain rfl:=si H
 exact ret1 E rfl (.cell (by kernel_rfl) (qCh [iv x26,iv x27,iv x28,iv x29,.slice A30 l32.length c31,.slice A34 l36.length c35,.slice A38 l40.length c39] ag26 sz26 hb2 rfl) .nil) ⟨_,rfl,_,_,_,_,_,_,_,rfl,S,g33,g37⟩
mutual
def qBI.j34:Nat→qD × Int→Bool→Option qD
 | 0,_,_=>none
 | k+1,t10,y33=>if y33=true then (qBI.j42 k t10 (w64 (t10.1.f0+1))) else (qBI.j42 k t10 t10.1.f0)
def qBI.j42:Nat→qD × Int→Int→Option qD
 | 0,_,_=>none
 | k+1,t10,x41=>some (⟨x41,t10.1.f1,t10.1.f2,t10.1.f3,t10.1.f4,t10.1.f5,t10.1.f6⟩:qD)
end
theorem qBI.j34_s k t10 y33:type_of% (qBI.j34.eq_2 t10 y33 k):=qBI.j34.eq_2 t10 y33 k
theorem qBI.j42_s k t10 x41:type_of% (qBI.j42.eq_2 t10 x41 k):=qBI.j42.eq_2 t10 x41 k
def qBI.f(k:Nat)(x:qD)(y:qF):Option qD:=(qAs.f k x y).bind fun t10=>(if t10.2=0 then (qBI.j34 k t10 false) else (if t10.1.f0<2147483647 then ((qAC.f k x).bind fun t31=>(qBI.j34 k t10 (t31 == 0))) else (qBI.j34 k t10 false)))
def qBI.Post(W F:World)(r:qD)(v:Value)(w':World):Prop:=∃(F':World)(RA0_4:OA)(rc0_4:Nat)(RA0_5:OA)(rc0_5:Nat)(RA0_6:OA)(rc0_6:Nat),v = .agg #[iv r.f0,iv r.f1,iv r.f2,iv r.f3,.slice RA0_4 r.f4.length rc0_4,.slice RA0_5 r.f5.length rc0_5,.slice RA0_6 r.f6.length rc0_6]∧Sm W F w' F' [row qC.k 73 (.slice RA0_6 r.f6.length rc0_6) r.f6]∧Rd qA.k F' RA0_4 rc0_4 r.f4∧Rd qE.k F' RA0_5 rc0_5 r.f5
theorem qBI.calls(k:Nat)(x:qD)(y:qF)(A0_4:OA)(c0_4:Nat)(A0_5:OA)(c0_5:Nat)(A0_6:OA)(c0_6:Nat)(A1_6:OA)(c1_6:Nat)(r:qD)(W F:World)(hown:Sub F W)(g0_4:Rd qA.k F A0_4 c0_4 x.f4)(g0_5:Rd qE.k F A0_5 c0_5 x.f5)(g0_6:Rd qC.k F A0_6 c0_6 x.f6)(g1_6:Rd ki F A1_6 c1_6 y.f6)(H:qBI.f k x y=some r):
    Cr 81 #[.agg #[iv x.f0,iv x.f1,iv x.f2,iv x.f3,.slice A0_4 x.f4.length c0_4,.slice A0_5 x.f5.length c0_5,.slice A0_6 x.f6.length c0_6],.agg #[iv y.f0,iv y.f1,iv y.f2,iv y.f3,iv y.f4,iv y.f5,.slice A1_6 y.f6.length c1_6]] W (qBI.Post W F r):=by
 have S:=sT hown
 unfold qBI.f at H
 refine ent 30 rfl rfl rfl (fun a E=>?_)
 refine sq fun K1 hK1=>pl0 (plx (t:=26) E S [iv x.f0,iv x.f1,iv x.f2,iv x.f3,.slice A0_4 x.f4.length c0_4,.slice A0_5 x.f5.length c0_5,.slice A0_6 x.f6.length c0_6] fun b2 u3 hb2 S a E=>plx (t:=29) E S [iv y.f0,iv y.f1,iv y.f2,iv y.f3,iv y.f4,iv y.f5,.slice A1_6 y.f6.length c1_6] fun b4 u5 hb4 S a E=>pla (t:=26) E S [iv 0,iv 0,iv 0,iv 0,.slice none 0 0,.slice none 0 0,.slice none 0 0] fun b6 u7 hb6 S a E=>pld (hK1 _ _ (sq fun K8 hK8=>pl0 ?_)))
 have hb2:=S.ba 2
 refine plc E (.bn 0 0 7 hb2<|.bn 1 0 7 (S.ba 1)<|.nil) (fun a E=>?_)
 obtain ⟨t10,h11,H⟩:=bd H
 refine ple E (.cl en39 (qAs.calls k x y _ _ _ _ _ _ _ _ _ _ _ S.own.sub g0_4 g0_5 g0_6 g1_6 h11)) ?_
 rintro _ u9 a ⟨F12,A13,c14,A16,c17,A19,c20,rfl,hC,g15,g18⟩ E
 have hs:=hC.sub
 replace S:=S.called (X:=[]) hC
 replace g0_4:=g0_4.mono hs
 replace g0_5:=g0_5.mono hs
 replace g0_6:=g0_6.mono hs
 replace g1_6:=g1_6.mono hs
 refine plc E (.r 3 3 .nil) (fun a E=>pla (t:=26) E S [iv 0,iv 0,iv 0,iv 0,.slice none 0 0,.slice none 0 0,.slice none 0 0] fun b23 u24 hb23 S a E=>pls E S [iv t10.1.f0,iv t10.1.f1,iv t10.1.f2,iv t10.1.f3,.slice A13 t10.1.f4.length c14,.slice A16 t10.1.f5.length c17,.slice A19 t10.1.f6.length c20] fun u25 hb23 S a E=>plc E (.r 8 1 .nil) (fun a E=>pld (hK8 _ _ (sq fun K26 hK26=>?_))))
 have J45:∀ kq43,kq43≤k→∀(G:NV)(x41:Int)(a:Act)(w':World),Env 30 G a→At G [(4,.pointer (pb b6)),(5,.pointer (pb b23))]→Sm W F w' F12 [box b23 #[iv x41,iv t10.1.f1,iv t10.1.f2,iv t10.1.f3,.slice A13 t10.1.f4.length c14,.slice A16 t10.1.f5.length c17,.slice A19 t10.1.f6.length c20] 26,box b6 #[iv 0,iv 0,iv 0,iv 0,.slice none 0 0,.slice none 0 0,.slice none 0 0] 26,box b4 #[iv y.f0,iv y.f1,iv y.f2,iv y.f3,iv y.f4,iv y.f5,.slice A1_6 y.f6.length c1_6] 29,box b2 #[iv x.f0,iv x.f1,iv x.f2,iv x.f3,.slice A0_4 x.f4.length c0_4,.slice A0_5 x.f5.length c0_5,.slice A0_6 x.f6.length c0_6] 26,row qC.k 73 (.slice A19 t10.1.f6.length c20) t10.1.f6]→qBI.j42 kq43 t10 x41=some r→K26 a w':=by
  intro kq43 hkq G x41 a u46 E A S H
  obtain _ | k44:=kq43
  exact zz H
  rw [qBI.j42_s]at H
  obtain ⟨J,E⟩:=E.at A
  refine hK26 _ _ (sq fun K47 hK47=>pl0 (plc E (.bn 0 0 7 (S.ba 0) .nil) (fun a E=>?_)))
  replace S:=S.front 1 rfl
  refine pls E S [iv x41,iv t10.1.f1,iv t10.1.f2,iv t10.1.f3,.slice A13 t10.1.f4.length c14,.slice A16 t10.1.f5.length c17,.slice A19 t10.1.f6.length c20] fun u48 hb6 S a E=>pld (hK47 _ _ (wp_ret ?_))
  replace S:=S.pm [] 4
  obtain rfl:=si H
  exact ret1 E rfl (.cell (by kernel_rfl) (qCh [iv x41,iv t10.1.f1,iv t10.1.f2,iv t10.1.f3,.slice A13 t10.1.f4.length c14,.slice A16 t10.1.f5.length c17,.slice A19 t10.1.f6.length c20] ag26 sz26 hb6 rfl) .nil) ⟨_,rfl,_,_,_,_,_,_,_,rfl,S,g15,g18⟩
 refine sq fun K27 hK27=>?_
 have J37:∀ kq35,kq35≤k→∀(G:NV)(y33:Bool)(a:Act)(w':World),Env 30 G a→At G [(4,.pointer (pb b6)),(5,.pointer (pb b23)),(24,.bool y33)]→Sm W F w' F12 [box b23 #[iv t10.1.f0,iv t10.1.f1,iv t10.1.f2,iv t10.1.f3,.slice A13 t10.1.f4.length c14,.slice A16 t10.1.f5.length c17,.slice A19 t10.1.f6.length c20] 26,box b6 #[iv 0,iv 0,iv 0,iv 0,.slice none 0 0,.slice none 0 0,.slice none 0 0] 26,box b4 #[iv y.f0,iv y.f1,iv y.f2,iv y.f3,iv y.f4,iv y.f5,.slice A1_6 y.f6.length c1_6] 29,box b2 #[iv x.f0,iv x.f1,iv x.f2,iv x.f3,.slice A0_4 x.f4.length c0_4,.slice A0_5 x.f5.length c0_5,.slice A0_6 x.f6.length c0_6] 26,row qC.k 73 (.slice A19 t10.1.f6.length c20) t10.1.f6]→qBI.j34 kq35 t10 y33=some r→K27 a w':=by
  intro kq35 hkq G y33 a u38 E A S H
  obtain _ | k36:=kq35
  exact zz H
  rw [qBI.j34_s]at H
  obtain ⟨J,E⟩:=E.at A
  refine hK27 _ _ (E.ib 24 H (fun c39 E H=>?_) fun c39 E H=>?_)
  refine pl0 (plc E (.r 0 1<|.b 1 0 (S.ba 0)<|.r 2 2<|.nil) (fun a E=>pls E S [iv (w64 (t10.1.f0+1)),iv t10.1.f1,iv t10.1.f2,iv t10.1.f3,.slice A13 t10.1.f4.length c14,.slice A16 t10.1.f5.length c17,.slice A19 t10.1.f6.length c20] fun u40 hb23 S a E=>pld ?_))
  exact J45 _ (by omega) _ (w64 (t10.1.f0+1)) _ _ E .of S H
  refine wp_skip ?_
  exact J45 _ (by omega) _ t10.1.f0 _ _ E .of S H
 refine pl0 (plc E (.r 0 3 .nil) (fun a E=>E.fkn 15 H (fun c28 E H=>?_) fun c28 E H=>?_))
 refine plc E (.r 3 9 .nil) (fun a E=>pld ?_)
 replace S:=S.pm [0,2,3,4,1] 5
 exact J37 _ (by omega) _ false _ _ E .of S H
 refine plc E (.r 3 1<|.b 4 0 hb23<|.r 5 3<|.nil) (fun a E=>E.fk 20 H (fun c29 E H=>?_) fun c29 E H=>?_)
 refine plc E (.bn 8 0 7 (S.ba 4) .nil) (fun a E=>?_)
 obtain ⟨t31,h32,H⟩:=bd H
 refine plq E S en65 (qAC.calls k x _ _ _ _ _ _ _ _ _ S.own.sub g0_4 g0_5 g0_6 h32) fun u30 S a E=>plc E (.r 10 2 .nil) (fun a E=>pld ?_)
 replace S:=S.pm [0,2,3,4,1] 5
 exact J37 _ (by omega) _ (t31 == 0) _ _ E .of S H
 refine plc E (.r 8 4 .nil) (fun a E=>pld ?_)
 replace S:=S.pm [0,2,3,4,1] 5
 exact J37 _ (by omega) _ false _ _ E .of S H
def qBh.l44:Nat→List qF→Int→Int→Int→Int→Int→List qA→List qE→List qC→Option qD
 | 0,_,_,_,_,_,_,_,_,_=>none
 | k+1,y,x27,x28,x29,x30,x31,l34,l38,l42=>if x27<(y.length:Int) then (if 0≤x27∧x27<(y.length:Int) then ((qBI.f k (⟨x28,x29,x30,x31,l34,l38,l42⟩:qD) (nth qF.z y x27)).bind fun t67=>(qBh.l44 k y (w64 (x27+1)) t67.f0 t67.f1 t67.f2 t67.f3 t67.f4 t67.f5 t67.f6)) else (none)) else ((qAC.f k (⟨x28,x29,x30,x31,l34,l38,l42⟩:qD)).bind fun t88=>(if t88=0 then (some (⟨x28,x29,x30,x31,l34,l38,l42⟩:qD)) else (some (⟨0,0,0,0,[],[],[]⟩:qD))))
theorem qBh.l44_s k y x27 x28 x29 x30 x31 l34 l38 l42:type_of% (qBh.l44.eq_2 y x27 x28 x29 x30 x31 l34 l38 l42 k):=qBh.l44.eq_2 y x27 x28 x29 x30 x31 l34 l38 l42 k
def qBh.f(k:Nat)(x:qD)(y:List qF):Option qD:=(qAx.f k x).bind fun t8=>(qBh.l44 k y 0 t8.f0 t8.f1 t8.f2 t8.f3 t8.f4 t8.f5 t8.f6)
def qBh.Post(W F:World)(r:qD)(v:Value)(w':World):Prop:=∃(F':World)(RA0_4:OA)(rc0_4:Nat)(RA0_5:OA)(rc0_5:Nat)(RA0_6:OA)(rc0_6:Nat),v = .agg #[iv r.f0,iv r.f1,iv r.f2,iv r.f3,.slice RA0_4 r.f4.length rc0_4,.slice RA0_5 r.f5.length rc0_5,.slice RA0_6 r.f6.length rc0_6]∧Sm W F w' F' [row qC.k 73 (.slice RA0_6 r.f6.length rc0_6) r.f6]∧Rd qA.k F' RA0_4 rc0_4 r.f4∧Rd qE.k F' RA0_5 rc0_5 r.f5
theorem qBh.calls(k:Nat)(x:qD)(y:List qF)(A0_4:OA)(c0_4:Nat)(A0_5:OA)(c0_5:Nat)(A0_6:OA)(c0_6:Nat)(A1_0:OA)(c1_0:Nat)(r:qD)(W F:World)(hown:Sub F W)(g0_4:Rd qA.k F A0_4 c0_4 x.f4)(g0_5:Rd qE.k F A0_5 c0_5 x.f5)(g0_6:Rd qC.k F A0_6 c0_6 x.f6)(g1_0:Rd qF.k F A1_0 c1_0 y)(H:qBh.f k x y=some r):
    Cr 80 #[.agg #[iv x.f0,iv x.f1,iv x.f2,iv x.f3,.slice A0_4 x.f4.length c0_4,.slice A0_5 x.f5.length c0_5,.slice A0_6 x.f6.length c0_6],.slice A1_0 y.length c1_0] W (qBh.Post W F r):=by
 have S:=sT hown
 unfold qBh.f at H
 refine ent 24 rfl rfl rfl (fun a E=>?_)
 refine sq fun K1 hK1=>pl0 (plx (t:=26) E S [iv x.f0,iv x.f1,iv x.f2,iv x.f3,.slice A0_4 x.f4.length c0_4,.slice A0_5 x.f5.length c0_5,.slice A0_6 x.f6.length c0_6] fun b2 u3 hb2 S a E=>pla (t:=26) E S [iv 0,iv 0,iv 0,iv 0,.slice none 0 0,.slice none 0 0,.slice none 0 0] fun b4 u5 hb4 S a E=>pld (hK1 _ _ (sq fun K6 hK6=>pl0 (plc E (.bn 0 0 7 (S.ba 1) .nil) (fun a E=>?_)))))
 obtain ⟨t8,h9,H⟩:=bd H
 refine ple E (.cl en69 (qAx.calls k x _ _ _ _ _ _ _ _ _ S.own.sub g0_4 g0_5 g0_6 h9)) ?_
 rintro _ u7 a ⟨F10,A11,c12,A15,c16,A19,c20,rfl,hC⟩ E
 have hs:=hC.sub
 replace S:=S.called (X:=[]) hC
 replace g0_4:=g0_4.mono hs
 replace g0_5:=g0_5.mono hs
 replace g0_6:=g0_6.mono hs
 replace g1_0:=g1_0.mono hs
 replace S:=S.front 4 rfl
 refine pls E S [iv t8.f0,iv t8.f1,iv t8.f2,iv t8.f3,.slice A11 t8.f4.length c12,.slice A15 t8.f5.length c16,.slice A19 t8.f6.length c20] fun u23 hb2 S a E=>pld (hK6 _ _ (sq fun K24 hK24=>rr E fun a E=>(wp_block ?_)))
 replace S:=S.front 1 rfl
 obtain ⟨F81,hs,g82,S⟩:=S.give
 replace g0_4:=g0_4.mono hs
 replace g0_5:=g0_5.mono hs
 replace g0_6:=g0_6.mono hs
 replace g1_0:=g1_0.mono hs
 replace S:=S.front 1 rfl
 obtain ⟨F83,hs,g84,S⟩:=S.give
 replace g0_4:=g0_4.mono hs
 replace g0_5:=g0_5.mono hs
 replace g0_6:=g0_6.mono hs
 replace g1_0:=g1_0.mono hs
 replace g82:=g82.mono hs
 replace S:=S.pm [0,2,1] 3
 refine wp_loop_ghost (fun kq45 a w'=>∃(G:NV)(x27:Int)(x28:Int)(x29:Int)(x30:Int)(x31:Int)(A32:OA)(c33:Nat)(l34:List qA)(A36:OA)(c37:Nat)(l38:List qE)(A40:OA)(c41:Nat)(l42:List qC)(F43:World),kq45≤k∧Env 24 G a∧At G [(2,.pointer (pb b2)),(4,.pointer (pb b4)),(9,.slice A1_0 y.length c1_0),(10,iv (y.length:Int)),(11,iv x27)]∧Sm W F w' F43 [box b2 #[iv x28,iv x29,iv x30,iv x31,.slice A32 l34.length c33,.slice A36 l38.length c37,.slice A40 l42.length c41] 26,box b4 #[iv 0,iv 0,iv 0,iv 0,.slice none 0 0,.slice none 0 0,.slice none 0 0] 26,row qC.k 73 (.slice A40 l42.length c41) l42]∧Rd qA.k F43 A32 c33 l34∧Rd qE.k F43 A36 c37 l38∧Rd qF.k F43 A1_0 c1_0 y∧qBh.l44 kq45 y x27 x28 x29 x30 x31 l34 l38 l42=some r) k ⟨_,0,t8.f0,t8.f1,t8.f2,t8.f3,A11,c12,t8.f4,A15,c16,t8.f5,A19,c20,t8.f6,F83,Nat.le_refl _,E,.of,S,g82,g84,g1_0,H⟩ ?_
 rintro kq45 a u47 ⟨G,x27,x28,x29,x30,x31,A32,c33,l34,A36,c37,l38,A40,c41,l42,F43,hkq,E,A,S,g35,g39,g1_0,H⟩
 obtain _ | k46:=kq45
 exact zz H
 rw [qBh.l44_s]at H
 obtain ⟨J,E⟩:=E.at A
 refine rr E fun a E=>(sq fun K49 hK49=>E.ik 12 H (fun c50 E H=>?_) fun c50 E H=>?_)
 refine wp_skip (hK49 _ _ (sq fun K51 hK51=>wp_block (sq fun K52 hK52=>pl0 ?_)))
 obtain ⟨c53,H⟩:=gd H
 have hE_:=E
 obtain ⟨ad54,rfl⟩:=g1_0.addr c53.1 c53.2
 replace E:=hE_
 obtain ⟨cs56,⟨A58,c59,rfl,g60⟩,hc57⟩:=g1_0.el qF.z x27 c53.1 c53.2
 refine plc E (.x 0 c53<|.cs 1 (S.fcs hc57)<|.nil) (fun a E=>pla (t:=29) E S [iv 0,iv 0,iv 0,iv 0,iv 0,iv 0,.slice none 0 0] fun b61 u62 hb61 S a E=>pls E S [iv ((nth qF.z y x27).f0),iv ((nth qF.z y x27).f1),iv ((nth qF.z y x27).f2),iv ((nth qF.z y x27).f3),iv ((nth qF.z y x27).f4),iv ((nth qF.z y x27).f5),.slice A58 (((nth qF.z y x27).f6).length) c59] fun u63 hb61 S a E=>pld (hK52 _ _ (pl0 (plc E (.bn 0 0 7 (S.ba 1)<|.bn 1 0 7 hb61<|.nil) (fun a E=>?_)))))
 replace S:=S.front 3 rfl
 obtain ⟨F64,hs,g65,S⟩:=S.give
 replace g1_0:=g1_0.mono hs
 replace g60:=g60.mono hs
 replace g35:=g35.mono hs
 replace g39:=g39.mono hs
 obtain ⟨t67,h68,H⟩:=bd H
 refine ple E (.cl en81 (qBI.calls k46 (⟨x28,x29,x30,x31,l34,l38,l42⟩:qD) (nth qF.z y x27) _ _ _ _ _ _ _ _ _ _ _ S.own.sub g35 g39 g65 g60 h68)) ?_
 rintro _ u66 a ⟨F69,A70,c71,A73,c74,A76,c77,rfl,hC,g72,g75⟩ E
 have hs:=hC.sub
 replace S:=S.called (X:=[]) hC
 replace g1_0:=g1_0.mono hs
 replace g60:=g60.mono hs
 replace g35:=g35.mono hs
 replace g39:=g39.mono hs
 replace g65:=g65.mono hs
 replace S:=S.front 2 rfl
 refine pls E S [iv t67.f0,iv t67.f1,iv t67.f2,iv t67.f3,.slice A70 t67.f4.length c71,.slice A73 t67.f5.length c74,.slice A76 t67.f6.length c77] fun u80 hb2 S a E=>pld ?_
 refine qCS ?_
 refine hK51 _ _ (pl0 (plc E (.r 0 2 .nil) (fun a E=>pld ?_)))
 replace S:=S.pm [0,3,1] 4
 exact qCT ⟨k46,by omega,_,(w64 (x27+1)),t67.f0,t67.f1,t67.f2,t67.f3,A70,c71,t67.f4,A73,c74,t67.f5,A76,c77,t67.f6,F69,by omega,E,.of,S,g72,g75,g1_0,H⟩
 refine wp_exit ?_
 refine hK24 _ _ (sq fun K85 hK85=>sq fun K86 hK86=>pl0 ?_)
 have hb2:=S.ba 0
 refine plc E (.bn 0 0 7 hb2 .nil) (fun a E=>?_)
 obtain ⟨t88,h89,H⟩:=bd H
 refine plq E S en65 (qAC.calls k46 (⟨x28,x29,x30,x31,l34,l38,l42⟩:qD) _ _ _ _ _ _ _ _ _ (Sub.refl _) (g35.mono S.own.sub) (g39.mono S.own.sub) (S.rd_at (i:=2) rfl) h89) fun u87 S a E=>plc E (.r 2 1 .nil) (fun a E=>pld (hK86 _ _ (E.ikn 21 H (fun c90 E H=>?_) fun c90 E H=>?_)))
 refine wp_skip (hK85 _ _ (sq fun K94 hK94=>pl0 (plc E (.bn 0 0 7 (S.ba 0) .nil) (fun a E=>?_))))
 replace S:=S.front 1 rfl
 refine pls E S [iv x28,iv x29,iv x30,iv x31,.slice A32 l34.length c33,.slice A36 l38.length c37,.slice A40 l42.length c41] fun u95 hb4 S a E=>pld (hK94 _ _ (wp_ret ?_))
 replace S:=S.pm [] 2
 obtain rfl:=si H
 exact ret1 E rfl (.cell (by kernel_rfl) (qCh [iv x28,iv x29,iv x30,iv x31,.slice A32 l34.length c33,.slice A36 l38.length c37,.slice A40 l42.length c41] ag26 sz26 hb4 rfl) .nil) ⟨_,rfl,_,_,_,_,_,_,_,rfl,S,g35,g39⟩
 refine sq fun K91 hK91=>pl0 (plc E (.r 0 1 .nil) (fun a E=>?_))
 replace S:=S.front 1 rfl
 refine pls E S [iv 0,iv 0,iv 0,iv 0,.slice none 0 0,.slice none 0 0,.slice none 0 0] fun u92 hb4 S a E=>pld (hK91 _ _ (wp_ret (qCQ ?_)))
 replace S:=S.nilrow qC.k 73
 replace S:=S.pm [0] 4
 obtain rfl:=si H
 exact ret1 E rfl (.cell (by kernel_rfl) (qCh [iv 0,iv 0,iv 0,iv 0,.slice none 0 0,.slice none 0 0,.slice none 0 0] ag26 sz26 hb4 rfl) .nil) ⟨_,rfl,_,_,_,_,_,_,_,rfl,S,(Rd.nil _ _),(Rd.nil _ _)⟩
mutual
def qBP.l44:Nat→List qF→Int→Int→Int→Int→Int→Int→List qA→List qE→List qC→Option (qD × Int)
 | 0,_,_,_,_,_,_,_,_,_,_=>none
 | k+1,y,x26,x27,x28,x29,x30,x31,l34,l38,l42=>if x27<(y.length:Int) then (if 0≤x27∧x27<(y.length:Int) then ((qAs.f k (⟨x28,x29,x30,x31,l34,l38,l42⟩:qD) (nth qF.z y x27)).bind fun t69=>(if t69.2=0 then (qBP.j93 k y x27 x28 x29 x30 x31 l34 l38 x26 l42) else (qBP.j93 k y x27 x28 x29 x30 x31 l34 l38 (w64 (x26+1)) l42))) else (none)) else (some ((⟨x28,x29,x30,x31,l34,l38,l42⟩:qD),x26))
def qBP.j93:Nat→List qF→Int→Int→Int→Int→Int→List qA→List qE→Int→List qC→Option (qD × Int)
 | 0,_,_,_,_,_,_,_,_,_,_=>none
 | k+1,y,x27,x28,x29,x30,x31,l34,l38,x87,l90=>(qBI.f k (⟨x28,x29,x30,x31,l34,l38,l90⟩:qD) (nth qF.z y x27)).bind fun t99=>(qBP.l44 k y x87 (w64 (x27+1)) t99.f0 t99.f1 t99.f2 t99.f3 t99.f4 t99.f5 t99.f6)
end
theorem qBP.l44_s k y x26 x27 x28 x29 x30 x31 l34 l38 l42:type_of% (qBP.l44.eq_2 y x26 x27 x28 x29 x30 x31 l34 l38 l42 k):=qBP.l44.eq_2 y x26 x27 x28 x29 x30 x31 l34 l38 l42 k
theorem qBP.j93_s k y x27 x28 x29 x30 x31 l34 l38 x87 l90:type_of% (qBP.j93.eq_2 y x27 x28 x29 x30 x31 l34 l38 x87 l90 k):=qBP.j93.eq_2 y x27 x28 x29 x30 x31 l34 l38 x87 l90 k
def qBP.f(k:Nat)(x:qD)(y:List qF):Option (qD × Int):=(qBh.f k x []).bind fun t8=>(qBP.l44 k y 0 0 t8.f0 t8.f1 t8.f2 t8.f3 t8.f4 t8.f5 t8.f6)
def qBP.Post(W F:World)(r:qD × Int)(v:Value)(w':World):Prop:=∃(F':World)(RA0_4:OA)(rc0_4:Nat)(RA0_5:OA)(rc0_5:Nat)(RA0_6:OA)(rc0_6:Nat),v = .tuple #[.agg #[iv r.1.f0,iv r.1.f1,iv r.1.f2,iv r.1.f3,.slice RA0_4 r.1.f4.length rc0_4,.slice RA0_5 r.1.f5.length rc0_5,.slice RA0_6 r.1.f6.length rc0_6],iv r.2]∧Sm W F w' F' [row qC.k 73 (.slice RA0_6 r.1.f6.length rc0_6) r.1.f6]∧Rd qA.k F' RA0_4 rc0_4 r.1.f4∧Rd qE.k F' RA0_5 rc0_5 r.1.f5
theorem qBP.calls(k:Nat)(x:qD)(y:List qF)(A0_4:OA)(c0_4:Nat)(A0_5:OA)(c0_5:Nat)(A0_6:OA)(c0_6:Nat)(A1_0:OA)(c1_0:Nat)(r:qD × Int)(W F:World)(hown:Sub F W)(g0_4:Rd qA.k F A0_4 c0_4 x.f4)(g0_5:Rd qE.k F A0_5 c0_5 x.f5)(g0_6:Rd qC.k F A0_6 c0_6 x.f6)(g1_0:Rd qF.k F A1_0 c1_0 y)(H:qBP.f k x y=some r):
    Cr 55 #[.agg #[iv x.f0,iv x.f1,iv x.f2,iv x.f3,.slice A0_4 x.f4.length c0_4,.slice A0_5 x.f5.length c0_5,.slice A0_6 x.f6.length c0_6],.slice A1_0 y.length c1_0] W (qBP.Post W F r):=by
 have S:=sT hown
 unfold qBP.f at H
 refine ent 35 rfl rfl rfl (fun a E=>?_)
 refine sq fun K1 hK1=>pl0 (plx (t:=26) E S [iv x.f0,iv x.f1,iv x.f2,iv x.f3,.slice A0_4 x.f4.length c0_4,.slice A0_5 x.f5.length c0_5,.slice A0_6 x.f6.length c0_6] fun b2 u3 hb2 S a E=>pla (t:=26) E S [iv 0,iv 0,iv 0,iv 0,.slice none 0 0,.slice none 0 0,.slice none 0 0] fun b4 u5 hb4 S a E=>plc E (.r 2 1 .nil) (fun a E=>pld (hK1 _ _ (sq fun K6 hK6=>pl0 (plc E (.bn 0 0 7 (S.ba 1) .nil) (fun a E=>?_))))))
 obtain ⟨t8,h9,H⟩:=bd H
 refine ple E (.cl en80 (qBh.calls k x [] _ _ _ _ _ _ _ _ _ _ _ S.own.sub g0_4 g0_5 g0_6 (Rd.nil _ _) h9)) ?_
 rintro _ u7 a ⟨F10,A11,c12,A14,c15,A17,c18,rfl,hC,g13,g16⟩ E
 have hs:=hC.sub
 replace S:=S.called (X:=[]) hC
 replace g0_4:=g0_4.mono hs
 replace g0_5:=g0_5.mono hs
 replace g0_6:=g0_6.mono hs
 replace g1_0:=g1_0.mono hs
 replace S:=S.front 2 rfl
 refine pls E S [iv t8.f0,iv t8.f1,iv t8.f2,iv t8.f3,.slice A11 t8.f4.length c12,.slice A14 t8.f5.length c15,.slice A17 t8.f6.length c18] fun u21 hb2 S a E=>pld (hK6 _ _ (rr E fun a E=>(sq fun K23 hK23=>rr E fun a E=>(wp_block ?_))))
 replace S:=S.pm [0,2,1] 3
 refine wp_loop_ghost (fun kq45 a w'=>∃(G:NV)(x26:Int)(x27:Int)(x28:Int)(x29:Int)(x30:Int)(x31:Int)(A32:OA)(c33:Nat)(l34:List qA)(A36:OA)(c37:Nat)(l38:List qE)(A40:OA)(c41:Nat)(l42:List qC)(F43:World),kq45≤k∧Env 35 G a∧At G [(2,.pointer (pb b2)),(4,.pointer (pb b4)),(6,iv x26),(13,.slice A1_0 y.length c1_0),(14,iv (y.length:Int)),(15,iv x27)]∧Sm W F w' F43 [box b2 #[iv x28,iv x29,iv x30,iv x31,.slice A32 l34.length c33,.slice A36 l38.length c37,.slice A40 l42.length c41] 26,box b4 #[iv 0,iv 0,iv 0,iv 0,.slice none 0 0,.slice none 0 0,.slice none 0 0] 26,row qC.k 73 (.slice A40 l42.length c41) l42]∧Rd qA.k F43 A32 c33 l34∧Rd qE.k F43 A36 c37 l38∧Rd qF.k F43 A1_0 c1_0 y∧qBP.l44 kq45 y x26 x27 x28 x29 x30 x31 l34 l38 l42=some r) k ⟨_,0,0,t8.f0,t8.f1,t8.f2,t8.f3,A11,c12,t8.f4,A14,c15,t8.f5,A17,c18,t8.f6,F10,Nat.le_refl _,E,.of,S,g13,g16,g1_0,H⟩ ?_
 rintro kq45 a u47 ⟨G,x26,x27,x28,x29,x30,x31,A32,c33,l34,A36,c37,l38,A40,c41,l42,F43,hkq,E,A,S,g35,g39,g1_0,H⟩
 obtain _ | k46:=kq45
 exact zz H
 rw [qBP.l44_s]at H
 obtain ⟨J,E⟩:=E.at A
 refine rr E fun a E=>(sq fun K49 hK49=>E.ik 16 H (fun c50 E H=>?_) fun c50 E H=>?_)
 refine wp_skip (hK49 _ _ (sq fun K51 hK51=>wp_block (sq fun K52 hK52=>pl0 ?_)))
 obtain ⟨c53,H⟩:=gd H
 have hE_:=E
 obtain ⟨ad54,rfl⟩:=g1_0.addr c53.1 c53.2
 replace E:=hE_
 obtain ⟨cs56,⟨A58,c59,rfl,g60⟩,hc57⟩:=g1_0.el qF.z x27 c53.1 c53.2
 refine plc E (.x 0 c53<|.cs 1 (S.fcs hc57)<|.nil) (fun a E=>pla (t:=29) E S [iv 0,iv 0,iv 0,iv 0,iv 0,iv 0,.slice none 0 0] fun b61 u62 hb61 S a E=>pls E S [iv ((nth qF.z y x27).f0),iv ((nth qF.z y x27).f1),iv ((nth qF.z y x27).f2),iv ((nth qF.z y x27).f3),iv ((nth qF.z y x27).f4),iv ((nth qF.z y x27).f5),.slice A58 (((nth qF.z y x27).f6).length) c59] fun u63 hb61 S a E=>pld (hK52 _ _ (sq fun K64 hK64=>?_)))
 have J96:∀ kq94,kq94≤k46→∀(G:NV)(x87:Int)(A88:OA)(c89:Nat)(l90:List qC)(F92:World)(a:Act)(w':World),Env 35 G a→At G [(2,.pointer (pb b2)),(4,.pointer (pb b4)),(6,iv x87),(8,.pointer (pb b61)),(13,.slice (some ad54) y.length c1_0),(14,iv (y.length:Int)),(15,iv x27)]→Sm W F w' F92 [box b61 #[iv ((nth qF.z y x27).f0),iv ((nth qF.z y x27).f1),iv ((nth qF.z y x27).f2),iv ((nth qF.z y x27).f3),iv ((nth qF.z y x27).f4),iv ((nth qF.z y x27).f5),.slice A58 (((nth qF.z y x27).f6).length) c59] 29,box b2 #[iv x28,iv x29,iv x30,iv x31,.slice A32 l34.length c33,.slice A36 l38.length c37,.slice A88 l90.length c89] 26,box b4 #[iv 0,iv 0,iv 0,iv 0,.slice none 0 0,.slice none 0 0,.slice none 0 0] 26]→Rd qC.k F92 A88 c89 l90→Rd qF.k F92 (some ad54) c1_0 y→Rd ki F92 A58 c59 ((nth qF.z y x27).f6)→Rd qA.k F92 A32 c33 l34→Rd qE.k F92 A36 c37 l38→qBP.j93 kq94 y x27 x28 x29 x30 x31 l34 l38 x87 l90=some r→K64 a w':=by
  intro kq94 hkq G x87 A88 c89 l90 F92 a u97 E A S g91 g1_0 g60 g35 g39 H
  obtain _ | k95:=kq94
  exact zz H
  rw [qBP.j93_s]at H
  obtain ⟨J,E⟩:=E.at A
  refine hK64 _ _ (pl0 (plc E (.bn 0 0 7 (S.ba 1)<|.bn 1 0 7 (S.ba 0)<|.nil) (fun a E=>?_)))
  obtain ⟨t99,h100,H⟩:=bd H
  refine ple E (.cl en81 (qBI.calls k95 (⟨x28,x29,x30,x31,l34,l38,l90⟩:qD) (nth qF.z y x27) _ _ _ _ _ _ _ _ _ _ _ S.own.sub g35 g39 g91 g60 h100)) ?_
  rintro _ u98 a ⟨F101,A102,c103,A105,c106,A108,c109,rfl,hC,g104,g107⟩ E
  have hs:=hC.sub
  replace S:=S.called (X:=[]) hC
  replace g1_0:=g1_0.mono hs
  replace g35:=g35.mono hs
  replace g39:=g39.mono hs
  replace g91:=g91.mono hs
  replace g60:=g60.mono hs
  replace S:=S.front 2 rfl
  refine pls E S [iv t99.f0,iv t99.f1,iv t99.f2,iv t99.f3,.slice A102 t99.f4.length c103,.slice A105 t99.f5.length c106,.slice A108 t99.f6.length c109] fun u112 hb2 S a E=>pld ?_
  refine qCS ?_
  refine hK51 _ _ (pl0 (plc E (.r 0 2 .nil) (fun a E=>pld ?_)))
  replace S:=S.pm [0,3,1] 4
  exact qCT ⟨k95,by omega,_,x87,(w64 (x27+1)),t99.f0,t99.f1,t99.f2,t99.f3,A102,c103,t99.f4,A105,c106,t99.f5,A108,c109,t99.f6,F101,by omega,E,.of,S,g104,g107,g1_0,H⟩
 refine sq fun K65 hK65=>pl0 (plc E (.bn 0 0 7 (S.ba 1)<|.bn 1 0 7 hb61<|.nil) (fun a E=>?_))
 replace S:=S.front 3 rfl
 obtain ⟨F66,hs,g67,S⟩:=S.give
 replace g1_0:=g1_0.mono hs
 replace g60:=g60.mono hs
 replace g35:=g35.mono hs
 replace g39:=g39.mono hs
 obtain ⟨t69,h70,H⟩:=bd H
 refine ple E (.cl en39 (qAs.calls k46 (⟨x28,x29,x30,x31,l34,l38,l42⟩:qD) (nth qF.z y x27) _ _ _ _ _ _ _ _ _ _ _ S.own.sub g35 g39 g67 g60 h70)) ?_
 rintro _ u68 a ⟨F71,A72,c73,A75,c76,A78,c79,rfl,hC,g74,g77⟩ E
 have hs:=hC.sub
 replace S:=S.called (X:=[]) hC
 replace g1_0:=g1_0.mono hs
 replace g60:=g60.mono hs
 replace g35:=g35.mono hs
 replace g39:=g39.mono hs
 replace g67:=g67.mono hs
 refine plc E (.r 3 3 .nil) (fun a E=>pla (t:=26) E S [iv 0,iv 0,iv 0,iv 0,.slice none 0 0,.slice none 0 0,.slice none 0 0] fun b82 u83 hb82 S a E=>pls E S [iv t69.1.f0,iv t69.1.f1,iv t69.1.f2,iv t69.1.f3,.slice A72 t69.1.f4.length c73,.slice A75 t69.1.f5.length c76,.slice A78 t69.1.f6.length c79] fun u84 hb82 S a E=>plc E (.r 8 1 .nil) (fun a E=>pld (hK65 _ _ (rr E fun a E=>(E.ikn 26 H (fun c86 E H=>?_) fun c86 E H=>?_)))))
 refine wp_skip ?_
 replace S:=S.pm [] 2
 exact J96 _ (by omega) _ x26 A40 c41 l42 F71 _ _ E .of S g67 g1_0 g60 g35 g39 H
 refine pl0 (plc E (.r 0 3 .nil) (fun a E=>pld ?_))
 replace S:=S.pm [] 2
 exact J96 _ (by omega) _ (w64 (x26+1)) A40 c41 l42 F71 _ _ E .of S g67 g1_0 g60 g35 g39 H
 refine wp_exit ?_
 refine hK23 _ _ (sq fun K113 hK113=>pl0 (plc E (.bn 0 0 7 (S.ba 0)<|.r 1 1<|.nil) (fun a E=>?_)))
 replace S:=S.front 1 rfl
 refine pls E S [iv x28,iv x29,iv x30,iv x31,.slice A32 l34.length c33,.slice A36 l38.length c37,.slice A40 l42.length c41] fun u114 hb4 S a E=>plc E (.r 3 1 .nil) (fun a E=>pld (hK113 _ _ (wp_ret ?_)))
 replace S:=S.pm [] 2
 obtain rfl:=si H
 exact rtm E (.b hb4 ag26 sz26 (.t .nil)) ⟨_,rfl,_,_,_,_,_,_,_,rfl,S,g35,g39⟩
def qAr.f(k:Nat):Option Bool:=(qAo.f k 3 1).bind fun t4=>((qBS.f k t4 (⟨1,2,0,0,0⟩:qAY)).bind fun t28=>((qBP.f k t4 t28.1).bind fun t39=>(if t28.2=0 then (if (t28.1.length:Int)=3 then (if t39.2=0 then ((qBH.f k t39.1 (⟨1,2,0,0,0⟩:qAY)).bind fun t60=>(if t60=true then ((qBH.f k t4 (⟨1,2,0,0,0⟩:qAY)).bind fun t64=>(some (!t64))) else (some false))) else (some false)) else (some false)) else (some false))))
def qAr.Post(W F:World)(r:Bool)(v:Value)(w':World):Prop:=∃(F':World),v = .bool r∧Sm W F w' F' []
theorem qAr.calls(k:Nat)(r:Bool)(W F:World)(hown:Sub F W)(H:qAr.f k=some r):
    Cr 31 #[] W (qAr.Post W F r):=by
 have S:=sT hown
 unfold qAr.f at H
 refine ent 43 rfl rfl rfl (fun a E=>?_)
 refine rr E fun a E=>(sq fun K2 hK2=>pl0 ?_)
 obtain ⟨t4,h5,H⟩:=bd H
 refine ple E (.cl en37 (qAo.calls k 3 1 _ _ _ S.own.sub h5)) ?_
 rintro _ u3 a ⟨F6,A7,c8,A10,c11,A13,c14,rfl,hC,g9,g12⟩ E
 have hs:=hC.sub
 replace S:=S.called (X:=[]) hC
 refine pla (t:=26) E S [iv 0,iv 0,iv 0,iv 0,.slice none 0 0,.slice none 0 0,.slice none 0 0] fun b17 u18 hb17 S a E=>pls E S [iv t4.f0,iv t4.f1,iv t4.f2,iv t4.f3,.slice A7 t4.f4.length c8,.slice A10 t4.f5.length c11,.slice A13 t4.f6.length c14] fun u19 hb17 S a E=>pld (hK2 _ _ (sq fun K20 hK20=>pl0 (plc E (.r 0 1 .nil) (fun a E=>pla (t:=65) E S [iv 0,iv 0,iv 0,iv 0,iv 0] fun b21 u22 hb21 S a E=>pls E S [iv 1,iv 2,iv 0,iv 0,iv 0] fun u23 hb21 S a E=>pld (hK20 _ _ (sq fun K24 hK24=>pl0 (plc E (.bn 0 0 7 (S.ba 1)<|.bn 1 0 5 hb21<|.nil) (fun a E=>?_))))))))
 replace S:=S.front 2 rfl
 obtain ⟨F25,hs,g26,S⟩:=S.give
 replace g9:=g9.mono hs
 replace g12:=g12.mono hs
 obtain ⟨t28,h29,H⟩:=bd H
 refine ple E (.cl en32 (qBS.calls k t4 (⟨1,2,0,0,0⟩:qAY) _ _ _ _ _ _ _ _ _ S.own.sub g9 g12 g26 h29)) ?_
 rintro _ u27 a ⟨F30,A31,c32,rfl,hC⟩ E
 have hs:=hC.sub
 replace S:=S.called (X:=[]) hC
 replace g9:=g9.mono hs
 replace g12:=g12.mono hs
 replace g26:=g26.mono hs
 refine plc E (.r 3 5 .nil) (fun a E=>pld (hK24 _ _ (sq fun K35 hK35=>pl0 ?_)))
 have hb17:=S.ba 2
 refine plc E (.bn 0 0 7 hb17<|.r 1 1<|.nil) (fun a E=>?_)
 obtain ⟨F36,hs,g37,S⟩:=S.give
 replace g9:=g9.mono hs
 replace g12:=g12.mono hs
 replace g26:=g26.mono hs
 obtain ⟨t39,h40,H⟩:=bd H
 refine ple E (.cl en55 (qBP.calls k t4 t28.1 _ _ _ _ _ _ _ _ _ _ _ S.own.sub g9 g12 g26 g37 h40)) ?_
 rintro _ u38 a ⟨F41,A42,c43,A45,c46,A48,c49,rfl,hC,g44,g47⟩ E
 have hs:=hC.sub
 replace S:=S.called (X:=[]) hC
 replace g37:=g37.mono hs
 replace g9:=g9.mono hs
 replace g12:=g12.mono hs
 replace g26:=g26.mono hs
 refine plc E (.r 3 3 .nil) (fun a E=>pla (t:=26) E S [iv 0,iv 0,iv 0,iv 0,.slice none 0 0,.slice none 0 0,.slice none 0 0] fun b52 u53 hb52 S a E=>pls E S [iv t39.1.f0,iv t39.1.f1,iv t39.1.f2,iv t39.1.f3,.slice A42 t39.1.f4.length c43,.slice A45 t39.1.f5.length c46,.slice A48 t39.1.f6.length c49] fun u54 hb52 S a E=>plc E (.r 8 1 .nil) (fun a E=>pld (hK35 _ _ (sq fun K55 hK55=>pl0 (plc E (.r 0 3 .nil) (fun a E=>E.fk 23 H (fun c56 E H=>?_) fun c56 E H=>?_))))))
 refine plc E (.r 3 5 .nil) (fun a E=>E.fk 28 H (fun c57 E H=>?_) fun c57 E H=>?_)
 refine plc E (.r 8 4 .nil) (fun a E=>E.fk 32 H (fun c58 E H=>?_) fun c58 E H=>?_)
 have hb21:=S.ba 2
 refine plc E (.bn 12 0 7 hb52<|.bn 13 0 5 hb21<|.nil) (fun a E=>?_)
 obtain ⟨t60,h61,H⟩:=bd H
 refine plq E S en36 (qBH.calls k t39.1 (⟨1,2,0,0,0⟩:qAY) _ _ _ _ _ _ _ _ _ (Sub.refl _) (g44.mono S.own.sub) (g47.mono S.own.sub) (S.rd_at (i:=1) rfl) h61) fun u59 S a E=>plc E (.r 15 2 .nil) (fun a E=>E.fb 37 H (fun c62 E H=>?_) fun c62 E H=>?_)
 refine plc E (.bn 17 0 7 (S.ba 3)<|.bn 18 0 5 (S.ba 2)<|.nil) (fun a E=>?_)
 obtain ⟨t64,h65,H⟩:=bd H
 refine plq E S en36 (qBH.calls k t4 (⟨1,2,0,0,0⟩:qAY) _ _ _ _ _ _ _ _ _ S.own.sub g9 g12 g26 h65) fun u63 S a E=>plc E (.r 20 3 .nil) (fun a E=>pld (hK55 _ _ (wp_ret ?_)))
 replace S:=S.pm [] 4
 obtain rfl:=si H
 exact rt1 E ⟨_,rfl,_,rfl,S⟩
 refine plc E (.r 17 6 .nil) (fun a E=>pld (hK55 _ _ (wp_ret ?_)))
 replace S:=S.pm [] 4
 obtain rfl:=si H
 exact rt1 E ⟨_,rfl,_,rfl,S⟩
 refine plc E (.r 12 11 .nil) (fun a E=>pld (hK55 _ _ (wp_ret ?_)))
 replace S:=S.pm [] 4
 obtain rfl:=si H
 exact rt1 E ⟨_,rfl,_,rfl,S⟩
 refine plc E (.r 8 15 .nil) (fun a E=>pld (hK55 _ _ (wp_ret ?_)))
 replace S:=S.pm [] 4
 obtain rfl:=si H
 exact rt1 E ⟨_,rfl,_,rfl,S⟩
 refine plc E (.r 3 20 .nil) (fun a E=>pld (hK55 _ _ (wp_ret ?_)))
 replace S:=S.pm [] 4
 obtain rfl:=si H
 exact rt1 E ⟨_,rfl,_,rfl,S⟩
def qAJ.l7:Nat→qD→Int→Int→Option (List Int)
 | 0,_,_,_=>none
 | k+1,x,y,x6=>if x6<(x.f5.length:Int) then (if 0≤x6∧x6<(x.f5.length:Int) then (if (nth qE.z x.f5 x6).f0=y then (some ((nth qE.z x.f5 x6).f1)) else (qAJ.l7 k x y (w64 (x6+1)))) else (none)) else (some [])
theorem qAJ.l7_s k x y x6:type_of% (qAJ.l7.eq_2 x y x6 k):=qAJ.l7.eq_2 x y x6 k
def qAJ.f(k:Nat)(x:qD)(y:Int):Option (List Int):=qAJ.l7 k x y 0
def qAJ.Post(W F:World)(r:List Int)(v:Value)(w':World):Prop:=∃(F':World)(RA0_0:OA)(rc0_0:Nat),v = .slice RA0_0 r.length rc0_0∧Sm W F w' F' []∧Rd ki F' RA0_0 rc0_0 r
theorem qAJ.calls(k:Nat)(x:qD)(y:Int)(A0_4:OA)(c0_4:Nat)(A0_5:OA)(c0_5:Nat)(A0_6:OA)(c0_6:Nat)(r:List Int)(W F:World)(hown:Sub F W)(g0_4:Rd qA.k F A0_4 c0_4 x.f4)(g0_5:Rd qE.k F A0_5 c0_5 x.f5)(g0_6:Rd qC.k F A0_6 c0_6 x.f6)(H:qAJ.f k x y=some r):
    Cr 61 #[.agg #[iv x.f0,iv x.f1,iv x.f2,iv x.f3,.slice A0_4 x.f4.length c0_4,.slice A0_5 x.f5.length c0_5,.slice A0_6 x.f6.length c0_6],iv y] W (qAJ.Post W F r):=by
 have S:=sT hown
 unfold qAJ.f at H
 refine ent 27 rfl rfl rfl (fun a E=>?_)
 refine sq fun K1 hK1=>pl0 (plx (t:=26) E S [iv x.f0,iv x.f1,iv x.f2,iv x.f3,.slice A0_4 x.f4.length c0_4,.slice A0_5 x.f5.length c0_5,.slice A0_6 x.f6.length c0_6] fun b2 u3 hb2 S a E=>plc E (.r 1 1 .nil) (fun a E=>pld (hK1 _ _ (sq fun K4 hK4=>rr E fun a E=>(wp_block ?_)))))
 refine wp_loop_ghost (fun kq8 a w'=>∃(G:NV)(x6:Int),kq8≤k∧Env 27 G a∧At G [(1,iv y),(2,.pointer (pb b2)),(5,iv x6)]∧Sm W F w' F [box b2 #[iv x.f0,iv x.f1,iv x.f2,iv x.f3,.slice A0_4 x.f4.length c0_4,.slice A0_5 x.f5.length c0_5,.slice A0_6 x.f6.length c0_6] 26]∧qAJ.l7 kq8 x y x6=some r) k ⟨_,0,Nat.le_refl _,E,.of,S,H⟩ ?_
 rintro kq8 a u10 ⟨G,x6,hkq,E,A,S,H⟩
 obtain _ | k9:=kq8
 exact zz H
 rw [qAJ.l7_s]at H
 obtain ⟨J,E⟩:=E.at A
 refine sq fun K11 hK11=>sq fun K12 hK12=>pl0 ?_
 have hb2:=S.ba 0
 refine plc E (.r 0 2<|.b 2 5 hb2<|.r 3 2<|.nil) (fun a E=>pld (hK12 _ _ (E.ik 10 H (fun c13 E H=>?_) fun c13 E H=>?_)))
 refine wp_skip (hK11 _ _ (sq fun K14 hK14=>wp_block (sq fun K15 hK15=>pl0 ?_)))
 obtain ⟨c16,H⟩:=gd H
 have hE_:=E
 obtain ⟨ad17,rfl⟩:=g0_5.addr c16.1 c16.2
 replace E:=hE_
 obtain ⟨cs19,⟨A21,c22,rfl,g23⟩,hc20⟩:=g0_5.el qE.z x6 c16.1 c16.2
 refine plc E (.r 0 1<|.b 1 5 hb2<|.r 2 1<|.x 3 c16<|.r 4 1<|.c 5 (S.fc hc20 0)<|.r 6 2<|.nil) (fun a E=>pld (hK15 _ _ (E.ik 20 H (fun c24 E H=>?_) fun c24 E H=>?_)))
 refine rg E (.r 0 1<|.b 1 5 hb2<|.r 2 1<|.x 3 c16<|.r 4 1<|.c 5 (S.fc hc20 1)<|.r 6 1<|.nil) fun a E=>(wp_ret (qCR (qCQ (qCQ (qCR (qCQ ?_))))))
 replace S:=S.tail
 obtain rfl:=si H
 exact rt1 E ⟨_,rfl,_,_,_,rfl,S,g23⟩
 refine wp_skip ?_
 refine qCS ?_
 refine hK14 _ _ (pl0 (plc E (.r 0 3 .nil) (fun a E=>pld ?_)))
 exact qCT ⟨k9,by omega,_,(w64 (x6+1)),by omega,E,.of,S,H⟩
 refine wp_exit ?_
 refine hK4 _ _ (rr E fun a E=>(wp_ret ?_))
 replace S:=S.tail
 obtain rfl:=si H
 exact rt1 E ⟨_,rfl,_,_,_,rfl,S,(Rd.nil _ _)⟩
def qAy.f(x:qA):Option Int:=if x.f5=true then (some x.f3) else (some 0)
def qAy.Post(W F:World)(r:Int)(v:Value)(w':World):Prop:=∃(F':World),v=iv r∧Sm W F w' F' []
theorem qAy.calls(x:qA)(r:Int)(W F:World)(hown:Sub F W)(H:qAy.f x=some r):
    Cr 142 #[.agg #[iv x.f0,iv x.f1,iv x.f2,iv x.f3,.bool x.f4,.bool x.f5]] W (qAy.Post W F r):=by
 have S:=sT hown
 unfold qAy.f at H
 refine ent 7 rfl rfl rfl (fun a E=>?_)
 refine sq fun K1 hK1=>pl0 (plx (t:=68) E S [iv x.f0,iv x.f1,iv x.f2,iv x.f3,.bool x.f4,.bool x.f5] fun b2 u3 hb2 S a E=>plc E (.r 1 1 .nil) (fun a E=>pld (hK1 _ _ (sq fun K4 hK4=>rg E (.r 0 1<|.b 1 5 hb2<|.nil) fun a E=>(E.ib 4 H (fun c6 E H=>?_) fun c6 E H=>?_)))))
 refine rg E (.r 0 1<|.b 1 3 hb2<|.r 2 1<|.nil) fun a E=>(wp_ret (qCQ ?_))
 replace S:=S.tail
 obtain rfl:=si H
 exact rt1 E ⟨_,rfl,_,rfl,S⟩
 refine wp_skip (hK4 _ _ (rr E fun a E=>(wp_ret ?_)))
 replace S:=S.tail
 obtain rfl:=si H
 exact rt1 E ⟨_,rfl,_,rfl,S⟩
mutual
def qp.l14:Nat→List qA→Int→Int→List qB→Int→Option (List qB)
 | 0,_,_,_,_,_=>none
 | k+1,x,y,z,l12,x13=>if x13<(x.length:Int) then (if y=0 then (if z=0 then (qp.j41 k x y z l12 x13 true) else (if 0≤x13∧x13<(x.length:Int) then (qp.j41 k x y z l12 x13 ((nth qA.z x x13).f2 == z)) else (none))) else (if 0≤x13∧x13<(x.length:Int) then (if (nth qA.z x x13).f1=y then (if z=0 then (qp.j41 k x y z l12 x13 true) else (qp.j41 k x y z l12 x13 ((nth qA.z x x13).f2 == z))) else (qp.j41 k x y z l12 x13 false)) else (none))) else (some l12)
def qp.j41:Nat→List qA→Int→Int→List qB→Int→Bool→Option (List qB)
 | 0,_,_,_,_,_,_=>none
 | k+1,x,y,z,l12,x13,y40=>if y40=true then (if 0≤x13∧x13<(x.length:Int) then ((qAy.f (nth qA.z x x13)).bind fun t56=>(if ((l12.length:Int)+((1:Nat):Int)) * 16≤140737488355328 then (qp.l14 k x y z (l12++[(⟨(nth qA.z x x13).f0,t56⟩:qB)]) (w64 (x13+1))) else (none))) else (none)) else (qp.l14 k x y z l12 (w64 (x13+1)))
end
theorem qp.l14_s k x y z l12 x13:type_of% (qp.l14.eq_2 x y z l12 x13 k):=qp.l14.eq_2 x y z l12 x13 k
theorem qp.j41_s k x y z l12 x13 y40:type_of% (qp.j41.eq_2 x y z l12 x13 y40 k):=qp.j41.eq_2 x y z l12 x13 y40 k
def qp.f(k:Nat)(x:List qA)(y:Int)(z:Int):Option (List qB):=qp.l14 k x y z ([]:List qB) 0
def qp.Post(W F:World)(r:List qB)(v:Value)(w':World):Prop:=∃(F':World)(RA0_0:OA)(rc0_0:Nat),v = .slice RA0_0 r.length rc0_0∧Sm W F w' F' [row qB.k 139 (.slice RA0_0 r.length rc0_0) r]
theorem qp.calls(k:Nat)(x:List qA)(y:Int)(z:Int)(A0_0:OA)(c0_0:Nat)(r:List qB)(W F:World)(hown:Sub F W)(g0_0:Rd qA.k F A0_0 c0_0 x)(H:qp.f k x y z=some r):
    Cr 116 #[.slice A0_0 x.length c0_0,iv y,iv z] W (qp.Post W F r):=by
 have S:=sT hown
 unfold qp.f at H
 refine ent 55 rfl rfl rfl (fun a E=>?_)
 refine rr E fun a E=>(sq fun K2 hK2=>pl0 (ple E (.lit (d:=qB.k) (e:=139) S ([]:List qB) (.nil)) ?_))
 rintro _ u3 a ⟨A4,c5,rfl,S,hg⟩ E
 refine plc E (.r 1 1 .nil) (fun a E=>pld (hK2 _ _ (sq fun K7 hK7=>rr E fun a E=>(wp_block ?_))))
 refine wp_loop_ghost (fun kq15 a w'=>∃(G:NV)(A10:OA)(c11:Nat)(l12:List qB)(x13:Int),kq15≤k∧Env 55 G a∧At G [(0,.slice A0_0 x.length c0_0),(1,iv y),(2,iv z),(7,.slice A10 l12.length c11),(8,iv x13)]∧Sm W F w' F [row qB.k 139 (.slice A10 l12.length c11) l12]∧qp.l14 kq15 x y z l12 x13=some r) k ⟨_,A4,c5,([]:List qB),0,Nat.le_refl _,E,.of,S,H⟩ ?_
 rintro kq15 a u17 ⟨G,A10,c11,l12,x13,hkq,E,A,S,H⟩
 obtain _ | k16:=kq15
 exact zz H
 rw [qp.l14_s]at H
 obtain ⟨J,E⟩:=E.at A
 refine sq fun K18 hK18=>rr E fun a E=>(E.ik 13 H (fun c20 E H=>?_) fun c20 E H=>?_)
 refine wp_skip (hK18 _ _ (sq fun K21 hK21=>wp_block (sq fun K22 hK22=>?_)))
 have J44:∀ kq42,kq42≤k16→∀(G:NV)(y40:Bool)(a:Act)(w':World),Env 55 G a→At G [(0,.slice A0_0 x.length c0_0),(1,iv y),(2,iv z),(7,.slice A10 l12.length c11),(8,iv x13),(39,.bool y40)]→Sm W F w' F [row qB.k 139 (.slice A10 l12.length c11) l12]→qp.j41 kq42 x y z l12 x13 y40=some r→K22 a w':=by
  intro kq42 hkq G y40 a u45 E A S H
  obtain _ | k43:=kq42
  exact zz H
  rw [qp.j41_s]at H
  obtain ⟨J,E⟩:=E.at A
  refine hK22 _ _ (E.ib 39 H (fun c46 E H=>?_) fun c46 E H=>?_)
  refine drawn 15 ⟨[13],[],fun q=>False⟩ mixed rfl (by kernel_rfl) (fun hst=>?_)
  replace S:=S.drew
  obtain ⟨c47,H⟩:=gd H
  have hE_:=E
  obtain ⟨ad48,rfl⟩:=g0_0.addr c47.1 c47.2
  replace E:=hE_
  obtain ⟨cs50,rfl,hc51⟩:=g0_0.el qA.z x13 c47.1 c47.2
  refine mny 5 hst E (.r 0 3<|.x 3 c47<|.r 4 1<|.c 5 (S.fc hc51 0)<|.r 6 2<|.x 8 c47<|.cs 9 (S.fcs hc51)<|.nil) (fun a E=>?_)
  obtain ⟨t56,h57,H⟩:=bd H
  refine on1 10 E (.cl en142 (qAy.calls (nth qA.z x x13) _ _ _ S.own.sub h57)) ?_
  rintro _ u55 a ⟨_,rfl,hC⟩ E
  refine ⟨.of hC.agr,?_⟩
  replace S:=S.lent hC
  refine mny 3 hst E (.r 11 1 .nil) (fun a E=>?_)
  refine on1 12 E (.lit (d:=qB.k) (e:=139) S [(⟨(nth qA.z x x13).f0,t56⟩:qB)] (.cons rfl .nil)) ?_
  rintro _ u58 a ⟨A59,c60,rfl,S,hg⟩ E
  refine ⟨.of hg,?_⟩
  obtain ⟨c62,H⟩:=gd H
  replace S:=S.front 1 rfl
  refine on1 13 E (.ap (d:=qB.k) 16 S (qCX (S.row_at (i:=1) rfl)) c62 c60) ?_
  rintro _ u65 a ⟨A63,c64,rfl,S,hz⟩ E
  refine ⟨.d,?_⟩
  refine mny 0 hst E (.r 14 1 .nil) (fun a E=>?_)
  refine dn ?_
  refine qCS ?_
  refine hK21 _ _ (pl0 (plc E (.r 0 3 .nil) (fun a E=>pld ?_)))
  replace S:=S.pm [0] 2
  exact qCT ⟨k43,by omega,_,A63,c64,(l12++[(⟨(nth qA.z x x13).f0,t56⟩:qB)]),(w64 (x13+1)),by omega,E,.of,S,H⟩
  refine wp_skip ?_
  refine qCS ?_
  refine hK21 _ _ (pl0 (plc E (.r 0 3 .nil) (fun a E=>pld ?_)))
  exact qCT ⟨k43,by omega,_,A10,c11,l12,(w64 (x13+1)),by omega,E,.of,S,H⟩
 refine pl0 (plc E (.r 0 3 .nil) (fun a E=>E.fk 18 H (fun c23 E H=>?_) fun c23 E H=>?_))
 refine plc E (.r 3 12 .nil) (fun a E=>E.fk 30 H (fun c24 E H=>?_) fun c24 E H=>?_)
 refine plc E (.r 15 9 .nil) (fun a E=>pld ?_)
 exact J44 _ (by omega) _ true _ _ E .of S H
 obtain ⟨c25,H⟩:=gd H
 have hE_:=E
 obtain ⟨ad26,rfl⟩:=g0_0.addr c25.1 c25.2
 replace E:=hE_
 obtain ⟨cs28,rfl,hc29⟩:=g0_0.el qA.z x13 c25.1 c25.2
 refine plc E (.r 15 2<|.x 17 c25<|.r 18 1<|.c 19 (S.fc hc29 2)<|.r 20 4<|.nil) (fun a E=>pld ?_)
 exact J44 _ (by omega) _ ((nth qA.z x x13).f2 == z) _ _ E .of S H
 obtain ⟨c30,H⟩:=gd H
 have hE_:=E
 obtain ⟨ad31,rfl⟩:=g0_0.addr c30.1 c30.2
 replace E:=hE_
 obtain ⟨cs33,rfl,hc34⟩:=g0_0.el qA.z x13 c30.1 c30.2
 refine plc E (.r 3 2<|.x 5 c30<|.r 6 1<|.c 7 (S.fc hc34 1)<|.r 8 4<|.nil) (fun a E=>E.fk 27 H (fun c35 E H=>?_) fun c35 E H=>?_)
 refine plc E (.r 12 3 .nil) (fun a E=>E.fk 30 H (fun c36 E H=>?_) fun c36 E H=>?_)
 refine plc E (.r 15 9 .nil) (fun a E=>pld ?_)
 exact J44 _ (by omega) _ true _ _ E .of S H
 refine plc E (.r 15 2<|.x 17 c30<|.r 18 1<|.c 19 (S.fc hc34 2)<|.r 20 4<|.nil) (fun a E=>pld ?_)
 exact J44 _ (by omega) _ ((nth qA.z x x13).f2 == z) _ _ E .of S H
 refine plc E (.r 12 12 .nil) (fun a E=>pld ?_)
 exact J44 _ (by omega) _ false _ _ E .of S H
 refine wp_exit ?_
 refine hK7 _ _ (rr E fun a E=>(wp_ret ?_))
 obtain rfl:=si H
 exact rt1 E ⟨_,rfl,_,_,_,rfl,S⟩
mutual
def ql.l14:Nat→List qA→List Int→List qB→Int→Option (List qB)
 | 0,_,_,_,_=>none
 | k+1,x,y,l12,x13=>if x13≤999 then (ql.l29 k x y l12 x13 0 false 0) else (some l12)
def ql.l29:Nat→List qA→List Int→List qB→Int→Int→Bool→Int→Option (List qB)
 | 0,_,_,_,_,_,_,_=>none
 | k+1,x,y,l12,x13,x26,y27,x28=>if x28<(x.length:Int) then (if 0≤x28∧x28<(y.length:Int) then (if (nth 0 y x28)=x13 then (if 0≤x28∧x28<(x.length:Int) then ((qAy.f (nth qA.z x x28)).bind fun t51=>(ql.l29 k x y l12 x13 (w64 (x26+t51)) true (w64 (x28+1)))) else (none)) else (ql.l29 k x y l12 x13 x26 y27 (w64 (x28+1)))) else (none)) else (if x26>65536 then (ql.j57 k x y l12 x13 y27 65536) else (ql.j57 k x y l12 x13 y27 x26))
def ql.j57:Nat→List qA→List Int→List qB→Int→Bool→Int→Option (List qB)
 | 0,_,_,_,_,_,_=>none
 | k+1,x,y,l12,x13,y27,x56=>if y27=true then (if ((l12.length:Int)+((1:Nat):Int)) * 16≤140737488355328 then (ql.l14 k x y (l12++[(⟨x13,x56⟩:qB)]) (w64 (x13+1))) else (none)) else (ql.l14 k x y l12 (w64 (x13+1)))
end
theorem ql.l14_s k x y l12 x13:type_of% (ql.l14.eq_2 x y l12 x13 k):=ql.l14.eq_2 x y l12 x13 k
theorem ql.l29_s k x y l12 x13 x26 y27 x28:type_of% (ql.l29.eq_2 x y l12 x13 x26 y27 x28 k):=ql.l29.eq_2 x y l12 x13 x26 y27 x28 k
theorem ql.j57_s k x y l12 x13 y27 x56:type_of% (ql.j57.eq_2 x y l12 x13 y27 x56 k):=ql.j57.eq_2 x y l12 x13 y27 x56 k
def ql.f(k:Nat)(x:List qA)(y:List Int):Option (List qB):=ql.l14 k x y ([]:List qB) 1
def ql.Post(W F:World)(r:List qB)(v:Value)(w':World):Prop:=∃(F':World)(RA0_0:OA)(rc0_0:Nat),v = .slice RA0_0 r.length rc0_0∧Sm W F w' F' [row qB.k 139 (.slice RA0_0 r.length rc0_0) r]
theorem ql.calls(k:Nat)(x:List qA)(y:List Int)(A0_0:OA)(c0_0:Nat)(A1_0:OA)(c1_0:Nat)(r:List qB)(W F:World)(hown:Sub F W)(g0_0:Rd qA.k F A0_0 c0_0 x)(g1_0:Rd ki F A1_0 c1_0 y)(H:ql.f k x y=some r):
    Cr 143 #[.slice A0_0 x.length c0_0,.slice A1_0 y.length c1_0] W (ql.Post W F r):=by
 have S:=sT hown
 unfold ql.f at H
 refine ent 44 rfl rfl rfl (fun a E=>?_)
 refine rr E fun a E=>(sq fun K2 hK2=>pl0 (ple E (.lit (d:=qB.k) (e:=139) S ([]:List qB) (.nil)) ?_))
 rintro _ u3 a ⟨A4,c5,rfl,S,hg⟩ E
 refine plc E (.r 1 1 .nil) (fun a E=>pld (hK2 _ _ (sq fun K7 hK7=>rr E fun a E=>(wp_block ?_))))
 refine wp_loop_ghost (fun kq15 a w'=>∃(G:NV)(A10:OA)(c11:Nat)(l12:List qB)(x13:Int),kq15≤k∧Env 44 G a∧At G [(0,.slice A0_0 x.length c0_0),(1,.slice A1_0 y.length c1_0),(5,.slice A10 l12.length c11),(6,iv x13)]∧Sm W F w' F [row qB.k 139 (.slice A10 l12.length c11) l12]∧ql.l14 kq15 x y l12 x13=some r) k ⟨_,A4,c5,([]:List qB),1,Nat.le_refl _,E,.of,S,H⟩ ?_
 rintro kq15 a u17 ⟨G,A10,c11,l12,x13,hkq,E,A,S,H⟩
 obtain _ | k16:=kq15
 exact zz H
 rw [ql.l14_s]at H
 obtain ⟨J,E⟩:=E.at A
 refine sq fun K18 hK18=>rr E fun a E=>(E.ik 12 H (fun c20 E H=>?_) fun c20 E H=>?_)
 refine wp_skip (hK18 _ _ (sq fun K21 hK21=>wp_block (rr E fun a E=>(rr E fun a E=>(sq fun K24 hK24=>rr E fun a E=>(wp_block ?_))))))
 refine wp_loop_ghost (fun kq30 a w'=>∃(G:NV)(x26:Int)(y27:Bool)(x28:Int),kq30≤k16∧Env 44 G a∧At G [(0,.slice A0_0 x.length c0_0),(1,.slice A1_0 y.length c1_0),(5,.slice A10 l12.length c11),(6,iv x13),(7,iv x26),(8,.bool y27),(9,iv x28)]∧Sm W F w' F [row qB.k 139 (.slice A10 l12.length c11) l12]∧ql.l29 kq30 x y l12 x13 x26 y27 x28=some r) k16 ⟨_,0,false,0,Nat.le_refl _,E,.of,S,H⟩ ?_
 rintro kq30 a u32 ⟨G,x26,y27,x28,hkq,E,A,S,H⟩
 obtain _ | k31:=kq30
 exact zz H
 rw [ql.l29_s]at H
 obtain ⟨J,E⟩:=E.at A
 refine sq fun K33 hK33=>rr E fun a E=>(E.ik 18 H (fun c35 E H=>?_) fun c35 E H=>?_)
 refine wp_skip (hK33 _ _ (sq fun K36 hK36=>wp_block (sq fun K37 hK37=>pl0 ?_)))
 obtain ⟨c38,H⟩:=gd H
 have hE_:=E
 obtain ⟨ad39,rfl⟩:=g1_0.addr c38.1 c38.2
 replace E:=hE_
 obtain ⟨cs41,rfl,hc42⟩:=g1_0.el 0 x28 c38.1 c38.2
 refine plc E (.r 0 2<|.x 2 c38<|.c 3 (S.fc hc42 0)<|.r 4 2<|.nil) (fun a E=>pld (hK37 _ _ (E.ik 26 H (fun c43 E H=>?_) fun c43 E H=>?_)))
 refine sq fun K44 hK44=>pl0 ?_
 obtain ⟨c45,H⟩:=gd H
 have hE_:=E
 obtain ⟨ad46,rfl⟩:=g0_0.addr c45.1 c45.2
 replace E:=hE_
 obtain ⟨cs48,rfl,hc49⟩:=g0_0.el qA.z x28 c45.1 c45.2
 refine plc E (.r 0 3<|.x 3 c45<|.cs 4 (S.fcs hc49)<|.nil) (fun a E=>?_)
 obtain ⟨t51,h52,H⟩:=bd H
 refine plq E S en142 (qAy.calls (nth qA.z x x28) _ _ _ S.own.sub h52) fun u50 S a E=>plc E (.r 6 2 .nil) (fun a E=>pld (hK44 _ _ (pl0 (plc E (.r 0 1 .nil) (fun a E=>pld ?_)))))
 refine qCS ?_
 refine hK36 _ _ (pl0 (plc E (.r 0 3 .nil) (fun a E=>pld ?_)))
 exact qCT ⟨k31,by omega,_,(w64 (x26+t51)),true,(w64 (x28+1)),by omega,E,.of,S,H⟩
 refine wp_skip ?_
 refine qCS ?_
 refine hK36 _ _ (pl0 (plc E (.r 0 3 .nil) (fun a E=>pld ?_)))
 exact qCT ⟨k31,by omega,_,x26,y27,(w64 (x28+1)),by omega,E,.of,S,H⟩
 refine wp_exit ?_
 refine hK24 _ _ (sq fun K53 hK53=>?_)
 have J60:∀ kq58,kq58≤k31→∀(G:NV)(x56:Int)(a:Act)(w':World),Env 44 G a→At G [(0,.slice A0_0 x.length c0_0),(1,.slice A1_0 y.length c1_0),(5,.slice A10 l12.length c11),(6,iv x13),(7,iv x56),(8,.bool y27)]→Sm W F w' F [row qB.k 139 (.slice A10 l12.length c11) l12]→ql.j57 kq58 x y l12 x13 y27 x56=some r→K53 a w':=by
  intro kq58 hkq G x56 a u61 E A S H
  obtain _ | k59:=kq58
  exact zz H
  rw [ql.j57_s]at H
  obtain ⟨J,E⟩:=E.at A
  refine hK53 _ _ (rr E fun a E=>(E.ib 36 H (fun c63 E H=>?_) fun c63 E H=>?_))
  refine pl0 (plc E (.r 0 4 .nil) (fun a E=>ple E (.lit (d:=qB.k) (e:=139) S [(⟨x13,x56⟩:qB)] (.cons rfl .nil)) ?_))
  rintro _ u64 a ⟨A65,c66,rfl,S,hg⟩ E
  obtain ⟨c68,H⟩:=gd H
  replace S:=S.front 1 rfl
  refine ple E (.ap (d:=qB.k) 16 S (qCX (S.row_at (i:=1) rfl)) c68 c66) ?_
  rintro _ u71 a ⟨A69,c70,rfl,S,hz⟩ E
  refine plc E (.r 6 1 .nil) (fun a E=>pld ?_)
  refine qCS ?_
  refine hK21 _ _ (pl0 (plc E (.r 0 3 .nil) (fun a E=>pld ?_)))
  replace S:=S.pm [0] 2
  exact qCT ⟨k59,by omega,_,A69,c70,(l12++[(⟨x13,x56⟩:qB)]),(w64 (x13+1)),by omega,E,.of,S,H⟩
  refine wp_skip ?_
  refine qCS ?_
  refine hK21 _ _ (pl0 (plc E (.r 0 3 .nil) (fun a E=>pld ?_)))
  exact qCT ⟨k59,by omega,_,A10,c11,l12,(w64 (x13+1)),by omega,E,.of,S,H⟩
 refine rr E fun a E=>(E.ik 35 H (fun c55 E H=>?_) fun c55 E H=>?_)
 refine pl0 (plc E (.r 0 1 .nil) (fun a E=>pld ?_))
 exact J60 _ (by omega) _ 65536 _ _ E .of S H
 refine wp_skip ?_
 exact J60 _ (by omega) _ x26 _ _ E .of S H
 refine wp_exit ?_
 refine hK7 _ _ (rr E fun a E=>(wp_ret ?_))
 obtain rfl:=si H
 exact rt1 E ⟨_,rfl,_,_,_,rfl,S⟩
def qAW.l12:Nat→List qA→List Int→Int→Option (List qB)
 | 0,_,_,_=>none
 | k+1,x,l10,x11=>if x11<(x.length:Int) then (if 0≤x11∧x11<(x.length:Int) then (if 0≤x11∧x11<((List.replicate ((x.length:Int)).toNat (0:Int)).length:Int) then (qAW.l12 k x (l10.set (x11).toNat ((nth qA.z x x11).f1)) (w64 (x11+1))) else (none)) else (none)) else ((ql.f k x l10).bind fun t40=>(some t40))
theorem qAW.l12_s k x l10 x11:type_of% (qAW.l12.eq_2 x l10 x11 k):=qAW.l12.eq_2 x l10 x11 k
def qAW.f(k:Nat)(x:List qA):Option (List qB):=if 0≤(x.length:Int)∧(x.length:Int) * 8≤140737488355328 then (qAW.l12 k x (List.replicate ((x.length:Int)).toNat (0:Int)) 0) else (none)
def qAW.Post(W F:World)(r:List qB)(v:Value)(w':World):Prop:=∃(F':World)(RA0_0:OA)(rc0_0:Nat),v = .slice RA0_0 r.length rc0_0∧Sm W F w' F' [row qB.k 139 (.slice RA0_0 r.length rc0_0) r]
theorem qAW.calls(k:Nat)(x:List qA)(A0_0:OA)(c0_0:Nat)(r:List qB)(W F:World)(hown:Sub F W)(g0_0:Rd qA.k F A0_0 c0_0 x)(H:qAW.f k x=some r):
    Cr 117 #[.slice A0_0 x.length c0_0] W (qAW.Post W F r):=by
 have S:=sT hown
 unfold qAW.f at H
 refine ent 25 rfl rfl rfl (fun a E=>?_)
 refine rr E fun a E=>(sq fun K2 hK2=>pl0 (plc E (.r 0 2 .nil) (fun a E=>?_)))
 obtain ⟨c3,H⟩:=gd H
 refine ple E (.mk (d:=ki) (e:=3) 8 0 S c3 (by rw [zr3]; exact rfl)) ?_
 rintro _ u6 a ⟨A4,c5,rfl,S,hg⟩ E
 refine plc E (.r 3 1 .nil) (fun a E=>pld (hK2 _ _ (sq fun K8 hK8=>rr E fun a E=>(wp_block ?_))))
 refine wp_loop_ghost (fun kq13 a w'=>∃(G:NV)(l10:List Int)(x11:Int),kq13≤k∧Env 25 G a∧At G [(0,.slice A0_0 x.length c0_0),(3,.slice A4 ((List.replicate ((x.length:Int)).toNat (0:Int)).length) c5),(4,iv x11)]∧Sm W F w' F [row ki 3 (.slice A4 ((List.replicate ((x.length:Int)).toNat (0:Int)).length) c5) l10]∧qAW.l12 kq13 x l10 x11=some r) k ⟨_,(List.replicate ((x.length:Int)).toNat (0:Int)),0,Nat.le_refl _,E,.of,S,H⟩ ?_
 rintro kq13 a u15 ⟨G,l10,x11,hkq,E,A,S,H⟩
 obtain _ | k14:=kq13
 exact zz H
 rw [qAW.l12_s]at H
 obtain ⟨J,E⟩:=E.at A
 refine sq fun K16 hK16=>rr E fun a E=>(E.ik 11 H (fun c18 E H=>?_) fun c18 E H=>?_)
 refine wp_skip (hK16 _ _ (sq fun K19 hK19=>wp_block (pl0 ?_)))
 obtain ⟨c20,H⟩:=gd H
 have hE_:=E
 obtain ⟨ad21,rfl⟩:=g0_0.addr c20.1 c20.2
 replace E:=hE_
 obtain ⟨cs23,rfl,hc24⟩:=g0_0.el qA.z x11 c20.1 c20.2
 obtain ⟨c25,H⟩:=gd H
 have hr26:=S.ra 0
 have c27:0≤x11∧x11<(l10.length:Int):=by rw [← (qCU hr26).1]; exact c25
 have hE_:=E
 obtain ⟨b28,rfl⟩:=qCW hr26 c27.1 c27.2
 replace E:=hE_
 have hr_:=S.ra 0
 obtain ⟨cs30,rfl,hc31⟩:=qCV hr_ 0 x11 c27.1 c27.2
 refine plc E (.r 0 4<|.x 4 c20<|.r 5 1<|.c 6 (S.fc hc24 1)<|.x 7 c25<|.nil) (fun a E=>?_)
 obtain ⟨cs33,rfl,hc34⟩:=qCV (S.row_at (i:=0) rfl) 0 x11 c27.1 c27.2
 refine ple E (.set (d:=ki) (n:=(List.replicate ((x.length:Int)).toNat (0:Int)).length) (i:=x11) ((nth qA.z x x11).f1) (0) (ea0 _ _) S c27 [iv (nth 0 l10 x11)] hc34 [iv ((nth qA.z x x11).f1)] rfl) ?_
 rintro _ u32 a ⟨rfl,S,hz⟩ E
 refine pld ?_
 refine qCS ?_
 refine hK19 _ _ (pl0 (plc E (.r 0 3 .nil) (fun a E=>pld ?_)))
 exact qCT ⟨k14,by omega,_,(l10.set (x11).toNat ((nth qA.z x x11).f1)),(w64 (x11+1)),by omega,E,.of,S,H⟩
 refine wp_exit ?_
 refine hK8 _ _ (sq fun K35 hK35=>pl0 (plc E (.r 0 2 .nil) (fun a E=>?_)))
 have hn36:=(qCU (S.row_at (i:=0) rfl)).1
 replace E:=E.set (d:=3) (v:=.slice A4 l10.length c5) (Eq.trans (b:=.slice A4 ((List.replicate ((x.length:Int)).toNat (0:Int)).length) c5) (by kernel_rfl) (by rw [← hn36]))
 replace E:=E.set (d:=23) (v:=.slice A4 l10.length c5) (Eq.trans (b:=.slice A4 ((List.replicate ((x.length:Int)).toNat (0:Int)).length) c5) (by kernel_rfl) (by rw [← hn36]))
 replace S:Sm W F u15 F [row ki 3 (.slice A4 l10.length c5) l10]:=by rw [← hn36]; exact S
 obtain ⟨F37,hs,g38,S⟩:=S.give
 replace g0_0:=g0_0.mono hs
 obtain ⟨t40,h41,H⟩:=bd H
 refine ple E (.cl en143 (ql.calls k14 x l10 _ _ _ _ _ _ _ S.own.sub g0_0 g38 h41)) ?_
 rintro _ u39 a ⟨F42,A43,c44,rfl,hC⟩ E
 have hs:=hC.sub
 replace S:=S.called (X:=[]) hC
 replace g0_0:=g0_0.mono hs
 replace g38:=g38.mono hs
 refine plc E (.r 3 1 .nil) (fun a E=>pld (hK35 _ _ (wp_ret ?_)))
 obtain rfl:=si H
 exact rt1 E ⟨_,rfl,_,_,_,rfl,S⟩
def qAR.l12:Nat→List qA→Int→List Int→Int→Option (List qB)
 | 0,_,_,_,_=>none
 | k+1,x,y,l10,x11=>if x11<(x.length:Int) then (if 0≤x11∧x11<(x.length:Int) then (if (nth qA.z x x11).f1=y then (if 0≤x11∧x11<((List.replicate ((x.length:Int)).toNat (0:Int)).length:Int) then (qAR.l12 k x y (l10.set (x11).toNat ((nth qA.z x x11).f2)) (w64 (x11+1))) else (none)) else (qAR.l12 k x y l10 (w64 (x11+1)))) else (none)) else ((ql.f k x l10).bind fun t45=>(some t45))
theorem qAR.l12_s k x y l10 x11:type_of% (qAR.l12.eq_2 x y l10 x11 k):=qAR.l12.eq_2 x y l10 x11 k
def qAR.f(k:Nat)(x:List qA)(y:Int):Option (List qB):=if 0≤(x.length:Int)∧(x.length:Int) * 8≤140737488355328 then (qAR.l12 k x y (List.replicate ((x.length:Int)).toNat (0:Int)) 0) else (none)
def qAR.Post(W F:World)(r:List qB)(v:Value)(w':World):Prop:=∃(F':World)(RA0_0:OA)(rc0_0:Nat),v = .slice RA0_0 r.length rc0_0∧Sm W F w' F' [row qB.k 139 (.slice RA0_0 r.length rc0_0) r]
theorem qAR.calls(k:Nat)(x:List qA)(y:Int)(A0_0:OA)(c0_0:Nat)(r:List qB)(W F:World)(hown:Sub F W)(g0_0:Rd qA.k F A0_0 c0_0 x)(H:qAR.f k x y=some r):
    Cr 118 #[.slice A0_0 x.length c0_0,iv y] W (qAR.Post W F r):=by
 have S:=sT hown
 unfold qAR.f at H
 refine ent 34 rfl rfl rfl (fun a E=>?_)
 refine rr E fun a E=>(sq fun K2 hK2=>pl0 (plc E (.r 0 2 .nil) (fun a E=>?_)))
 obtain ⟨c3,H⟩:=gd H
 refine ple E (.mk (d:=ki) (e:=3) 8 0 S c3 (by rw [zr3]; exact rfl)) ?_
 rintro _ u6 a ⟨A4,c5,rfl,S,hg⟩ E
 refine plc E (.r 3 1 .nil) (fun a E=>pld (hK2 _ _ (sq fun K8 hK8=>rr E fun a E=>(wp_block ?_))))
 refine wp_loop_ghost (fun kq13 a w'=>∃(G:NV)(l10:List Int)(x11:Int),kq13≤k∧Env 34 G a∧At G [(0,.slice A0_0 x.length c0_0),(1,iv y),(5,.slice A4 ((List.replicate ((x.length:Int)).toNat (0:Int)).length) c5),(6,iv x11)]∧Sm W F w' F [row ki 3 (.slice A4 ((List.replicate ((x.length:Int)).toNat (0:Int)).length) c5) l10]∧qAR.l12 kq13 x y l10 x11=some r) k ⟨_,(List.replicate ((x.length:Int)).toNat (0:Int)),0,Nat.le_refl _,E,.of,S,H⟩ ?_
 rintro kq13 a u15 ⟨G,l10,x11,hkq,E,A,S,H⟩
 obtain _ | k14:=kq13
 exact zz H
 rw [qAR.l12_s]at H
 obtain ⟨J,E⟩:=E.at A
 refine sq fun K16 hK16=>rr E fun a E=>(E.ik 13 H (fun c18 E H=>?_) fun c18 E H=>?_)
 refine wp_skip (hK16 _ _ (sq fun K19 hK19=>wp_block (sq fun K20 hK20=>pl0 ?_)))
 obtain ⟨c21,H⟩:=gd H
 have hE_:=E
 obtain ⟨ad22,rfl⟩:=g0_0.addr c21.1 c21.2
 replace E:=hE_
 obtain ⟨cs24,rfl,hc25⟩:=g0_0.el qA.z x11 c21.1 c21.2
 refine plc E (.r 0 2<|.x 2 c21<|.r 3 1<|.c 4 (S.fc hc25 1)<|.r 5 2<|.nil) (fun a E=>pld (hK20 _ _ (E.ik 22 H (fun c26 E H=>?_) fun c26 E H=>?_)))
 refine pl0 ?_
 obtain ⟨c30,H⟩:=gd H
 have hr31:=S.ra 0
 have c32:0≤x11∧x11<(l10.length:Int):=by rw [← (qCU hr31).1]; exact c30
 have hE_:=E
 obtain ⟨b33,rfl⟩:=qCW hr31 c32.1 c32.2
 replace E:=hE_
 have hr_:=S.ra 0
 obtain ⟨cs35,rfl,hc36⟩:=qCV hr_ 0 x11 c32.1 c32.2
 refine plc E (.r 0 4<|.x 4 c21<|.r 5 1<|.c 6 (S.fc hc25 2)<|.x 7 c30<|.nil) (fun a E=>?_)
 obtain ⟨cs38,rfl,hc39⟩:=qCV (S.row_at (i:=0) rfl) 0 x11 c32.1 c32.2
 refine ple E (.set (d:=ki) (n:=(List.replicate ((x.length:Int)).toNat (0:Int)).length) (i:=x11) ((nth qA.z x x11).f2) (0) (ea0 _ _) S c32 [iv (nth 0 l10 x11)] hc39 [iv ((nth qA.z x x11).f2)] rfl) ?_
 rintro _ u37 a ⟨rfl,S,hz⟩ E
 refine pld ?_
 refine qCS ?_
 refine hK19 _ _ (pl0 (plc E (.r 0 3 .nil) (fun a E=>pld ?_)))
 exact qCT ⟨k14,by omega,_,(l10.set (x11).toNat ((nth qA.z x x11).f2)),(w64 (x11+1)),by omega,E,.of,S,H⟩
 refine wp_skip ?_
 refine qCS ?_
 refine hK19 _ _ (pl0 (plc E (.r 0 3 .nil) (fun a E=>pld ?_)))
 exact qCT ⟨k14,by omega,_,l10,(w64 (x11+1)),by omega,E,.of,S,H⟩
 refine wp_exit ?_
 refine hK8 _ _ (sq fun K40 hK40=>pl0 (plc E (.r 0 2 .nil) (fun a E=>?_)))
 have hn41:=(qCU (S.row_at (i:=0) rfl)).1
 replace E:=E.set (d:=5) (v:=.slice A4 l10.length c5) (Eq.trans (b:=.slice A4 ((List.replicate ((x.length:Int)).toNat (0:Int)).length) c5) (by kernel_rfl) (by rw [← hn41]))
 replace E:=E.set (d:=32) (v:=.slice A4 l10.length c5) (Eq.trans (b:=.slice A4 ((List.replicate ((x.length:Int)).toNat (0:Int)).length) c5) (by kernel_rfl) (by rw [← hn41]))
 replace S:Sm W F u15 F [row ki 3 (.slice A4 l10.length c5) l10]:=by rw [← hn41]; exact S
 obtain ⟨F42,hs,g43,S⟩:=S.give
 replace g0_0:=g0_0.mono hs
 obtain ⟨t45,h46,H⟩:=bd H
 refine ple E (.cl en143 (ql.calls k14 x l10 _ _ _ _ _ _ _ S.own.sub g0_0 g43 h46)) ?_
 rintro _ u44 a ⟨F47,A48,c49,rfl,hC⟩ E
 have hs:=hC.sub
 replace S:=S.called (X:=[]) hC
 replace g0_0:=g0_0.mono hs
 replace g43:=g43.mono hs
 refine plc E (.r 3 1 .nil) (fun a E=>pld (hK40 _ _ (wp_ret ?_)))
 obtain rfl:=si H
 exact rt1 E ⟨_,rfl,_,_,_,rfl,S⟩
def qAt.f(x:Int):Option Int:=some (IntKind.u64.wrap ((IntKind.u64.wrap ((IntKind.u64.wrap (x.tdiv 4294967296)) * 4294967296))+(IntKind.u64.wrap (((BitVec.ofInt 64 (x.tmod 4294967296) ^^^ BitVec.ofInt 64 (IntKind.u64.wrap (x.tdiv 4294967296))).toNat:Int)))))
def qAt.Post(W F:World)(r:Int)(v:Value)(w':World):Prop:=∃(F':World),v = .int .u64 r∧Sm W F w' F' []
theorem qAt.calls(x:Int)(r:Int)(W F:World)(hown:Sub F W)(H:qAt.f x=some r):
    Cr 168 #[.int .u64 x] W (qAt.Post W F r):=by
 have S:=sT hown
 unfold qAt.f at H
 refine ent 15 rfl rfl rfl (fun a E=>?_)
 refine rr E fun a E=>(rr E fun a E=>(rr E fun a E=>(wp_ret ?_)))
 obtain rfl:=si H
 exact rt1 E ⟨_,rfl,_,rfl,S⟩
def qBG.f(x:Int):Option Int:=(qAt.f x).bind fun t4=>((qAt.f (IntKind.u64.wrap (t4 * 15485907386658061715))).bind fun t8=>((qAt.f (IntKind.u64.wrap (t8 * 15485907386658061715))).bind fun t12=>(some t12)))
def qBG.Post(W F:World)(r:Int)(v:Value)(w':World):Prop:=∃(F':World),v = .int .u64 r∧Sm W F w' F' []
theorem qBG.calls(x:Int)(r:Int)(W F:World)(hown:Sub F W)(H:qBG.f x=some r):
    Cr 146 #[.int .u64 x] W (qBG.Post W F r):=by
 have S:=sT hown
 unfold qBG.f at H
 refine ent 11 rfl rfl rfl (fun a E=>?_)
 refine rr E fun a E=>(sq fun K2 hK2=>pl0 (plc E (.r 0 1 .nil) (fun a E=>?_)))
 obtain ⟨t4,h5,H⟩:=bd H
 refine plq E S en168 (qAt.calls x _ _ _ S.own.sub h5) fun u3 S a E=>plc E (.r 2 2 .nil) (fun a E=>pld (hK2 _ _ (sq fun K6 hK6=>pl0 (plc E (.r 0 1 .nil) (fun a E=>?_)))))
 obtain ⟨t8,h9,H⟩:=bd H
 refine plq E S en168 (qAt.calls (IntKind.u64.wrap (t4 * 15485907386658061715)) _ _ _ S.own.sub h9) fun u7 S a E=>plc E (.r 2 2 .nil) (fun a E=>pld (hK6 _ _ (sq fun K10 hK10=>pl0 (plc E (.r 0 1 .nil) (fun a E=>?_)))))
 obtain ⟨t12,h13,H⟩:=bd H
 refine plq E S en168 (qAt.calls (IntKind.u64.wrap (t8 * 15485907386658061715)) _ _ _ S.own.sub h13) fun u11 S a E=>plc E (.r 2 1 .nil) (fun a E=>pld (hK10 _ _ (wp_ret ?_)))
 obtain rfl:=si H
 exact rt1 E ⟨_,rfl,_,rfl,S⟩
def qAP.l10:Nat→List Int→Int→Int→Option Int
 | 0,_,_,_=>none
 | k+1,y,x8,x9=>if x9<(y.length:Int) then (if 0≤x9∧x9<(y.length:Int) then ((qBG.f (IntKind.u64.wrap ((IntKind.u64.wrap (((BitVec.ofInt 64 x8 ^^^ BitVec.ofInt 64 (nth 0 y x9)).toNat:Int)))+11400714819323198485))).bind fun t24=>(qAP.l10 k y t24 (w64 (x9+1)))) else (none)) else (some x8)
theorem qAP.l10_s k y x8 x9:type_of% (qAP.l10.eq_2 y x8 x9 k):=qAP.l10.eq_2 y x8 x9 k
def qAP.f(k:Nat)(x:Int)(y:List Int):Option Int:=(qBG.f x).bind fun t4=>(qAP.l10 k y t4 0)
def qAP.Post(W F:World)(r:Int)(v:Value)(w':World):Prop:=∃(F':World),v = .int .u64 r∧Sm W F w' F' []
theorem qAP.calls(k:Nat)(x:Int)(y:List Int)(A1_0:OA)(c1_0:Nat)(r:Int)(W F:World)(hown:Sub F W)(g1_0:Rd (Kn.int .u64) F A1_0 c1_0 y)(H:qAP.f k x y=some r):
    Cr 120 #[.int .u64 x,.slice A1_0 y.length c1_0] W (qAP.Post W F r):=by
 have S:=sT hown
 unfold qAP.f at H
 refine ent 24 rfl rfl rfl (fun a E=>?_)
 refine rr E fun a E=>(sq fun K2 hK2=>pl0 (plc E (.r 0 1 .nil) (fun a E=>?_)))
 obtain ⟨t4,h5,H⟩:=bd H
 refine plq E S en146 (qBG.calls x _ _ _ S.own.sub h5) fun u3 S a E=>plc E (.r 2 1 .nil) (fun a E=>pld (hK2 _ _ (sq fun K6 hK6=>rr E fun a E=>(wp_block ?_))))
 refine wp_loop_ghost (fun kq11 a w'=>∃(G:NV)(x8:Int)(x9:Int),kq11≤k∧Env 24 G a∧At G [(1,.slice A1_0 y.length c1_0),(5,.int .u64 x8),(6,iv x9)]∧Sm W F w' F []∧qAP.l10 kq11 y x8 x9=some r) k ⟨_,t4,0,Nat.le_refl _,E,.of,S,H⟩ ?_
 rintro kq11 a u13 ⟨G,x8,x9,hkq,E,A,S,H⟩
 obtain _ | k12:=kq11
 exact zz H
 rw [qAP.l10_s]at H
 obtain ⟨J,E⟩:=E.at A
 refine sq fun K14 hK14=>rr E fun a E=>(E.ik 12 H (fun c16 E H=>?_) fun c16 E H=>?_)
 refine wp_skip (hK14 _ _ (sq fun K17 hK17=>wp_block (pl0 ?_)))
 obtain ⟨c18,H⟩:=gd H
 have hE_:=E
 obtain ⟨ad19,rfl⟩:=g1_0.addr c18.1 c18.2
 replace E:=hE_
 obtain ⟨cs21,rfl,hc22⟩:=g1_0.el 0 x9 c18.1 c18.2
 refine plc E (.r 0 3<|.x 3 c18<|.c 4 (S.fc hc22 0)<|.r 5 2<|.nil) (fun a E=>?_)
 obtain ⟨t24,h25,H⟩:=bd H
 refine plq E S en146 (qBG.calls (IntKind.u64.wrap ((IntKind.u64.wrap (((BitVec.ofInt 64 x8 ^^^ BitVec.ofInt 64 (nth 0 y x9)).toNat:Int)))+11400714819323198485)) _ _ _ S.own.sub h25) fun u23 S a E=>plc E (.r 8 1 .nil) (fun a E=>pld ?_)
 refine qCS ?_
 refine hK17 _ _ (pl0 (plc E (.r 0 3 .nil) (fun a E=>pld ?_)))
 exact qCT ⟨k12,by omega,_,t24,(w64 (x9+1)),by omega,E,.of,S,H⟩
 refine wp_exit ?_
 refine hK6 _ _ (rr E fun a E=>(wp_ret ?_))
 obtain rfl:=si H
 exact rt1 E ⟨_,rfl,_,rfl,S⟩
mutual
def qk.j6:Nat→Int→Bool→Option Int
 | 0,_,_=>none
 | k+1,x,y5=>if y5=true then (some 0) else (if x≤32768 then ((qk.f k (w64 (2 * x))).bind fun t18=>(some (w64 (65536+t18)))) else (qk.l27 k (IntKind.u64.wrap ((IntKind.u64.wrap x) * 32768)) 0 0))
def qk.l27:Nat→Int→Int→Int→Option Int
 | 0,_,_,_=>none
 | k+1,x24,x25,x26=>if x26<16 then (if (IntKind.u64.wrap ((IntKind.u64.wrap (x24 * x24)).tdiv 2147483648))≤1073741824 then (qk.l27 k (IntKind.u64.wrap (2 * (IntKind.u64.wrap ((IntKind.u64.wrap (x24 * x24)).tdiv 2147483648)))) (w64 ((w64 (2 * x25))+1)) (w64 (x26+1))) else (qk.l27 k (IntKind.u64.wrap ((IntKind.u64.wrap (x24 * x24)).tdiv 2147483648)) (w64 (2 * x25)) (w64 (x26+1)))) else (some x25)
def qk.f:Nat→Int→Option Int
 | 0,_=>none
 | k+1,x=>if x<1 then (qk.j6 k x true) else (qk.j6 k x (decide (x>65536)))
end
theorem qk.j6_s k x y5:type_of% (qk.j6.eq_2 x y5 k):=qk.j6.eq_2 x y5 k
theorem qk.l27_s k x24 x25 x26:type_of% (qk.l27.eq_2 x24 x25 x26 k):=qk.l27.eq_2 x24 x25 x26 k
theorem qk.f_s k x:type_of% (qk.f.eq_2 x k):=qk.f.eq_2 x k
def qk.Post(W F:World)(r:Int)(v:Value)(w':World):Prop:=∃(F':World),v=iv r∧Sm W F w' F' []
theorem qk.calls:∀(k:Nat)(x:Int)(r:Int)(W F:World)(hown:Sub F W)(H:qk.f k x=some r),
    Cr 190 #[iv x] W (qk.Post W F r):=by
 intro k
 induction k using Nat.strongRecOn
 rename_i k ih
 intro x r W F hown H
 obtain _ | k1:=k
 exact zz H
 have S:=sT hown
 rw [qk.f_s]at H
 refine ent 38 rfl rfl rfl (fun a E=>?_)
 refine rr E fun a E=>(sq fun K2 hK2=>sq fun K3 hK3=>?_)
 have J9:∀ kq7,kq7≤k1→∀(G:NV)(y5:Bool)(a:Act)(w':World),Env 38 G a→At G [(0,iv x),(11,.bool y5)]→Sm W F w' F []→qk.j6 kq7 x y5=some r→K3 a w':=by
  intro kq7 hkq G y5 a u10 E A S H
  obtain _ | k8:=kq7
  exact zz H
  rw [qk.j6_s]at H
  obtain ⟨J,E⟩:=E.at A
  refine hK3 _ _ (E.ib 11 H (fun c11 E H=>?_) fun c11 E H=>?_)
  refine rr E fun a E=>(wp_ret (qCQ ?_))
  obtain rfl:=si H
  exact rt1 E ⟨_,rfl,_,rfl,S⟩
  refine wp_skip (hK2 _ _ (sq fun K13 hK13=>rr E fun a E=>(E.ik 13 H (fun c15 E H=>?_) fun c15 E H=>?_)))
  refine sq fun K16 hK16=>pl0 (plc E (.r 0 2 .nil) (fun a E=>?_))
  obtain ⟨t18,h19,H⟩:=bd H
  refine plq E S en190 (ih k8 (by omega) (w64 (2 * x)) _ _ _ S.own.sub h19) fun u17 S a E=>plc E (.r 3 2 .nil) (fun a E=>pld (hK16 _ _ (wp_ret (qCQ ?_))))
  obtain rfl:=si H
  exact rt1 E ⟨_,rfl,_,rfl,S⟩
  refine wp_skip (hK13 _ _ (rr E fun a E=>(rr E fun a E=>(sq fun K22 hK22=>rr E fun a E=>(wp_block ?_)))))
  refine wp_loop_ghost (fun kq28 a w'=>∃(G:NV)(x24:Int)(x25:Int)(x26:Int),kq28≤k8∧Env 38 G a∧At G [(3,.int .u64 x24),(4,iv x25),(5,iv x26)]∧Sm W F w' F []∧qk.l27 kq28 x24 x25 x26=some r) k8 ⟨_,(IntKind.u64.wrap ((IntKind.u64.wrap x) * 32768)),0,0,Nat.le_refl _,E,.of,S,H⟩ ?_
  rintro kq28 a u30 ⟨G,x24,x25,x26,hkq,E,A,S,H⟩
  obtain _ | k29:=kq28
  exact zz H
  rw [qk.l27_s]at H
  obtain ⟨J,E⟩:=E.at A
  refine sq fun K31 hK31=>rr E fun a E=>(E.ik 22 H (fun c33 E H=>?_) fun c33 E H=>?_)
  refine wp_skip (hK31 _ _ (sq fun K34 hK34=>wp_block (rr E fun a E=>(rr E fun a E=>(rr E fun a E=>(E.ik 32 H (fun c38 E H=>?_) fun c38 E H=>?_))))))
  refine rr E fun a E=>(pl0 (plc E (.r 0 3 .nil) (fun a E=>pld ?_)))
  refine qCS ?_
  refine hK34 _ _ (pl0 (plc E (.r 0 3 .nil) (fun a E=>pld ?_)))
  exact qCT ⟨k29,by omega,_,(IntKind.u64.wrap (2 * (IntKind.u64.wrap ((IntKind.u64.wrap (x24 * x24)).tdiv 2147483648)))),(w64 ((w64 (2 * x25))+1)),(w64 (x26+1)),by omega,E,.of,S,H⟩
  refine wp_skip ?_
  refine qCS ?_
  refine hK34 _ _ (pl0 (plc E (.r 0 3 .nil) (fun a E=>pld ?_)))
  exact qCT ⟨k29,by omega,_,(IntKind.u64.wrap ((IntKind.u64.wrap (x24 * x24)).tdiv 2147483648)),(w64 (2 * x25)),(w64 (x26+1)),by omega,E,.of,S,H⟩
  refine wp_exit ?_
  refine hK22 _ _ (rr E fun a E=>(wp_ret ?_))
  obtain rfl:=si H
  exact rt1 E ⟨_,rfl,_,rfl,S⟩
 refine pl0 (plc E (.r 0 3 .nil) (fun a E=>E.fk 8 H (fun c4 E H=>?_) fun c4 E H=>?_))
 refine plc E (.r 3 3 .nil) (fun a E=>pld ?_)
 exact J9 _ (by omega) _ true _ _ E .of S H
 refine plc E (.r 3 3 .nil) (fun a E=>pld ?_)
 exact J9 _ (by omega) _ (decide (x>65536)) _ _ E .of S H
def qBB.f(k:Nat)(x:Int)(y:Int):Option Int:=(qAP.f k x [(IntKind.u64.wrap y)]).bind fun t8=>((qk.f k (w64 (1+(w64 (IntKind.u64.wrap (t8.tdiv 281474976710656)))))).bind fun t11=>(some t11))
def qBB.Post(W F:World)(r:Int)(v:Value)(w':World):Prop:=∃(F':World),v=iv r∧Sm W F w' F' []
theorem qBB.calls(k:Nat)(x:Int)(y:Int)(r:Int)(W F:World)(hown:Sub F W)(H:qBB.f k x y=some r):
    Cr 167 #[.int .u64 x,iv y] W (qBB.Post W F r):=by
 have S:=sT hown
 unfold qBB.f at H
 refine ent 14 rfl rfl rfl (fun a E=>?_)
 refine rr E fun a E=>(sq fun K2 hK2=>pl0 (plc E (.r 0 3 .nil) (fun a E=>ple E (.lit (d:=(Kn.int .u64)) (e:=148) S [(IntKind.u64.wrap y)] (.cons rfl .nil)) ?_)))
 rintro _ u3 a ⟨A4,c5,rfl,S,hg⟩ E
 obtain ⟨t8,h9,H⟩:=bd H
 refine plq E S en120 (qAP.calls k x [(IntKind.u64.wrap y)] _ _ _ _ _ (Sub.refl _) (S.rd_at (i:=0) rfl) h9) fun u7 S a E=>plc E (.r 5 3 .nil) (fun a E=>?_)
 obtain ⟨t11,h12,H⟩:=bd H
 refine plq E S en190 (qk.calls k (w64 (1+(w64 (IntKind.u64.wrap (t8.tdiv 281474976710656))))) _ _ _ S.own.sub h12) fun u10 S a E=>plc E (.r 9 1 .nil) (fun a E=>pld (hK2 _ _ (wp_ret ?_)))
 replace S:=S.tail
 obtain rfl:=si H
 exact rt1 E ⟨_,rfl,_,rfl,S⟩
mutual
def qy.l7:Nat→Int→List qB→Int→Int→Option (Int × Bool)
 | 0,_,_,_,_=>none
 | k+1,x,y,x5,x6=>if x6<(y.length:Int) then (if 0≤x6∧x6<(y.length:Int) then (if (nth qB.z y x6).f1=0 then (qy.l7 k x y x5 (w64 (x6+1))) else (if x5<0 then (qy.j45 k x y x5 x6 true) else (if 0≤x5∧x5<(y.length:Int) then ((qBB.f k x ((nth qB.z y x6).f0)).bind fun t39=>((qBB.f k x ((nth qB.z y x5).f0)).bind fun t42=>(qy.j45 k x y x5 x6 (decide ((w64 (t39 * (nth qB.z y x5).f1))<(w64 (t42 * (nth qB.z y x6).f1))))))) else (none)))) else (none)) else (if x5<0 then (some (0,false)) else (if 0≤x5∧x5<(y.length:Int) then (some ((nth qB.z y x5).f0,true)) else (none)))
def qy.j45:Nat→Int→List qB→Int→Int→Bool→Option (Int × Bool)
 | 0,_,_,_,_,_=>none
 | k+1,x,y,x5,x6,y44=>if y44=true then (qy.l7 k x y x6 (w64 (x6+1))) else (qy.l7 k x y x5 (w64 (x6+1)))
end
theorem qy.l7_s k x y x5 x6:type_of% (qy.l7.eq_2 x y x5 x6 k):=qy.l7.eq_2 x y x5 x6 k
theorem qy.j45_s k x y x5 x6 y44:type_of% (qy.j45.eq_2 x y x5 x6 y44 k):=qy.j45.eq_2 x y x5 x6 y44 k
def qy.f(k:Nat)(x:Int)(y:List qB):Option (Int × Bool):=qy.l7 k x y (-1) 0
def qy.Post(W F:World)(r:Int × Bool)(v:Value)(w':World):Prop:=∃(F':World),v = .tuple #[iv r.1,.bool r.2]∧Sm W F w' F' []
theorem qy.calls(k:Nat)(x:Int)(y:List qB)(A1_0:OA)(c1_0:Nat)(r:Int × Bool)(W F:World)(hown:Sub F W)(g1_0:Rd qB.k F A1_0 c1_0 y)(H:qy.f k x y=some r):
    Cr 144 #[.int .u64 x,.slice A1_0 y.length c1_0] W (qy.Post W F r):=by
 have S:=sT hown
 unfold qy.f at H
 refine ent 59 rfl rfl rfl (fun a E=>?_)
 refine rr E fun a E=>(rr E fun a E=>(sq fun K3 hK3=>rr E fun a E=>(wp_block ?_)))
 refine wp_loop_ghost (fun kq8 a w'=>∃(G:NV)(x5:Int)(x6:Int),kq8≤k∧Env 59 G a∧At G [(0,.int .u64 x),(1,.slice A1_0 y.length c1_0),(6,iv x5),(7,iv x6)]∧Sm W F w' F []∧qy.l7 kq8 x y x5 x6=some r) k ⟨_,(-1),0,Nat.le_refl _,E,.of,S,H⟩ ?_
 rintro kq8 a u10 ⟨G,x5,x6,hkq,E,A,S,H⟩
 obtain _ | k9:=kq8
 exact zz H
 rw [qy.l7_s]at H
 obtain ⟨J,E⟩:=E.at A
 refine sq fun K11 hK11=>rr E fun a E=>(E.ik 11 H (fun c13 E H=>?_) fun c13 E H=>?_)
 refine wp_skip (hK11 _ _ (sq fun K14 hK14=>wp_block (sq fun K15 hK15=>sq fun K16 hK16=>pl0 ?_)))
 obtain ⟨c17,H⟩:=gd H
 have hE_:=E
 obtain ⟨ad18,rfl⟩:=g1_0.addr c17.1 c17.2
 replace E:=hE_
 obtain ⟨cs20,rfl,hc21⟩:=g1_0.el qB.z x6 c17.1 c17.2
 refine plc E (.r 0 2<|.x 2 c17<|.r 3 1<|.c 4 (S.fc hc21 1)<|.r 5 1<|.nil) (fun a E=>pld (hK16 _ _ (E.ik 19 H (fun c22 E H=>?_) fun c22 E H=>?_)))
 refine wp_exit ?_
 refine hK14 _ _ (pl0 (plc E (.r 0 3 .nil) (fun a E=>pld ?_)))
 exact qCT ⟨k9,by omega,_,x5,(w64 (x6+1)),by omega,E,.of,S,H⟩
 refine wp_skip (hK15 _ _ (sq fun K23 hK23=>?_))
 have J48:∀ kq46,kq46≤k9→∀(G:NV)(y44:Bool)(a:Act)(w':World),Env 59 G a→At G [(0,.int .u64 x),(1,.slice (some ad18) y.length c1_0),(6,iv x5),(7,iv x6),(50,.bool y44)]→Sm W F w' F []→qy.j45 kq46 x y x5 x6 y44=some r→K23 a w':=by
  intro kq46 hkq G y44 a u49 E A S H
  obtain _ | k47:=kq46
  exact zz H
  rw [qy.j45_s]at H
  obtain ⟨J,E⟩:=E.at A
  refine hK23 _ _ (E.ib 50 H (fun c50 E H=>?_) fun c50 E H=>?_)
  refine pl0 (plc E (.r 0 2 .nil) (fun a E=>pld ?_))
  refine qCS ?_
  refine hK14 _ _ (pl0 (plc E (.r 0 3 .nil) (fun a E=>pld ?_)))
  exact qCT ⟨k47,by omega,_,x6,(w64 (x6+1)),by omega,E,.of,S,H⟩
  refine wp_skip ?_
  refine qCS ?_
  refine hK14 _ _ (pl0 (plc E (.r 0 3 .nil) (fun a E=>pld ?_)))
  exact qCT ⟨k47,by omega,_,x5,(w64 (x6+1)),by omega,E,.of,S,H⟩
 refine drawn 31 ⟨[],[],fun q=>False⟩ mixed rfl (by kernel_rfl) (fun hst=>?_)
 replace S:=S.drew
 refine mny 28 hst E (.r 0 3 .nil) (fun a E=>?_)
 refine E.fk 22 H (fun c24 E H=>?_) fun c24 E H=>?_
 refine mny 0 hst E (.r 3 28 .nil) (fun a E=>?_)
 refine dn ?_
 exact J48 _ (by omega) _ true _ _ E .of S H
 obtain ⟨c28,H⟩:=gd H
 obtain ⟨cs30,rfl,hc31⟩:=g1_0.el qB.z x5 c28.1 c28.2
 refine mny 6 hst E (.r 3 3<|.x 6 c17<|.r 7 1<|.c 8 (S.fc hc21 0)<|.r 10 2<|.x 12 c28<|.r 13 1<|.c 14 (S.fc hc31 1)<|.r 16 3<|.x 19 c28<|.r 20 1<|.c 21 (S.fc hc31 0)<|.r 23 2<|.x 25 c17<|.r 26 1<|.c 27 (S.fc hc21 1)<|.nil) (fun a E=>?_)
 obtain ⟨t39,h40,H⟩:=bd H
 refine on1 9 E (.cl en167 (qBB.calls k9 x ((nth qB.z y x6).f0) _ _ _ S.own.sub h40)) ?_
 rintro _ u38 a ⟨_,rfl,hC⟩ E
 refine ⟨.of hC.agr,?_⟩
 replace S:=S.lent hC
 refine mny 4 hst E (.r 15 1 .nil) (fun a E=>?_)
 obtain ⟨t42,h43,H⟩:=bd H
 refine on1 22 E (.cl en167 (qBB.calls k9 x ((nth qB.z y x5).f0) _ _ _ S.own.sub h43)) ?_
 rintro _ u41 a ⟨_,rfl,hC⟩ E
 refine ⟨.of hC.agr,?_⟩
 replace S:=S.lent hC
 refine mny 0 hst E (.r 28 3 .nil) (fun a E=>?_)
 refine dn ?_
 exact J48 _ (by omega) _ (decide ((w64 (t39 * (nth qB.z y x5).f1))<(w64 (t42 * (nth qB.z y x6).f1)))) _ _ E .of S H
 refine wp_exit ?_
 refine hK3 _ _ (sq fun K51 hK51=>rr E fun a E=>(E.ik 53 H (fun c53 E H=>?_) fun c53 E H=>?_))
 refine rr E fun a E=>(wp_ret (qCQ ?_))
 obtain rfl:=si H
 exact rtN E ⟨_,rfl,_,rfl,S⟩
 refine wp_skip (hK51 _ _ (sq fun K55 hK55=>pl0 ?_))
 obtain ⟨c56,H⟩:=gd H
 have hE_:=E
 obtain ⟨ad57,rfl⟩:=g1_0.addr c56.1 c56.2
 replace E:=hE_
 obtain ⟨cs59,rfl,hc60⟩:=g1_0.el qB.z x5 c56.1 c56.2
 refine plc E (.r 0 2<|.x 2 c56<|.r 3 1<|.c 4 (S.fc hc60 0)<|.r 5 2<|.nil) (fun a E=>pld (hK55 _ _ (wp_ret ?_)))
 obtain rfl:=si H
 exact rtN E ⟨_,rfl,_,rfl,S⟩
end Go.Proofs.YthgfhlbjkmjlpaaGreat.PG
