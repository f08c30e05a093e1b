import Derived.Test.YthgfhlbjkmjlpaaGreatGD9
namespace Go.Proofs.YthgfhlbjkmjlpaaGreat.GD
open Go Go.RowKit Go.Proofs.YthgfhlbjkmjlpaaGreat.Sl
set_option linter.unusedVariables false
set_option linter.unusedSimpArgs false
set_option maxHeartbeats 4000000
set_option maxRecDepth 100000
mutual
def qN.j17:Nat->qD->qAN->Bool->Option Bool
 | 0,_,_,_=>none
 | k+1,x,y,y16=>if y16=true then ((qAW.f k).bind fun t25=>(some t25)) else ((qBd.f k x y).bind fun t29=>(if t29.2=0 then (if 0<=x.f3/\x.f3 * 1<=140737488355328 then (qN.l57 k x y t29 (List.replicate (x.f3).toNat (false:Bool)) 0) else (none)) else ((qAW.f k).bind fun t41=>(some t41))))
def qN.l57:Nat->qD->qAN->(List qF) × Int->List Bool->Int->Option Bool
 | 0,_,_,_,_,_=>none
 | k+1,x,y,t29,l55,x56=>if x56<x.f3 then (if 0<=x56/\x56<((List.replicate (x.f3).toNat (false:Bool)).length:Int) then (qN.l57 k x y t29 (l55.set (x56).toNat true) (w64 (x56+1))) else (none)) else (qN.l110 k y t29.1 l55 0 t29.1 0 8 x.f0 x.f1 x.f2 x.f3 x.f4 x.f5 x.f6)
def qN.l110:Nat->qAN->List qF->List Bool->Int->List qF->Int->Int->Int->Int->Int->Int->List qA->List qE->List qC->Option Bool
 | 0,_,_,_,_,_,_,_,_,_,_,_,_,_,_=>none
 | k+1,y,l80,l84,x86,l89,x91,x92,x93,x94,x95,x96,l99,l103,l107=>if x86<=(l80.length:Int) then (qN.l138 k y l80 l84 x86 l89 x91 x92 0 x93 x94 x95 x96 l99 l103 l107) else ((qAw.f k (⟨l89,x91,x92⟩:qAm) (⟨x93,x94,x95,x96,l99,l103,l107⟩:qD) l84).bind fun t252=>(if t252.2.2=5 then ((qBF.f k (⟨x93,x94,x95,x96,l99,l103,l107⟩:qD) y).bind fun t272=>(if t272=true then ((qAW.f k).bind fun t276=>(some t276)) else (some false))) else (some false)))
def qN.l138:Nat->qAN->List qF->List Bool->Int->List qF->Int->Int->Int->Int->Int->Int->Int->List qA->List qE->List qC->Option Bool
 | 0,_,_,_,_,_,_,_,_,_,_,_,_,_,_,_=>none
 | k+1,y,l80,l84,x86,l89,x91,x92,x120,x121,x122,x123,x124,l127,l131,l135=>if x120<x124 then (if 0<=x120/\x120<(l135.length:Int) then ((qw.f k (⟨x121,x122,x123,x124,l127,l131,l135⟩:qD) (⟨10,0,0,0,(nth qC.z l135 x120).f0,x120,[]⟩:qF)).bind fun t155=>(qN.l138 k y l80 l84 x86 l89 x91 x92 (w64 (x120+1)) t155.f0 t155.f1 t155.f2 t155.f3 t155.f4 t155.f5 t155.f6)) else (none)) else ((qAw.f k (⟨l89,x91,x92⟩:qAm) (⟨x121,x122,x123,x124,l127,l131,l135⟩:qD) l84).bind fun t171=>(if t171.1.f1<x91 then (some false) else (if t171.2.2=5 then ((qBF.f k (⟨x121,x122,x123,x124,l127,l131,l135⟩:qD) y).bind fun t197=>(if t197=true then ((qAW.f k).bind fun t201=>(some t201)) else (some false))) else (if t171.2.2=0 then ((qw.f k (⟨x121,x122,x123,x124,l127,l131,l135⟩:qD) t171.2.1).bind fun t230=>(qN.l110 k y l80 l84 (w64 (x86+1)) t171.1.f0 t171.1.f1 t171.1.f2 t230.f0 t230.f1 t230.f2 t230.f3 t230.f4 t230.f5 t230.f6)) else (if t171.2.2=12 then ((qAW.f k).bind fun t209=>(some t209)) else (if t171.2.2=11 then (if 0<=t171.1.f1/\t171.1.f1<(t171.1.f0.length:Int) then (if (nth qF.z t171.1.f0 t171.1.f1).f0=7 then ((qAW.f k).bind fun t223=>(some t223)) else (some false)) else (none)) else (some false)))))))
end
theorem qN.j17_s k x y y16:type_of% (qN.j17.eq_2 x y y16 k):=qN.j17.eq_2 x y y16 k
theorem qN.l57_s k x y t29 l55 x56:type_of% (qN.l57.eq_2 x y t29 l55 x56 k):=qN.l57.eq_2 x y t29 l55 x56 k
theorem qN.l110_s k y l80 l84 x86 l89 x91 x92 x93 x94 x95 x96 l99 l103 l107:type_of% (qN.l110.eq_2 y l80 l84 x86 l89 x91 x92 x93 x94 x95 x96 l99 l103 l107 k):=qN.l110.eq_2 y l80 l84 x86 l89 x91 x92 x93 x94 x95 x96 l99 l103 l107 k
theorem qN.l138_s k y l80 l84 x86 l89 x91 x92 x120 x121 x122 x123 x124 l127 l131 l135:type_of% (qN.l138.eq_2 y l80 l84 x86 l89 x91 x92 x120 x121 x122 x123 x124 l127 l131 l135 k):=qN.l138.eq_2 y l80 l84 x86 l89 x91 x92 x120 x121 x122 x123 x124 l127 l131 l135 k
def qN.f(k:Nat)(x:qD)(y:qAN):Option Bool:=(qW.f k x).bind fun t9=>(if t9=true then ((qe.f k x).bind fun t13=>(if t13=true then (qN.j17 k x y (decide (x.f0>100000))) else (qN.j17 k x y true))) else (qN.j17 k x y true))
def qN.Post(W F:World)(r:Bool)(v:Value)(w':World):Prop:=∃(F':World),v = .bool r/\Sm W F w' F' []
theorem qN.calls(k:Nat)(x:qD)(y:qAN)(A0_4:OA)(c0_4:Nat)(A0_5:OA)(c0_5:Nat)(A0_6:OA)(c0_6:Nat)(r:Bool)(W F:World)(hown:Sub F W)(g0_4:Rd qA.k F A0_4 c0_4 x.f4)(g0_5:Rd qE.k F A0_5 c0_5 x.f5)(g0_6:Rd qC.k F A0_6 c0_6 x.f6)(H:qN.f k x y=some r):
    Cr 9 #[.agg (mA x A0_4 c0_4 A0_5 c0_5 A0_6 c0_6),.agg #[iv y.f0,iv y.f1,iv y.f2,iv y.f3,iv y.f4]] W (qN.Post W F r):=by
 have S:=sT hown
 unfold qN.f at H
 refine ent 143 rfl rfl rfl fun a E=>?_
 refine sq fun K1 hK1=>pl0 (plx (t:=26) E S (mL x A0_4 c0_4 A0_5 c0_5 A0_6 c0_6) fun b2 u3 hb2 S a E=>plx (t:=65) E S [iv y.f0,iv y.f1,iv y.f2,iv y.f3,iv y.f4] fun b4 u5 hb4 S a E=>plc E (.r 2 1 .nil) fun a E=>pld (hK1 _ _ (sq fun K6 hK6=>sq fun K7 hK7=>?_)))
 have J20:∀ kq18,kq18<=k->∀(G:NV)(y16:Bool)(a:Act)(w':World),Env 143 G a->At G [(2,.pointer (pb b2)),(3,.pointer (pb b4)),(31,.bool y16)]->Sm W F w' F [box b4 #[iv y.f0,iv y.f1,iv y.f2,iv y.f3,iv y.f4] 65,box b2 (mA x A0_4 c0_4 A0_5 c0_5 A0_6 c0_6) 26]->qN.j17 kq18 x y y16=some r->K7 a w':=by
  intro kq18 hkq G y16 a u21 E A S H
  obtain _ | k19:=kq18
  exact zz H
  rw [qN.j17_s]at H
  obtain ⟨J,E⟩:=E.at A
  refine hK7 _ _ (E.ib 31 H (fun c22 E H=>?_) fun c22 E H=>?_)
  refine sq fun K23 hK23=>pl0 ?_
  obtain ⟨t25,h26,H⟩:=bd H
  refine plq E S en11 (qAW.calls k19 _ _ _ S.own.sub h26) fun u24 S a E=>plc E (.r 1 1 .nil) fun a E=>pld (hK23 _ _ (wp_ret (qCc ?_)))
  have S:=S.pm [] 2
  obtain rfl:=si H
  exact rt1 E ⟨_,rfl,_,rfl,S⟩
  refine wp_skip (hK6 _ _ (sq fun K27 hK27=>pl0 ?_))
  have hb2:=S.ba 1
  have hb4:=S.ba 0
  refine plc E (.bn 0 0 7 hb2<|.bn 1 0 5 hb4<|.nil) fun a E=>?_
  obtain ⟨t29,h30,H⟩:=bd H
  refine ple E (.cl en32 (qBd.calls k19 x y _ _ _ _ _ _ _ _ _ S.own.sub g0_4 g0_5 g0_6 h30)) ?_
  rintro _ u28 a ⟨F31,A32,c33,rfl,hC⟩ E
  have hs:=hC.sub
  have S:=S.called (X:=[]) hC
  have g0_4:=g0_4.mono hs
  have g0_5:=g0_5.mono hs
  have g0_6:=g0_6.mono hs
  refine plc E (.r 3 5 .nil) fun a E=>pld (hK27 _ _ (sq fun K36 hK36=>rr E fun a E=>(E.ikn 40 H (fun c38 E H=>?_) fun c38 E H=>?_)))
  refine wp_skip (hK36 _ _ (sq fun K43 hK43=>pl0 (plc E (.r 0 2 .nil) fun a E=>pla (t:=50) E S [.slice none 0 0,iv 0,iv 0] fun b44 u45 hb44 S a E=>pls E S [.slice A32 t29.1.length c33,iv 0,iv 8] fun u46 hb44 S a E=>pld (hK43 _ _ (sq fun K47 hK47=>pl0 (plc E (.r 0 1<|.b 1 3 (S.ba 3)<|.nil) fun a E=>?_))))))
  obtain ⟨c48,H⟩:=gd H
  refine ple E (.mk (d:=Kn.bool) (e:=4) 1 false S c48 (by rw [zr4]; exact rfl)) ?_
  rintro _ u51 a ⟨A49,c50,rfl,S,hg⟩ E
  refine plc E (.r 3 1 .nil) fun a E=>pld (hK47 _ _ (sq fun K53 hK53=>rr E fun a E=>(wp_block ?_)))
  have S:=S.pm [1,3,4,2,0] 5
  refine wp_loop_ghost (fun kq58 a w'=>∃(G:NV)(l55:List Bool)(x56:Int),kq58<=k19/\Env 143 G a/\At G [(2,.pointer (pb b2)),(3,.pointer (pb b4)),(5,.slice A32 t29.1.length c33),(7,.pointer (pb b44)),(8,.slice A49 ((List.replicate (x.f3).toNat (false:Bool)).length) c50),(9,iv x56)]/\Sm W F w' F31 [box b44 #[.slice A32 t29.1.length c33,iv 0,iv 8] 50,box b4 #[iv y.f0,iv y.f1,iv y.f2,iv y.f3,iv y.f4] 65,box b2 (mA x A0_4 c0_4 A0_5 c0_5 A0_6 c0_6) 26,row qF.k 29 (.slice A32 t29.1.length c33) t29.1,row Kn.bool 4 (.slice A49 ((List.replicate (x.f3).toNat (false:Bool)).length) c50) l55]/\qN.l57 kq58 x y t29 l55 x56=some r) k19 ⟨_,(List.replicate (x.f3).toNat (false:Bool)),0,Nat.le_refl _,E,.of,S,H⟩ ?_
  rintro kq58 a u60 ⟨G,l55,x56,hkq,E,A,S,H⟩
  obtain _ | k59:=kq58
  exact zz H
  rw [qN.l57_s]at H
  obtain ⟨J,E⟩:=E.at A
  refine sq fun K61 hK61=>sq fun K62 hK62=>pl0 ?_
  have hb2:=S.ba 2
  refine plc E (.r 0 2<|.b 2 3 hb2<|.r 3 1<|.nil) fun a E=>pld (hK62 _ _ (E.ik 50 H (fun c63 E H=>?_) fun c63 E H=>?_))
  refine wp_skip (hK61 _ _ (sq fun K64 hK64=>wp_block (pl0 ?_)))
  obtain ⟨c65,H⟩:=gd H
  have hr66:=S.ra 4
  have c67:0<=x56/\x56<(l55.length:Int):=by rw [← (qCg hr66).1]; exact c65
  have hE_:=E
  obtain ⟨b68,rfl⟩:=qCi hr66 c67.1 c67.2
  replace E:=hE_
  have hr_:=S.ra 4
  obtain ⟨cs70,rfl,hc71⟩:=qCh hr_ false x56 c67.1 c67.2
  refine plc E (.r 0 2<|.x 2 c65<|.nil) fun a E=>?_
  have S:=S.front 4 rfl
  obtain ⟨cs73,rfl,hc74⟩:=qCh (S.row_at (i:=0) rfl) false x56 c67.1 c67.2
  refine ple E (.set (d:=Kn.bool) (n:=(List.replicate (x.f3).toNat (false:Bool)).length) (i:=x56) true (0) (ea0 _ _) S c67 [.bool (nth false l55 x56)] hc74 [.bool true] rfl) ?_
  rintro _ u72 a ⟨rfl,S,hz⟩ E
  refine pld ?_
  refine qCe ?_
  refine hK64 _ _ (pl0 (plc E (.r 0 3 .nil) fun a E=>pld ?_))
  have S:=S.pm [1,2,3,4,0] 5
  exact qCf ⟨k59,by omega,_,(l55.set (x56).toNat true),(w64 (x56+1)),by omega,E,.of,S,H⟩
  refine wp_exit ?_
  refine hK53 _ _ (sq fun K75 hK75=>rr E fun a E=>(wp_block ?_))
  have hn245:=(qCg (S.row_at (i:=4) rfl)).1
  replace E:=E.set (d:=8) (v:=.slice A49 l55.length c50) (Eq.trans (b:=.slice A49 ((List.replicate (x.f3).toNat (false:Bool)).length) c50) (by kernel_rfl) (by rw [← hn245]))
  replace S:Sm W F u60 F31 [box b44 #[.slice A32 t29.1.length c33,iv 0,iv 8] 50,box b4 #[iv y.f0,iv y.f1,iv y.f2,iv y.f3,iv y.f4] 65,box b2 (mA x A0_4 c0_4 A0_5 c0_5 A0_6 c0_6) 26,row qF.k 29 (.slice A32 t29.1.length c33) t29.1,row Kn.bool 4 (.slice A49 l55.length c50) l55]:=by rw [← hn245]; exact S
  have S:=S.front 3 rfl
  obtain ⟨F246,hs,g247,S⟩:=S.give
  have g0_4:=g0_4.mono hs
  have g0_5:=g0_5.mono hs
  have g0_6:=g0_6.mono hs
  have S:=S.front 3 rfl
  obtain ⟨F248,hs,g249,S⟩:=S.give
  have g247:=g247.mono hs
  have g0_4:=g0_4.mono hs
  have g0_5:=g0_5.mono hs
  have g0_6:=g0_6.mono hs
  refine wp_loop_ghost (fun kq111 a w'=>∃(G:NV)(A78:OA)(c79:Nat)(l80:List qF)(A82:OA)(c83:Nat)(l84:List Bool)(x86:Int)(A87:OA)(c88:Nat)(l89:List qF)(x91:Int)(x92:Int)(x93:Int)(x94:Int)(x95:Int)(x96:Int)(A97:OA)(c98:Nat)(l99:List qA)(A101:OA)(c102:Nat)(l103:List qE)(A105:OA)(c106:Nat)(l107:List qC)(F109:World),kq111<=k59/\Env 143 G a/\At G [(2,.pointer (pb b2)),(3,.pointer (pb b4)),(5,.slice A78 l80.length c79),(7,.pointer (pb b44)),(8,.slice A82 l84.length c83),(10,iv x86)]/\Sm W F w' F109 [box b44 #[.slice A87 l89.length c88,iv x91,iv x92] 50,box b4 #[iv y.f0,iv y.f1,iv y.f2,iv y.f3,iv y.f4] 65,box b2 #[iv x93,iv x94,iv x95,iv x96,.slice A97 l99.length c98,.slice A101 l103.length c102,.slice A105 l107.length c106] 26]/\Rd qF.k F109 A78 c79 l80/\Rd Kn.bool F109 A82 c83 l84/\Rd qF.k F109 A87 c88 l89/\Rd qA.k F109 A97 c98 l99/\Rd qE.k F109 A101 c102 l103/\Rd qC.k F109 A105 c106 l107/\qN.l110 kq111 y l80 l84 x86 l89 x91 x92 x93 x94 x95 x96 l99 l103 l107=some r) k59 ⟨_,A32,c33,t29.1,A49,c50,l55,0,A32,c33,t29.1,0,8,x.f0,x.f1,x.f2,x.f3,A0_4,c0_4,x.f4,A0_5,c0_5,x.f5,A0_6,c0_6,x.f6,F248,Nat.le_refl _,E,.of,S,g247,g249,g247,g0_4,g0_5,g0_6,H⟩ ?_
  rintro kq111 a u113 ⟨G,A78,c79,l80,A82,c83,l84,x86,A87,c88,l89,x91,x92,x93,x94,x95,x96,A97,c98,l99,A101,c102,l103,A105,c106,l107,F109,hkq,E,A,S,g81,g85,g90,g100,g104,g108,H⟩
  obtain _ | k112:=kq111
  exact zz H
  rw [qN.l110_s]at H
  obtain ⟨J,E⟩:=E.at A
  refine sq fun K114 hK114=>rr E fun a E=>(E.ik 59 H (fun c116 E H=>?_) fun c116 E H=>?_)
  refine wp_skip (hK114 _ _ (sq fun K117 hK117=>wp_block (sq fun K118 hK118=>rr E fun a E=>(wp_block ?_))))
  refine wp_loop_ghost (fun kq139 a w'=>∃(G:NV)(x120:Int)(x121:Int)(x122:Int)(x123:Int)(x124:Int)(A125:OA)(c126:Nat)(l127:List qA)(A129:OA)(c130:Nat)(l131:List qE)(A133:OA)(c134:Nat)(l135:List qC)(F137:World),kq139<=k112/\Env 143 G a/\At G [(2,.pointer (pb b2)),(3,.pointer (pb b4)),(5,.slice A78 l80.length c79),(7,.pointer (pb b44)),(8,.slice A82 l84.length c83),(10,iv x86),(11,iv x120)]/\Sm W F w' F137 [box b44 #[.slice A87 l89.length c88,iv x91,iv x92] 50,box b4 #[iv y.f0,iv y.f1,iv y.f2,iv y.f3,iv y.f4] 65,box b2 #[iv x121,iv x122,iv x123,iv x124,.slice A125 l127.length c126,.slice A129 l131.length c130,.slice A133 l135.length c134] 26]/\Rd qA.k F137 A125 c126 l127/\Rd qE.k F137 A129 c130 l131/\Rd qC.k F137 A133 c134 l135/\Rd qF.k F137 A78 c79 l80/\Rd Kn.bool F137 A82 c83 l84/\Rd qF.k F137 A87 c88 l89/\qN.l138 kq139 y l80 l84 x86 l89 x91 x92 x120 x121 x122 x123 x124 l127 l131 l135=some r) k112 ⟨_,0,x93,x94,x95,x96,A97,c98,l99,A101,c102,l103,A105,c106,l107,F109,Nat.le_refl _,E,.of,S,g100,g104,g108,g81,g85,g90,H⟩ ?_
  rintro kq139 a u141 ⟨G,x120,x121,x122,x123,x124,A125,c126,l127,A129,c130,l131,A133,c134,l135,F137,hkq,E,A,S,g128,g132,g136,g81,g85,g90,H⟩
  obtain _ | k140:=kq139
  exact zz H
  rw [qN.l138_s]at H
  obtain ⟨J,E⟩:=E.at A
  refine sq fun K142 hK142=>sq fun K143 hK143=>pl0 ?_
  have hb2:=S.ba 2
  refine plc E (.r 0 2<|.b 2 3 hb2<|.r 3 1<|.nil) fun a E=>pld (hK143 _ _ (E.ik 65 H (fun c144 E H=>?_) fun c144 E H=>?_))
  refine wp_skip (hK142 _ _ (sq fun K145 hK145=>wp_block ?_))
  refine drawn 11 ⟨[10],[],fun q=>False⟩ mixed rfl (by kernel_rfl) fun hst=>?_
  have S:=S.drew
  have hb2:=S.ba 2
  obtain ⟨c146,H⟩:=gd H
  have hE_:=E
  obtain ⟨ad147,rfl⟩:=g136.addr c146.1 c146.2
  replace E:=hE_
  obtain ⟨cs149,⟨A151,c152,rfl,g153⟩,hc150⟩:=g136.el qC.z x120 c146.1 c146.2
  refine mny 2 hst E (.bn 0 0 7 hb2<|.r 1 2<|.b 3 6 hb2<|.r 4 1<|.x 5 c146<|.r 6 1<|.c 7 (S.fc hc150 0)<|.r 8 1<|.nil) fun a E=>?_
  obtain ⟨t155,h156,H⟩:=bd H
  refine on1 9 E (.cl en33 (qw.calls k140 (⟨x121,x122,x123,x124,l127,l131,l135⟩:qD) (⟨10,0,0,0,(nth qC.z l135 x120).f0,x120,[]⟩:qF) _ _ _ _ _ _ _ _ _ _ _ S.own.sub g128 g132 g136 (Rd.nil _ _) h156)) ?_
  rintro _ u154 a ⟨F157,A158,c159,A161,c162,A164,c165,rfl,hC,g160,g163,g166⟩ E
  refine ⟨.of hC.agr,?_⟩
  have hs:=hC.sub
  have S:=S.called (X:=[]) hC
  have g81:=g81.mono hs
  have g85:=g85.mono hs
  have g128:=g128.mono hs
  have g132:=g132.mono hs
  have g136:=g136.mono hs
  have g90:=g90.mono hs
  have S:=S.front 2 rfl
  refine on1 10 E (.sto S (mL t155 A158 c159 A161 c162 A164 c165)) ?_
  rintro _ u167 a ⟨rfl,hb2,S,hz⟩ E
  refine ⟨.d,?_⟩
  refine dn ?_
  refine qCe ?_
  refine hK145 _ _ (pl0 (plc E (.r 0 3 .nil) fun a E=>pld ?_))
  have S:=S.pm [1,2,0] 3
  exact qCf ⟨k140,by omega,_,(w64 (x120+1)),t155.f0,t155.f1,t155.f2,t155.f3,A158,c159,t155.f4,A161,c162,t155.f5,A164,c165,t155.f6,F157,by omega,E,.of,S,g160,g163,g166,g81,g85,g90,H⟩
  refine wp_exit ?_
  refine hK118 _ _ (sq fun K168 hK168=>pl0 ?_)
  have hb44:=S.ba 0
  refine plc E (.r 0 1<|.b 1 1 hb44<|.r 2 1<|.nil) fun a E=>pld (hK168 _ _ (sq fun K169 hK169=>pl0 (plc E (.bn 0 0 3 hb44<|.bn 1 0 7 hb2<|.r 2 1<|.nil) fun a E=>?_)))
  obtain ⟨t171,h172,H⟩:=bd H
  refine ple E (.cl en24 (qAw.calls k140 (⟨l89,x91,x92⟩:qAm) (⟨x121,x122,x123,x124,l127,l131,l135⟩:qD) l84 _ _ _ _ _ _ _ _ _ _ _ _ _ S.own.sub g90 g128 g132 g136 g85 h172)) ?_
  rintro _ u170 a ⟨F173,A174,c175,A178,c179,rfl,hC⟩ E
  have hs:=hC.sub
  have S:=S.called (X:=[]) hC
  have g81:=g81.mono hs
  have g85:=g85.mono hs
  have g90:=g90.mono hs
  have g128:=g128.mono hs
  have g132:=g132.mono hs
  have g136:=g136.mono hs
  refine plc E (.r 4 4 .nil) fun a E=>pla (t:=50) E S [.slice none 0 0,iv 0,iv 0] fun b182 u183 hb182 S a E=>pla (t:=29) E S [iv 0,iv 0,iv 0,iv 0,iv 0,iv 0,.slice none 0 0] fun b184 u185 hb184 S a E=>?_
  have S:=S.front 1 rfl
  refine pls E S [.slice A174 t171.1.f0.length c175,iv t171.1.f1,iv t171.1.f2] fun u186 hb182 S a E=>?_
  have S:=S.front 1 rfl
  refine pls E S (dL t171.2.1 A178 c179) fun u187 hb184 S a E=>plc E (.r 12 1 .nil) fun a E=>pld (hK169 _ _ (sq fun K188 hK188=>sq fun K189 hK189=>pl0 ?_))
  have hb182:=S.ba 1
  refine plc E (.r 0 1<|.b 1 1 hb182<|.r 2 2<|.nil) fun a E=>pld (hK189 _ _ (E.ik 91 H (fun c190 E H=>?_) fun c190 E H=>?_))
  refine rr E fun a E=>(wp_ret (qCc (qCd (qCc (qCc (qCd (qCc ?_)))))))
  have S:=S.pm [] 7
  obtain rfl:=si H
  exact rt1 E ⟨_,rfl,_,rfl,S⟩
  refine wp_skip (hK188 _ _ (sq fun K192 hK192=>rr E fun a E=>(E.ik 93 H (fun c194 E H=>?_) fun c194 E H=>?_)))
  refine sq fun K195 hK195=>pl0 (plc E (.bn 0 0 7 (S.ba 6)<|.bn 1 0 5 (S.ba 5)<|.nil) fun a E=>?_)
  obtain ⟨t197,h198,H⟩:=bd H
  refine plq E S en36 (qBF.calls k140 (⟨x121,x122,x123,x124,l127,l131,l135⟩:qD) y _ _ _ _ _ _ _ _ _ S.own.sub g128 g132 g136 h198) fun u196 S a E=>plc E (.r 3 1 .nil) fun a E=>E.fb 97 H (fun c199 E H=>?_) fun c199 E H=>?_
  obtain ⟨t201,h202,H⟩:=bd H
  refine plq E S en11 (qAW.calls k140 _ _ _ S.own.sub h202) fun u200 S a E=>plc E (.r 5 2 .nil) fun a E=>pld (hK195 _ _ (wp_ret (qCc (qCd (qCc (qCc (qCd (qCc ?_))))))))
  have S:=S.pm [] 7
  obtain rfl:=si H
  exact rt1 E ⟨_,rfl,_,rfl,S⟩
  refine plc E (.r 4 3 .nil) fun a E=>pld (hK195 _ _ (wp_ret (qCc (qCd (qCc (qCc (qCd (qCc ?_))))))))
  have S:=S.pm [] 7
  obtain rfl:=si H
  exact rt1 E ⟨_,rfl,_,rfl,S⟩
  refine wp_skip (hK192 _ _ (sq fun K203 hK203=>rr E fun a E=>(E.ikn 101 H (fun c205 E H=>?_) fun c205 E H=>?_)))
  refine wp_skip (hK203 _ _ (sq fun K225 hK225=>pl0 (plc E (.bn 0 0 3 hb182 .nil) fun a E=>?_)))
  have S:=S.front 4 rfl
  refine pls E S [.slice A174 t171.1.f0.length c175,iv t171.1.f1,iv t171.1.f2] fun u226 hb44 S a E=>pld (hK225 _ _ (pl0 (plc E (.bn 0 0 7 (S.ba 6)<|.bn 1 0 7 (S.ba 1)<|.nil) fun a E=>?_)))
  have S:=S.front 4 rfl
  obtain ⟨F227,hs,g228,S⟩:=S.give
  have g81:=g81.mono hs
  have g85:=g85.mono hs
  have g90:=g90.mono hs
  have g128:=g128.mono hs
  have g132:=g132.mono hs
  have g136:=g136.mono hs
  obtain ⟨t230,h231,H⟩:=bd H
  refine ple E (.cl en33 (qw.calls k140 (⟨x121,x122,x123,x124,l127,l131,l135⟩:qD) t171.2.1 _ _ _ _ _ _ _ _ _ _ _ S.own.sub g128 g132 g136 g228 h231)) ?_
  rintro _ u229 a ⟨F232,A233,c234,A236,c237,A239,c240,rfl,hC,g235,g238,g241⟩ E
  have hs:=hC.sub
  have S:=S.called (X:=[]) hC
  have g81:=g81.mono hs
  have g85:=g85.mono hs
  have g90:=g90.mono hs
  have S:=S.front 5 rfl
  refine pls E S (mL t230 A233 c234 A236 c237 A239 c240) fun u242 hb2 S a E=>pld ?_
  refine qCe ?_
  refine hK117 _ _ (pl0 (plc E (.r 0 3 .nil) fun a E=>pld ?_))
  have S:=S.front 4 rfl
  obtain ⟨F243,hs,g244,S⟩:=S.give
  have g81:=g81.mono hs
  have g85:=g85.mono hs
  have g90:=g90.mono hs
  have g235:=g235.mono hs
  have g238:=g238.mono hs
  have g241:=g241.mono hs
  have S:=S.pm [1,4,0] 5
  exact qCf ⟨k140,by omega,_,A78,c79,l80,A82,c83,l84,(w64 (x86+1)),A174,c175,t171.1.f0,t171.1.f1,t171.1.f2,t230.f0,t230.f1,t230.f2,t230.f3,A233,c234,t230.f4,A236,c237,t230.f5,A239,c240,t230.f6,F243,by omega,E,.of,S,g81,g85,g244,g235,g238,g241,H⟩
  refine sq fun K206 hK206=>pl0 (plc E (.r 0 3 .nil) fun a E=>E.fk 104 H (fun c207 E H=>?_) fun c207 E H=>?_)
  refine plc E (.r 3 14 .nil) fun a E=>?_
  obtain ⟨t209,h210,H⟩:=bd H
  refine plq E S en11 (qAW.calls k140 _ _ _ S.own.sub h210) fun u208 S a E=>plc E (.r 18 2 .nil) fun a E=>pld (hK206 _ _ (wp_ret (qCc (qCd (qCc (qCc (qCd (qCc ?_))))))))
  have S:=S.pm [] 7
  obtain rfl:=si H
  exact rt1 E ⟨_,rfl,_,rfl,S⟩
  refine plc E (.r 3 3 .nil) fun a E=>E.fk 107 H (fun c211 E H=>?_) fun c211 E H=>?_
  obtain ⟨c212,H⟩:=gd H
  have hr213:=S.ra 2
  have hE_:=E
  obtain ⟨b214,rfl⟩:=qCi hr213 c212.1 c212.2
  replace E:=hE_
  have hr_:=S.ra 2
  obtain ⟨cs216,⟨A218,c219,rfl,g220⟩,hc217⟩:=qCh hr_ qF.z t171.1.f1 c212.1 c212.2
  refine plc E (.r 6 1<|.b 7 0 hb182<|.r 8 1<|.b 9 1 hb182<|.x 10 c212<|.r 11 1<|.c 12 (hc217 0 _ rfl)<|.r 13 4<|.nil) fun a E=>E.fk 118 H (fun c221 E H=>?_) fun c221 E H=>?_
  obtain ⟨t223,h224,H⟩:=bd H
  refine plq E S en11 (qAW.calls k140 _ _ _ S.own.sub h224) fun u222 S a E=>plc E (.r 18 2 .nil) fun a E=>pld (hK206 _ _ (wp_ret (qCc (qCd (qCc (qCc (qCd (qCc ?_))))))))
  have S:=S.pm [] 7
  obtain rfl:=si H
  exact rt1 E ⟨_,rfl,_,rfl,S⟩
  refine plc E (.r 17 3 .nil) fun a E=>pld (hK206 _ _ (wp_ret (qCc (qCd (qCc (qCc (qCd (qCc ?_))))))))
  have S:=S.pm [] 7
  obtain rfl:=si H
  exact rt1 E ⟨_,rfl,_,rfl,S⟩
  refine plc E (.r 6 14 .nil) fun a E=>pld (hK206 _ _ (wp_ret (qCc (qCd (qCc (qCc (qCd (qCc ?_))))))))
  have S:=S.pm [] 7
  obtain rfl:=si H
  exact rt1 E ⟨_,rfl,_,rfl,S⟩
  refine wp_exit ?_
  refine hK75 _ _ (sq fun K250 hK250=>pl0 ?_)
  have hb2:=S.ba 2
  refine plc E (.bn 0 0 3 (S.ba 0)<|.bn 1 0 7 hb2<|.r 2 1<|.nil) fun a E=>?_
  obtain ⟨t252,h253,H⟩:=bd H
  refine ple E (.cl en24 (qAw.calls k112 (⟨l89,x91,x92⟩:qAm) (⟨x93,x94,x95,x96,l99,l103,l107⟩:qD) l84 _ _ _ _ _ _ _ _ _ _ _ _ _ S.own.sub g90 g100 g104 g108 g85 h253)) ?_
  rintro _ u251 a ⟨F254,A255,c256,A259,c260,rfl,hC⟩ E
  have hs:=hC.sub
  have S:=S.called (X:=[]) hC
  have g100:=g100.mono hs
  have g104:=g104.mono hs
  have g108:=g108.mono hs
  refine plc E (.r 4 4 .nil) fun a E=>pla (t:=50) E S [.slice none 0 0,iv 0,iv 0] fun b263 u264 hb263 S a E=>pla (t:=29) E S [iv 0,iv 0,iv 0,iv 0,iv 0,iv 0,.slice none 0 0] fun b265 u266 hb265 S a E=>?_
  have S:=S.front 1 rfl
  refine pls E S [.slice A255 t252.1.f0.length c256,iv t252.1.f1,iv t252.1.f2] fun u267 hb263 S a E=>?_
  have S:=S.front 1 rfl
  refine pls E S (dL t252.2.1 A259 c260) fun u268 hb265 S a E=>plc E (.r 12 1 .nil) fun a E=>pld (hK250 _ _ (sq fun K269 hK269=>pl0 (plc E (.r 0 3 .nil) fun a E=>E.fk 135 H (fun c270 E H=>?_) fun c270 E H=>?_)))
  refine plc E (.bn 3 0 7 (S.ba 6)<|.bn 4 0 5 (S.ba 5)<|.nil) fun a E=>?_
  obtain ⟨t272,h273,H⟩:=bd H
  refine plq E S en36 (qBF.calls k112 (⟨x93,x94,x95,x96,l99,l103,l107⟩:qD) y _ _ _ _ _ _ _ _ _ S.own.sub g100 g104 g108 h273) fun u271 S a E=>plc E (.r 6 2 .nil) fun a E=>E.fb 140 H (fun c274 E H=>?_) fun c274 E H=>?_
  obtain ⟨t276,h277,H⟩:=bd H
  refine plq E S en11 (qAW.calls k112 _ _ _ S.own.sub h277) fun u275 S a E=>plc E (.r 9 2 .nil) fun a E=>pld (hK269 _ _ (wp_ret ?_))
  have S:=S.pm [] 7
  obtain rfl:=si H
  exact rt1 E ⟨_,rfl,_,rfl,S⟩
  refine plc E (.r 8 3 .nil) fun a E=>pld (hK269 _ _ (wp_ret ?_))
  have S:=S.pm [] 7
  obtain rfl:=si H
  exact rt1 E ⟨_,rfl,_,rfl,S⟩
  refine plc E (.r 3 8 .nil) fun a E=>pld (hK269 _ _ (wp_ret ?_))
  have S:=S.pm [] 7
  obtain rfl:=si H
  exact rt1 E ⟨_,rfl,_,rfl,S⟩
  refine sq fun K39 hK39=>pl0 ?_
  obtain ⟨t41,h42,H⟩:=bd H
  refine plq E S en11 (qAW.calls k19 _ _ _ S.own.sub h42) fun u40 S a E=>plc E (.r 1 1 .nil) fun a E=>pld (hK39 _ _ (wp_ret (qCc ?_)))
  have S:=S.pm [] 3
  obtain rfl:=si H
  exact rt1 E ⟨_,rfl,_,rfl,S⟩
 refine pl0 ?_
 have hb2:=S.ba 1
 refine plc E (.bn 0 0 7 hb2 .nil) fun a E=>?_
 obtain ⟨t9,h10,H⟩:=bd H
 refine plq E S en10 (qW.calls k x _ _ _ _ _ _ _ _ _ S.own.sub g0_4 g0_5 g0_6 h10) fun u8 S a E=>plc E (.r 2 2 .nil) fun a E=>E.fbn 22 H (fun c11 E H=>?_) fun c11 E H=>?_
 have hb2:=S.ba 1
 refine plc E (.bn 4 0 7 hb2 .nil) fun a E=>?_
 obtain ⟨t13,h14,H⟩:=bd H
 refine plq E S en22 (qe.calls k x _ _ _ _ _ _ _ _ _ S.own.sub g0_4 g0_5 g0_6 h14) fun u12 S a E=>plc E (.r 6 3 .nil) fun a E=>E.fbn 27 H (fun c15 E H=>?_) fun c15 E H=>?_
 refine plc E (.r 9 1<|.b 10 0 (S.ba 1)<|.r 11 2<|.nil) fun a E=>pld ?_
 exact J20 _ (by omega) _ (decide (x.f0>100000)) _ _ E .of S H
 refine plc E (.r 9 4 .nil) fun a E=>pld ?_
 exact J20 _ (by omega) _ true _ _ E .of S H
 refine plc E (.r 4 9 .nil) fun a E=>pld ?_
 exact J20 _ (by omega) _ true _ _ E .of S H
end Go.Proofs.YthgfhlbjkmjlpaaGreat.GD
