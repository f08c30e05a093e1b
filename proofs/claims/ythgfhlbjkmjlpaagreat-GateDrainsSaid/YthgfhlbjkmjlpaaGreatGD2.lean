import Derived.Test.YthgfhlbjkmjlpaaGreatGD1
namespace Go.Proofs.YthgfhlbjkmjlpaaGreat.GD
open Go Go.RowKit Go.Proofs.YthgfhlbjkmjlpaaGreat.Sl
set_option linter.unusedVariables false
set_option linter.unusedSimpArgs false
set_option maxHeartbeats 4000000
set_option maxRecDepth 100000
mutual
def qBG.l30:Nat->qD->List qA->List qE->List qE->Int->Option qD
 | 0,_,_,_,_,_=>none
 | k+1,x,t8,t16,l27,x28=>if x28<(t16.length:Int) then (if 0<=x28/\x28<(t16.length:Int) then ((qAP.f ((nth qE.z l27 x28).f1)).bind fun t53=>(qBG.l30 k x t8 t16 (l27.set (x28).toNat (⟨(nth qE.z l27 x28).f0,t53⟩:qE)) (w64 (x28+1)))) else (none)) else ((qAR.f x.f6).bind fun t78=>(qBG.l91 k x t8 l27 t78 t78 0))
def qBG.l91:Nat->qD->List qA->List qE->List qC->List qC->Int->Option qD
 | 0,_,_,_,_,_,_=>none
 | k+1,x,t8,l27,t78,l88,x89=>if x89<(t78.length:Int) then (if 0<=x89/\x89<(t78.length:Int) then ((qBP.f k ((nth qC.z l88 x89).f1)).bind fun t114=>(qBG.l91 k x t8 l27 t78 (l88.set (x89).toNat (⟨(nth qC.z l88 x89).f0,t114⟩:qC)) (w64 (x89+1)))) else (none)) else (some (⟨x.f0,x.f1,x.f2,x.f3,t8,l27,l88⟩:qD))
end
theorem qBG.l30_s k x t8 t16 l27 x28:type_of% (qBG.l30.eq_2 x t8 t16 l27 x28 k):=qBG.l30.eq_2 x t8 t16 l27 x28 k
theorem qBG.l91_s k x t8 l27 t78 l88 x89:type_of% (qBG.l91.eq_2 x t8 l27 t78 l88 x89 k):=qBG.l91.eq_2 x t8 l27 t78 l88 x89 k
def qBG.f(k:Nat)(x:qD):Option qD:=(qAZ.f x.f4).bind fun t8=>((qAo.f x.f5).bind fun t16=>(qBG.l30 k x t8 t16 t16 0))
def qBG.Post(W F:World)(r:qD)(v:Value)(w':World):Prop:=∃(F':World)(RA0_4:OA)(rc0_4:Nat)(RA0_5:OA)(rc0_5:Nat)(RA0_6:OA)(rc0_6:Nat),v = .agg (mA r RA0_4 rc0_4 RA0_5 rc0_5 RA0_6 rc0_6)/\Sm W F w' F' [row qA.k 68 (.slice RA0_4 r.f4.length rc0_4) r.f4,row qE.k 75 (.slice RA0_5 r.f5.length rc0_5) r.f5,row qC.k 73 (.slice RA0_6 r.f6.length rc0_6) r.f6]
theorem qBG.calls(k:Nat)(x:qD)(A0_4:OA)(c0_4:Nat)(A0_5:OA)(c0_5:Nat)(A0_6:OA)(c0_6:Nat)(r:qD)(W F:World)(hown:Sub F W)(g0_4:Rd qA.k F A0_4 c0_4 x.f4)(g0_5:Rd qE.k F A0_5 c0_5 x.f5)(g0_6:Rd qC.k F A0_6 c0_6 x.f6)(H:qBG.f k x=some r):
    Cr 69 #[.agg (mA x A0_4 c0_4 A0_5 c0_5 A0_6 c0_6)] W (qBG.Post W F r):=by
 have S:=sT hown
 unfold qBG.f at H
 refine ent 54 rfl rfl rfl fun a E=>?_
 refine sq fun K1 hK1=>pl0 (plx (t:=26) E S (mL x A0_4 c0_4 A0_5 c0_5 A0_6 c0_6) fun b2 u3 hb2 S a E=>pla (t:=26) E S [iv 0,iv 0,iv 0,iv 0,.slice none 0 0,.slice none 0 0,.slice none 0 0] fun b4 u5 hb4 S a E=>pld (hK1 _ _ (sq fun K6 hK6=>?_)))
 refine drawn 10 ⟨[7,9],[],fun q=>False⟩ mixed rfl (by kernel_rfl) fun hst=>?_
 have S:=S.drew
 have hb2:=S.ba 1
 refine mny 6 hst E (.r 0 1<|.b 1 4 hb2<|.r 3 1<|.b 4 5 hb2<|.nil) fun a E=>?_
 obtain ⟨t8,h9,H⟩:=bd H
 refine on1 2 E (.cl en96 (qAZ.calls x.f4 _ _ _ _ _ S.own.sub g0_4 h9)) ?_
 rintro _ u7 a ⟨F10,A11,c12,rfl,hC⟩ E
 refine ⟨.of hC.agr,?_⟩
 have hs:=hC.sub
 have S:=S.called (X:=[]) hC
 have g0_5:=g0_5.mono hs
 have g0_6:=g0_6.mono hs
 refine mny 4 hst E (.r 6 1 .nil) fun a E=>?_
 obtain ⟨t16,h17,H⟩:=bd H
 refine on1 5 E (.cl en97 (qAo.calls x.f5 _ _ _ _ _ S.own.sub g0_5 h17)) ?_
 rintro _ u15 a ⟨F18,A19,c20,rfl,hC⟩ E
 refine ⟨.of hC.agr,?_⟩
 have hs:=hC.sub
 have S:=S.called (X:=[]) hC
 have g0_6:=g0_6.mono hs
 have S:=S.front 3 rfl
 refine on1 7 E (.sto S [iv x.f0,iv x.f1,iv x.f2,iv x.f3,.slice A11 t8.length c12,.slice A0_5 x.f5.length c0_5,.slice A0_6 x.f6.length c0_6]) ?_
 rintro _ u23 a ⟨rfl,hb2,S,hz⟩ E
 refine ⟨.d,?_⟩
 refine mny 1 hst E (.r 8 1 .nil) fun a E=>?_
 refine on1 9 E (.sto S [iv x.f0,iv x.f1,iv x.f2,iv x.f3,.slice A11 t8.length c12,.slice A19 t16.length c20,.slice A0_6 x.f6.length c0_6]) ?_
 rintro _ u24 a ⟨rfl,hb2,S,hz⟩ E
 refine ⟨.d,?_⟩
 refine dn ?_
 refine hK6 _ _ (sq fun K25 hK25=>rg E (.r 0 1<|.b 1 5 hb2<|.r 2 2<|.nil) fun a E=>(wp_block ?_))
 have S:=S.pm [0,3,2,1] 4
 refine wp_loop_ghost (fun kq31 a w'=>∃(G:NV)(l27:List qE)(x28:Int)(F29:World),kq31<=k/\Env 54 G a/\At G [(1,.pointer (pb b2)),(2,.pointer (pb b4)),(16,.slice A19 t16.length c20),(17,iv (t16.length:Int)),(18,iv x28)]/\Sm W F w' F29 [box b2 #[iv x.f0,iv x.f1,iv x.f2,iv x.f3,.slice A11 t8.length c12,.slice A19 t16.length c20,.slice A0_6 x.f6.length c0_6] 26,box b4 #[iv 0,iv 0,iv 0,iv 0,.slice none 0 0,.slice none 0 0,.slice none 0 0] 26,row qA.k 68 (.slice A11 t8.length c12) t8,row qE.k 75 (.slice A19 t16.length c20) l27]/\Rd qC.k F29 A0_6 c0_6 x.f6/\qBG.l30 kq31 x t8 t16 l27 x28=some r) k ⟨_,t16,0,F18,Nat.le_refl _,E,.of,S,g0_6,H⟩ ?_
 rintro kq31 a u33 ⟨G,l27,x28,F29,hkq,E,A,S,g0_6,H⟩
 obtain _ | k32:=kq31
 exact zz H
 rw [qBG.l30_s]at H
 obtain ⟨J,E⟩:=E.at A
 refine rr E fun a E=>(sq fun K35 hK35=>E.ik 19 H (fun c36 E H=>?_) fun c36 E H=>?_)
 refine wp_skip (hK35 _ _ (sq fun K37 hK37=>wp_block (sq fun K38 hK38=>pl0 ?_)))
 obtain ⟨c39,H⟩:=gd H
 have hr40:=S.ra 3
 have c41:0<=x28/\x28<(l27.length:Int):=by rw [← (qCg hr40).1]; exact c39
 have hE_:=E
 obtain ⟨b42,rfl⟩:=qCi hr40 c41.1 c41.2
 replace E:=hE_
 have hr_:=S.ra 3
 obtain ⟨cs44,⟨A46,c47,rfl,g48⟩,hc45⟩:=qCh hr_ qE.z x28 c41.1 c41.2
 refine plc E (.r 0 1<|.x 1 c39<|.cs 2 hc45<|.nil) fun a E=>pla (t:=75) E S [iv 0,.slice none 0 0] fun b49 u50 hb49 S a E=>plc E (.r 4 1 .nil) fun a E=>pls E S [iv ((nth qE.z l27 x28).f0),.slice A46 (((nth qE.z l27 x28).f1).length) c47] fun u51 hb49 S a E=>pld (hK38 _ _ ?_)
 refine drawn 9 ⟨[8],[],fun q=>False⟩ mixed rfl (by kernel_rfl) fun hst=>?_
 have S:=S.drew
 have hb2:=S.ba 1
 have hb49:=S.ba 0
 refine mny 4 hst E (.r 0 1<|.b 1 5 hb2<|.r 2 2<|.b 4 1 hb49<|.nil) fun a E=>?_
 obtain ⟨t53,h54,H⟩:=bd H
 refine on1 5 E (.cl en54 (qAP.calls ((nth qE.z l27 x28).f1) _ _ _ _ _ S.own.sub g48 h54)) ?_
 rintro _ u52 a ⟨F55,A56,c57,rfl,hC⟩ E
 refine ⟨.of hC.agr,?_⟩
 have hs:=hC.sub
 have S:=S.called (X:=[]) hC
 have g0_6:=g0_6.mono hs
 have hr60:=S.ra 5
 have c61:0<=x28/\x28<(l27.length:Int):=by rw [← (qCg hr60).1]; exact c39
 have hr_:=S.ra 5
 obtain ⟨cs63,⟨A65,c66,rfl,g67⟩,hc64⟩:=qCh hr_ qE.z x28 c61.1 c61.2
 refine mny 1 hst E (.x 6 c39<|.r 7 1<|.nil) fun a E=>?_
 obtain ⟨F69,hs,g70,S⟩:=S.give
 have g0_6:=g0_6.mono hs
 have S:=S.front 4 rfl
 obtain ⟨cs74,⟨A71,c72,rfl,g73⟩,hc75⟩:=qCh (S.row_at (i:=0) rfl) qE.z x28 c61.1 c61.2
 refine on1 8 E (.set (d:=qE.k) (n:=t16.length) (i:=x28) (⟨(nth qE.z l27 x28).f0,t53⟩:qE) 1 (ea1 _ _ _) S c61 [iv ((nth qE.z l27 x28).f0),.slice A71 (((nth qE.z l27 x28).f1).length) c72] hc75 [iv ((nth qE.z l27 x28).f0),.slice A56 t53.length c57] ⟨_,_,rfl,g70⟩) ?_
 rintro _ u68 a ⟨rfl,S,hz⟩ E
 refine ⟨.d,?_⟩
 refine dn ?_
 refine qCe ?_
 refine hK37 _ _ (pl0 (plc E (.r 0 2 .nil) fun a E=>pld ?_))
 have S:=S.pm [2,3,4,0] 5
 exact qCf ⟨k32,by omega,_,(l27.set (x28).toNat (⟨(nth qE.z l27 x28).f0,t53⟩:qE)),(w64 (x28+1)),F69,by omega,E,.of,S,g0_6,H⟩
 refine wp_exit ?_
 refine hK25 _ _ (sq fun K76 hK76=>pl0 (plc E (.r 0 1<|.b 1 6 (S.ba 0)<|.nil) fun a E=>?_))
 obtain ⟨t78,h79,H⟩:=bd H
 refine ple E (.cl en98 (qAR.calls x.f6 _ _ _ _ _ S.own.sub g0_6 h79)) ?_
 rintro _ u77 a ⟨F80,A81,c82,rfl,hC⟩ E
 have hs:=hC.sub
 have S:=S.called (X:=[]) hC
 refine plc E (.r 3 1 .nil) fun a E=>?_
 have S:=S.front 1 rfl
 refine pls E S [iv x.f0,iv x.f1,iv x.f2,iv x.f3,.slice A11 t8.length c12,.slice A19 t16.length c20,.slice A81 t78.length c82] fun u85 hb2 S a E=>pld (hK76 _ _ (sq fun K86 hK86=>rg E (.r 0 1<|.b 1 6 hb2<|.r 2 2<|.nil) fun a E=>(wp_block ?_)))
 have S:=S.pm [0,2,3,4,1] 5
 refine wp_loop_ghost (fun kq92 a w'=>∃(G:NV)(l88:List qC)(x89:Int)(F90:World),kq92<=k32/\Env 54 G a/\At G [(1,.pointer (pb b2)),(2,.pointer (pb b4)),(37,.slice A81 t78.length c82),(38,iv (t78.length:Int)),(39,iv x89)]/\Sm W F w' F90 [box b2 #[iv x.f0,iv x.f1,iv x.f2,iv x.f3,.slice A11 t8.length c12,.slice A19 t16.length c20,.slice A81 t78.length c82] 26,box b4 #[iv 0,iv 0,iv 0,iv 0,.slice none 0 0,.slice none 0 0,.slice none 0 0] 26,row qA.k 68 (.slice A11 t8.length c12) t8,row qE.k 75 (.slice A19 t16.length c20) l27,row qC.k 73 (.slice A81 t78.length c82) l88]/\qBG.l91 kq92 x t8 l27 t78 l88 x89=some r) k32 ⟨_,t78,0,F80,Nat.le_refl _,E,.of,S,H⟩ ?_
 rintro kq92 a u94 ⟨G,l88,x89,F90,hkq,E,A,S,H⟩
 obtain _ | k93:=kq92
 exact zz H
 rw [qBG.l91_s]at H
 obtain ⟨J,E⟩:=E.at A
 refine rr E fun a E=>(sq fun K96 hK96=>E.ik 40 H (fun c97 E H=>?_) fun c97 E H=>?_)
 refine wp_skip (hK96 _ _ (sq fun K98 hK98=>wp_block (sq fun K99 hK99=>pl0 ?_)))
 obtain ⟨c100,H⟩:=gd H
 have hr101:=S.ra 4
 have c102:0<=x89/\x89<(l88.length:Int):=by rw [← (qCg hr101).1]; exact c100
 have hE_:=E
 obtain ⟨b103,rfl⟩:=qCi hr101 c102.1 c102.2
 replace E:=hE_
 have hr_:=S.ra 4
 obtain ⟨cs105,⟨A107,c108,rfl,g109⟩,hc106⟩:=qCh hr_ qC.z x89 c102.1 c102.2
 refine plc E (.r 0 1<|.x 1 c100<|.cs 2 hc106<|.nil) fun a E=>pla (t:=73) E S [iv 0,.slice none 0 0] fun b110 u111 hb110 S a E=>plc E (.r 4 1 .nil) fun a E=>pls E S [iv ((nth qC.z l88 x89).f0),.slice A107 (((nth qC.z l88 x89).f1).length) c108] fun u112 hb110 S a E=>pld (hK99 _ _ ?_)
 refine drawn 9 ⟨[8],[],fun q=>False⟩ mixed rfl (by kernel_rfl) fun hst=>?_
 have S:=S.drew
 have hb2:=S.ba 1
 have hb110:=S.ba 0
 refine mny 4 hst E (.r 0 1<|.b 1 6 hb2<|.r 2 2<|.b 4 1 hb110<|.nil) fun a E=>?_
 obtain ⟨t114,h115,H⟩:=bd H
 refine on1 5 E (.cl en99 (qBP.calls k93 ((nth qC.z l88 x89).f1) _ _ _ _ _ S.own.sub g109 h115)) ?_
 rintro _ u113 a ⟨F116,A117,c118,rfl,hC⟩ E
 refine ⟨.of hC.agr,?_⟩
 have hs:=hC.sub
 have S:=S.called (X:=[]) hC
 have hr121:=S.ra 6
 have c122:0<=x89/\x89<(l88.length:Int):=by rw [← (qCg hr121).1]; exact c100
 have hr_:=S.ra 6
 obtain ⟨cs124,⟨A126,c127,rfl,g128⟩,hc125⟩:=qCh hr_ qC.z x89 c122.1 c122.2
 refine mny 1 hst E (.x 6 c100<|.r 7 1<|.nil) fun a E=>?_
 obtain ⟨F130,hs,g131,S⟩:=S.give
 have S:=S.front 5 rfl
 obtain ⟨cs135,⟨A132,c133,rfl,g134⟩,hc136⟩:=qCh (S.row_at (i:=0) rfl) qC.z x89 c122.1 c122.2
 refine on1 8 E (.set (d:=qC.k) (n:=t78.length) (i:=x89) (⟨(nth qC.z l88 x89).f0,t114⟩:qC) 1 (ea1 _ _ _) S c122 [iv ((nth qC.z l88 x89).f0),.slice A132 (((nth qC.z l88 x89).f1).length) c133] hc136 [iv ((nth qC.z l88 x89).f0),.slice A117 t114.length c118] ⟨_,_,rfl,g131⟩) ?_
 rintro _ u129 a ⟨rfl,S,hz⟩ E
 refine ⟨.d,?_⟩
 refine dn ?_
 refine qCe ?_
 refine hK98 _ _ (pl0 (plc E (.r 0 2 .nil) fun a E=>pld ?_))
 have S:=S.pm [2,3,4,5,0] 6
 exact qCf ⟨k93,by omega,_,(l88.set (x89).toNat (⟨(nth qC.z l88 x89).f0,t114⟩:qC)),(w64 (x89+1)),F130,by omega,E,.of,S,H⟩
 refine wp_exit ?_
 refine hK86 _ _ (sq fun K137 hK137=>pl0 (plc E (.bn 0 0 7 (S.ba 0) .nil) fun a E=>?_))
 have S:=S.front 1 rfl
 refine pls E S [iv x.f0,iv x.f1,iv x.f2,iv x.f3,.slice A11 t8.length c12,.slice A19 t16.length c20,.slice A81 t78.length c82] fun u138 hb4 S a E=>pld (hK137 _ _ (wp_ret ?_))
 have hn139:=(qCg (S.row_at (i:=3) rfl)).1
 replace S:Sm W F u138 F90 [box b4 #[iv x.f0,iv x.f1,iv x.f2,iv x.f3,.slice A11 t8.length c12,.slice A19 l27.length c20,.slice A81 t78.length c82] 26,box b2 #[iv x.f0,iv x.f1,iv x.f2,iv x.f3,.slice A11 t8.length c12,.slice A19 l27.length c20,.slice A81 t78.length c82] 26,row qA.k 68 (.slice A11 t8.length c12) t8,row qE.k 75 (.slice A19 l27.length c20) l27,row qC.k 73 (.slice A81 t78.length c82) l88]:=by rw [← hn139]; exact S
 have hn140:=(qCg (S.row_at (i:=4) rfl)).1
 replace S:Sm W F u138 F90 [box b4 #[iv x.f0,iv x.f1,iv x.f2,iv x.f3,.slice A11 t8.length c12,.slice A19 l27.length c20,.slice A81 l88.length c82] 26,box b2 #[iv x.f0,iv x.f1,iv x.f2,iv x.f3,.slice A11 t8.length c12,.slice A19 l27.length c20,.slice A81 l88.length c82] 26,row qA.k 68 (.slice A11 t8.length c12) t8,row qE.k 75 (.slice A19 l27.length c20) l27,row qC.k 73 (.slice A81 l88.length c82) l88]:=by rw [← hn140]; exact S
 have hb4:=S.ba 0
 have S:=S.pm [] 2
 obtain rfl:=si H
 exact ret1 E rfl (.cell (by kernel_rfl) (qCw [iv x.f0,iv x.f1,iv x.f2,iv x.f3,.slice A11 t8.length c12,.slice A19 l27.length c20,.slice A81 l88.length c82] ag26 sz26 hb4 rfl) .nil) ⟨_,rfl,_,_,_,_,_,_,_,rfl,S⟩
def qBa.f(x:Int):Option Bool:=some (!(x == x))
def qBa.Post(W F:World)(r:Bool)(v:Value)(w':World):Prop:=∃(F':World),v = .bool r/\Sm W F w' F' []
theorem qBa.calls(x:Int)(r:Bool)(W F:World)(hown:Sub F W)(H:qBa.f x=some r):
    Cr 115 #[iv x] W (qBa.Post W F r):=by
 have S:=sT hown
 unfold qBa.f at H
 refine ent 6 rfl rfl rfl fun a E=>?_
 refine rr E fun a E=>(rr E fun a E=>(wp_ret ?_))
 obtain rfl:=si H
 exact rt1 E ⟨_,rfl,_,rfl,S⟩
def qBB.f(x:Int)(y:Int):Option Int:=(qBa.f x).bind fun t4=>((qBa.f y).bind fun t8=>(if t4=true then (if t8=true then (some 0) else (some (-1))) else (if t8=true then (some 1) else (if x<y then (some (-1)) else (if x>y then (some 1) else (some 0))))))
def qBB.Post(W F:World)(r:Int)(v:Value)(w':World):Prop:=∃(F':World),v=iv r/\Sm W F w' F' []
theorem qBB.calls(x:Int)(y:Int)(r:Int)(W F:World)(hown:Sub F W)(H:qBB.f x y=some r):
    Cr 90 #[iv x,iv y] W (qBB.Post W F r):=by
 have S:=sT hown
 unfold qBB.f at H
 refine ent 20 rfl rfl rfl fun a E=>?_
 refine rr E fun a E=>(sq fun K2 hK2=>pl0 (plc E (.r 0 1 .nil) fun a E=>?_))
 obtain ⟨t4,h5,H⟩:=bd H
 refine plq E S en115 (qBa.calls x _ _ _ S.own.sub h5) fun u3 S a E=>plc E (.r 2 1 .nil) fun a E=>pld (hK2 _ _ (sq fun K6 hK6=>pl0 (plc E (.r 0 1 .nil) fun a E=>?_)))
 obtain ⟨t8,h9,H⟩:=bd H
 refine plq E S en115 (qBa.calls y _ _ _ S.own.sub h9) fun u7 S a E=>plc E (.r 2 1 .nil) fun a E=>pld (hK6 _ _ (sq fun K10 hK10=>rr E fun a E=>(E.ib 11 H (fun c12 E H=>?_) fun c12 E H=>?_)))
 refine sq fun K13 hK13=>rr E fun a E=>(E.ib 12 H (fun c15 E H=>?_) fun c15 E H=>?_)
 refine rr E fun a E=>(wp_ret (qCc (qCc ?_)))
 obtain rfl:=si H
 exact rt1 E ⟨_,rfl,_,rfl,S⟩
 refine wp_skip (hK13 _ _ (rr E fun a E=>(wp_ret (qCc ?_))))
 obtain rfl:=si H
 exact rt1 E ⟨_,rfl,_,rfl,S⟩
 refine wp_skip (hK10 _ _ (sq fun K18 hK18=>rr E fun a E=>(E.ib 13 H (fun c20 E H=>?_) fun c20 E H=>?_)))
 refine rr E fun a E=>(wp_ret (qCc ?_))
 obtain rfl:=si H
 exact rt1 E ⟨_,rfl,_,rfl,S⟩
 refine wp_skip (hK18 _ _ (sq fun K22 hK22=>rr E fun a E=>(E.ik 16 H (fun c24 E H=>?_) fun c24 E H=>?_)))
 refine rr E fun a E=>(wp_ret (qCc ?_))
 obtain rfl:=si H
 exact rt1 E ⟨_,rfl,_,rfl,S⟩
 refine wp_skip (hK22 _ _ (sq fun K26 hK26=>rr E fun a E=>(E.ik 19 H (fun c28 E H=>?_) fun c28 E H=>?_)))
 refine rr E fun a E=>(wp_ret (qCc ?_))
 obtain rfl:=si H
 exact rt1 E ⟨_,rfl,_,rfl,S⟩
 refine wp_skip (hK26 _ _ (rr E fun a E=>(wp_ret ?_)))
 obtain rfl:=si H
 exact rt1 E ⟨_,rfl,_,rfl,S⟩
def qCH.f(x:qA)(y:Int):Option Int:=(qBB.f x.f0 y).bind fun t6=>(some t6)
def qCH.Post(W F:World)(r:Int)(v:Value)(w':World):Prop:=∃(F':World),v=iv r/\Sm W F w' F' []
theorem qCH.calls(x:qA)(y:Int)(r:Int)(W F:World)(hown:Sub F W)(H:qCH.f x y=some r):
    Cr 127 #[.agg (nA x),iv y] W (qCH.Post W F r):=by
 have S:=sT hown
 unfold qCH.f at H
 refine ent 9 rfl rfl rfl fun a E=>?_
 refine sq fun K1 hK1=>pl0 (plx (t:=68) E S (nL x) fun b2 u3 hb2 S a E=>plc E (.r 1 1 .nil) fun a E=>pld (hK1 _ _ (sq fun K4 hK4=>pl0 (plc E (.r 0 1<|.b 1 0 hb2<|.r 2 1<|.nil) fun a E=>?_))))
 obtain ⟨t6,h7,H⟩:=bd H
 refine plq E S en90 (qBB.calls x.f0 y _ _ _ S.own.sub h7) fun u5 S a E=>plc E (.r 4 1 .nil) fun a E=>pld (hK4 _ _ (wp_ret ?_))
 have S:=S.tail
 obtain rfl:=si H
 exact rt1 E ⟨_,rfl,_,rfl,S⟩
def qS.l7:Nat->List qA->Int->Int->Int->Option (Int × Bool)
 | 0,_,_,_,_=>none
 | k+1,x,y,x5,x6=>if x5<x6 then (if 0<=(w64 ((IntKind.u64.wrap (w64 (x5+x6))).fdiv 2))/\(w64 ((IntKind.u64.wrap (w64 (x5+x6))).fdiv 2))<(x.length:Int) then ((qCH.f (nth qA.z x (w64 ((IntKind.u64.wrap (w64 (x5+x6))).fdiv 2))) y).bind fun t22=>(if t22<0 then (qS.l7 k x y (w64 ((w64 ((IntKind.u64.wrap (w64 (x5+x6))).fdiv 2))+1)) x6) else (qS.l7 k x y x5 (w64 ((IntKind.u64.wrap (w64 (x5+x6))).fdiv 2))))) else (none)) else (if x5<(x.length:Int) then (if 0<=x5/\x5<(x.length:Int) then ((qCH.f (nth qA.z x x5) y).bind fun t33=>(some (x5,(t33 == 0)))) else (none)) else (some (x5,false)))
theorem qS.l7_s k x y x5 x6:type_of% (qS.l7.eq_2 x y x5 x6 k):=qS.l7.eq_2 x y x5 x6 k
def qS.f(k:Nat)(x:List qA)(y:Int):Option (Int × Bool):=qS.l7 k x y 0 (x.length:Int)
def qS.Post(W F:World)(r:Int × Bool)(v:Value)(w':World):Prop:=∃(F':World),v = .tuple #[iv r.1,.bool r.2]/\Sm W F w' F' []
theorem qS.calls(k:Nat)(x:List qA)(y:Int)(A0_0:OA)(c0_0:Nat)(r:Int × Bool)(W F:World)(hown:Sub F W)(g0_0:Rd qA.k F A0_0 c0_0 x)(H:qS.f k x y=some r):
    Cr 88 #[.slice A0_0 x.length c0_0,iv y,.func (.func 127) #[] #[]] W (qS.Post W F r):=by
 have S:=sT hown
 unfold qS.f at H
 refine ent 49 rfl rfl rfl fun a E=>?_
 refine rr E fun a E=>(rr E fun a E=>(rr E fun a E=>(sq fun K4 hK4=>wp_block ?_)))
 refine wp_loop_ghost (fun kq8 a w'=>∃(G:NV)(x5:Int)(x6:Int),kq8<=k/\Env 49 G a/\At G [(0,.slice A0_0 x.length c0_0),(1,iv y),(2,.func (.func 127) #[] #[]),(8,iv (x.length:Int)),(9,iv x5),(10,iv x6)]/\Sm W F w' F []/\qS.l7 kq8 x y x5 x6=some r) k ⟨_,0,(x.length:Int),Nat.le_refl _,E,.of,S,H⟩ ?_
 rintro kq8 a u10 ⟨G,x5,x6,hkq,E,A,S,H⟩
 obtain _ | k9:=kq8
 exact zz H
 rw [qS.l7_s]at H
 obtain ⟨J,E⟩:=E.at A
 refine sq fun K11 hK11=>rr E fun a E=>(E.ik 17 H (fun c13 E H=>?_) fun c13 E H=>?_)
 refine wp_skip (hK11 _ _ (wp_block (rr E fun a E=>(sq fun K15 hK15=>pl0 ?_))))
 obtain ⟨c16,H⟩:=gd H
 have hE_:=E
 obtain ⟨ad17,rfl⟩:=g0_0.addr c16.1 c16.2
 replace E:=hE_
 obtain ⟨cs19,rfl,hc20⟩:=g0_0.el qA.z (w64 ((IntKind.u64.wrap (w64 (x5+x6))).fdiv 2)) c16.1 c16.2
 refine plc E (.r 0 3<|.x 3 c16<|.cs 4 (S.fcs hc20)<|.r 5 1<|.nil) fun a E=>?_
 obtain ⟨t22,h23,H⟩:=bd H
 refine plq E S en127 (qCH.calls (nth qA.z x (w64 ((IntKind.u64.wrap (w64 (x5+x6))).fdiv 2))) y _ _ _ S.own.sub h23) fun u21 S a E=>plc E (.r 7 1 .nil) fun a E=>pld (hK15 _ _ (E.ik 31 H (fun c24 E H=>?_) fun c24 E H=>?_))
 refine pl0 (plc E (.r 0 3 .nil) fun a E=>pld ?_)
 refine qCe ?_
 exact qCf ⟨k9,by omega,_,(w64 ((w64 ((IntKind.u64.wrap (w64 (x5+x6))).fdiv 2))+1)),x6,by omega,E,.of,S,H⟩
 refine pl0 (plc E (.r 0 2 .nil) fun a E=>pld ?_)
 refine qCe ?_
 exact qCf ⟨k9,by omega,_,x5,(w64 ((IntKind.u64.wrap (w64 (x5+x6))).fdiv 2)),by omega,E,.of,S,H⟩
 refine wp_exit ?_
 refine hK4 _ _ (sq fun K25 hK25=>pl0 (plc E (.r 0 5 .nil) fun a E=>E.fk 39 H (fun c26 E H=>?_) fun c26 E H=>?_))
 obtain ⟨c27,H⟩:=gd H
 have hE_:=E
 obtain ⟨ad28,rfl⟩:=g0_0.addr c27.1 c27.2
 replace E:=hE_
 obtain ⟨cs30,rfl,hc31⟩:=g0_0.el qA.z x5 c27.1 c27.2
 refine plc E (.r 5 3<|.x 8 c27<|.cs 9 (S.fcs hc31)<|.r 10 1<|.nil) fun a E=>?_
 obtain ⟨t33,h34,H⟩:=bd H
 refine plq E S en127 (qCH.calls (nth qA.z x x5) y _ _ _ S.own.sub h34) fun u32 S a E=>plc E (.r 12 4 .nil) fun a E=>pld (hK25 _ _ (wp_ret ?_))
 obtain rfl:=si H
 exact rtN E ⟨_,rfl,_,rfl,S⟩
 refine plc E (.r 5 11 .nil) fun a E=>pld (hK25 _ _ (wp_ret ?_))
 obtain rfl:=si H
 exact rtN E ⟨_,rfl,_,rfl,S⟩
def qCW.f(k:Nat)(x:qD)(y:Int):Option (Int × Bool):=(qS.f k x.f4 y).bind fun t6=>(some (t6.1,t6.2))
def qCW.Post(W F:World)(r:Int × Bool)(v:Value)(w':World):Prop:=∃(F':World),v = .tuple #[iv r.1,.bool r.2]/\Sm W F w' F' []
theorem qCW.calls(k:Nat)(x:qD)(y:Int)(A0_4:OA)(c0_4:Nat)(A0_5:OA)(c0_5:Nat)(A0_6:OA)(c0_6:Nat)(r:Int × Bool)(W F:World)(hown:Sub F W)(g0_4:Rd qA.k F A0_4 c0_4 x.f4)(g0_5:Rd qE.k F A0_5 c0_5 x.f5)(g0_6:Rd qC.k F A0_6 c0_6 x.f6)(H:qCW.f k x y=some r):
    Cr 103 #[.agg (mA x A0_4 c0_4 A0_5 c0_5 A0_6 c0_6),iv y] W (qCW.Post W F r):=by
 have S:=sT hown
 unfold qCW.f at H
 refine ent 12 rfl rfl rfl fun a E=>?_
 refine sq fun K1 hK1=>pl0 (plx (t:=26) E S (mL x A0_4 c0_4 A0_5 c0_5 A0_6 c0_6) fun b2 u3 hb2 S a E=>plc E (.r 1 2 .nil) fun a E=>pld (hK1 _ _ (sq fun K4 hK4=>pl0 (plc E (.r 0 1<|.b 1 4 hb2<|.r 2 1<|.nil) fun a E=>?_))))
 obtain ⟨t6,h7,H⟩:=bd H
 refine plq E S en88 (qS.calls k x.f4 y _ _ _ _ _ S.own.sub g0_4 h7) fun u5 S a E=>plc E (.r 4 4 .nil) fun a E=>pld (hK4 _ _ (wp_ret ?_))
 have S:=S.tail
 obtain rfl:=si H
 exact rtN E ⟨_,rfl,_,rfl,S⟩
def qAg.f(p:List qA)(s:Int)(t:List qA):Option (List qA):=match t with
 | [x]=>if 0<=s/\s<=(p.length:Int)/\p.length<=1000000 then some (p.take s.toNat++x :: p.drop s.toNat) else none
 | _=>none
def qAg.Post(p:List qA)(s:Int)(t:List qA)(A0_0:OA)(c0_0:Nat)(A2_0:OA)(c2_0:Nat)(W F:World)(r:List qA)(v:Value)(w':World):Prop:=∃(F':World)(RA0_0:OA)(rc0_0:Nat),v = .slice RA0_0 r.length rc0_0/\St W (mine W [row qA.k 68 (.slice A0_0 p.length c0_0) p,row qA.k 68 (.slice A2_0 t.length c2_0) t]) F w' F' [row qA.k 68 (.slice RA0_0 r.length rc0_0) r]
set_option maxHeartbeats 4000000 in
set_option maxRecDepth 100000 in
theorem qAg.calls(p:List qA)(s:Int)(t:List qA)(A0_0:OA)(c0_0:Nat)(A2_0:OA)(c2_0:Nat)(r:List qA)(W F:World)(hown:Own W F [row qA.k 68 (.slice A0_0 p.length c0_0) p,row qA.k 68 (.slice A2_0 t.length c2_0) t])(H:qAg.f p s t=some r):
    Cr 124 #[.slice A0_0 p.length c0_0,iv s,.slice A2_0 t.length c2_0] W (qAg.Post p s t A0_0 c0_0 A2_0 c2_0 W F r):=by
 have S:=St.start hown
 unfold qAg.f at H
 rcases t with _ | ⟨x,_ | ⟨y,l⟩⟩
 ·
  cases H
 rotate_left
 ·
  cases H
 replace H:(if 0<=s/\s<=(p.length:Int)/\p.length<=1000000 then some (p.take s.toNat++x :: p.drop s.toNat) else none)=some r:=H
 by_cases hc:0<=s/\s<=(p.length:Int)/\p.length<=1000000
 rotate_left
 ·
  rw [if_neg hc]at H; cases H
 rw [if_pos hc]at H
 have hr:=Option.some.inj H
 clear H
 obtain ⟨h0,h1,hm⟩:=hc
 obtain ⟨j,rfl⟩:∃ j:Nat,s=j:=⟨s.toNat,by omega⟩
 simp only [Int.toNat_natCast]at hr
 refine enter (n:=95) rfl rfl rfl (Nat.le_of_ble_eq_true rfl) fun a E=>?_
 obtain ⟨A12,c12,hA12,hv12⟩:=y_suf (P:=Tryz.prog) (k:=.i64) (S.row_at (i:=0) rfl) ⟨h0,h1⟩
 refine rr E fun a E=>(rg E (.r 0 2<|.y 2 (hv12 (by kernel_rfl)) .nil) fun a E=>(rr E fun a E=>(sq fun K3 hK3=>rr E fun a E=>(cf E (wp_skip (hK3 _ _ (rr E fun a E=>(sq fun K6 hK6=>rr E fun a E=>?_))))))))
 by_cases hi:(j:Int)=(p.length:Int)
 ·
  replace E:=E.kt 22 hi
  refine ct E ?_
  obtain rfl:j=p.length:=by omega
  obtain rfl:p++[x]=r:=by rw [← hr]; simp
  refine sq fun K8 hK8=>pl0 (plc E (.r 0 2 .nil) fun a E=>ple E (.ap (d:=qA.k) 40 S (qCj (S.row_at (i:=1) rfl)) (by simp only [List.length_cons,List.length_nil]; omega) c2_0) ?_)
  rintro _ w1 a ⟨A1,c1,rfl,S,hz⟩ E
  refine plc E (.r 3 1 .nil) fun a E=>pld (hK8 _ _ (wp_ret (qCc ?_)))
  have S:=S.pm [0] 2
  exact rt1 E ⟨_,rfl,F,_,_,rfl,S⟩
 replace E:=E.kf 22 hi
 refine cf E (wp_skip (hK6 _ _ ?_))
 have hlt:j<p.length:=by omega
 have hxc:p.length<=c0_0/\c0_0<=maxLen:=by
  obtain ⟨_,q1,q2,_⟩:=qCg (S.row_at (i:=0) rfl)
  exact ⟨q1,q2⟩
 have hxc2:[x].length<=c2_0:=(qCg (S.row_at (i:=1) rfl)).2.1
 have hE_:=E
 obtain ⟨g,cur,rfl,hsz,hrep,S⟩:=S.unrow (by omega)
 have S:=S.front 1 rfl
 obtain ⟨g2,cur2,rfl,hsz2,hrep2,S⟩:=S.unrow (by simp)
 replace E:=hE_
 have hne:g2≠g:=S.ne (i:=0) (j:=1) rfl rfl (by decide)
 obtain ⟨cs,hcs⟩:∃ cs,cs=cur2.toList.take 6:=⟨_,rfl⟩
 have hx:(qA.k).K F x cs:=by
  have h5:=hrep2.2 0 x rfl
  rw [Nat.zero_mul,List.drop_zero,List.take_take]at h5
  rw [hcs]
  exact h5
 have hcl:cs.length=6:=(qA.k).len hx
 have hcget:∀ q u,cs[q]? = some u->cur2[q]? = some u:=fun q u hq=>by
  rw [hcs,List.getElem?_take]at hq
  split at hq
  ·
   rwa [Array.getElem?_toList]at hq
  ·
   cases hq
 have hcone:∀ u ∈ cs,u.oneCell'=true:=(qA.k).one hx
 obtain ⟨inner,hin⟩:∃ inner,inner=cur.toList.take (p.length * 6):=⟨_,rfl⟩
 replace hrep:RepsK qA.k F p inner:=by rw [hin]; exact hrep
 have hil:inner.length=p.length * 6:=hrep.1
 have hione:∀ u ∈ inner.drop (j * 6),u.oneCell'=true:=fun u hu=>hrep.one u (List.mem_of_mem_drop hu)
 have hidl:(inner.drop (j * 6)).length=(p.length - j) * 6:=by rw [List.length_drop,hil,Nat.sub_mul]
 have higet:∀ q u,(inner.drop (j * 6))[q]? = some u->cur[j * 6+q]? = some u:=fun q u hq=>by
  rw [List.getElem?_drop,hin,List.getElem?_take]at hq
  split at hq
  ·
   rwa [Array.getElem?_toList]at hq
  ·
   cases hq
 replace hsz:cur.size=c0_0 * 6:=hsz
 have hw1:w64 ((p.length:Int)+(([x].length:Nat):Int))=((p.length+1:Nat):Int):=by
  simp only [List.length_cons,List.length_nil]
  rw [qCk (by omega) (by omega)]
  omega
 have hw2:w64 ((j:Int)+(([x].length:Nat):Int))=((j+1:Nat):Int):=by
  simp only [List.length_cons,List.length_nil]
  rw [qCk (by omega) (by omega)]
  omega
 refine sq fun K9 hK9=>rg E (.r 0 4<|.y 4 (y_cap (A:=some ⟨g,0,none⟩) (n:=p.length) (c:=c0_0))<|.r 5 1 .nil) fun a E=>?_
 by_cases hroom:w64 ((p.length:Int)+(([x].length:Nat):Int))>(c0_0:Int)
 ·
  replace E:=E.kt 31 hroom
  rw [hw1]at hroom
  refine ct E ?_
  have hw3:w64 (w64 ((p.length:Int)+(([x].length:Nat):Int)) - (j:Int))=((p.length+1 - j:Nat):Int):=by
   rw [hw1,qCk (by omega) (by omega)]
   omega
  refine sq fun K11 hK11=>pl0 (plc E (.r 0 2<|.y 2 (y_hi (e:=68) (z:=6) (g:=g) (n:=p.length) (c:=c0_0) (k:=.i64) (hi:=(j:Int)) ⟨by omega,by omega⟩)<|.r 3 5 .nil) fun a E=>ple E (.gro (e:=68) (g:=g) (c:=c0_0) (j:=j) (z:=6) (bytes:=40) (k:=w64 (w64 ((p.length:Int)+(([x].length:Nat):Int)) - (j:Int))) S (S.ba 1) (by omega) (by omega) (by rw [hsz]; exact Nat.mul_le_mul_right _ (by omega)) (by rw [hw3]; omega) (by kernel_rfl)) ?_)
  rintro _ w1 a ⟨b,arr,cc,rfl,has,hc1,hc2,hpre,S,hag⟩ E
  rw [hw3]at hc1 E
  have hnb:g2≠b:=S.ne (i:=1) (j:=0) rfl rfl (by decide)
  have hgb:g≠b:=S.ne (i:=2) (j:=0) rfl rfl (by decide)
  have hk3:j+((p.length+1 - j:Nat):Int).toNat=p.length+1:=by rw [Int.toNat_natCast]; omega
  rw [hk3]at hc1 E
  have hpi:arr.toList.take (j * 6)=inner.take (j * 6):=by
   rw [hpre,hin,List.take_take,Nat.min_eq_left (Nat.mul_le_mul_right _ (by omega))]
  obtain ⟨s1,s2,s3⟩:=qDz (sz:=6) (n:=p.length) (i:=j) (cap:=cc) (c0:=arr.toList) (inner:=inner) (cs:=cs) hpi hil hcl (by omega) hc1 (by rw [Array.length_toList]; exact has)
  obtain ⟨C1,hC1⟩:∃ C1,C1=arr.toList.take (j * 6)++cs++arr.toList.drop (j * 6+cs.length):=⟨_,rfl⟩
  rw [← hC1]at s1 s2 s3
  obtain ⟨C2,hC2⟩:∃ C2,C2=C1.take ((j+1) * 6)++inner.drop (j * 6)++C1.drop ((j+1) * 6+(inner.drop (j * 6)).length):=⟨_,rfl⟩
  rw [← hC2]at s1 s2
  refine plc E (.r 9 1 .nil) fun a E=>pld (hK11 _ _ (sq fun K12 hK12=>pl0 (plc E (.r 0 2<|.y 2 (y_lo (e:=68) (z:=6) (g:=b) (n:=p.length+1) (c:=cc) (k:=.i64) (lo:=(j:Int)) ⟨by omega,by omega⟩ (by omega))<|.r 3 1 .nil) fun a E=>?_)))
  have hb2:=S.ba 1
  have hbg:=S.ba 2
  have hmin1:Nat.min [x].length (p.length+1 - (j:Int).toNat)=1:=by
   rw [Int.toNat_natCast]
   simp only [List.length_cons,List.length_nil]
   exact Nat.min_eq_left (by omega)
  refine ple E (.cpy (e:=68) (z:=6) (off:=(j:Int).toNat * 6) (dn:=p.length+1 - (j:Int).toNat) (dc:=cc - (j:Int).toNat) (sn:=[x].length) (sc:=c2_0) (sa:=⟨g2,0,none⟩) S cs (by rw [hmin1,hcl]) (fun q u hq=>by rw [qCr,Nat.zero_add]; exact qCl hb2 (hcget q u hq)) hcone (by
      rw [Int.toNat_natCast,has,hcl]
      have:=Nat.mul_le_mul_right 6 (show j+1<=cc by omega)
      omega) (by kernel_rfl)) ?_
  rintro _ w2 a ⟨rfl,S,hz,hnew,hoth⟩ E
  simp only [Int.toNat_natCast]at S hnew
  rw [← hC1]at S hnew
  refine pld (hK12 _ _ (sq fun K13 hK13=>?_))
  refine drawn 9 ⟨[8],[],fun q=>False⟩ mixed rfl (by kernel_rfl) fun hst=>?_
  have S:=S.drew
  have hbg2:=S.ba 2
  refine mny 1 hst E (.r 0 4<|.y 4 (y_lo (e:=68) (z:=6) (g:=b) (n:=p.length+1) (c:=cc) (k:=.i64) (lo:=w64 ((j:Int)+(([x].length:Nat):Int))) ⟨by omega,by omega⟩ (by omega))<|.r 5 2<|.y 7 (y_lo (e:=68) (z:=6) (g:=g) (n:=p.length) (c:=c0_0) (k:=.i64) (lo:=(j:Int)) ⟨by omega,by omega⟩ (by omega)) .nil) fun a E=>?_
  refine on1 8 E (.cpy (e:=68) (z:=6) (off:=(w64 ((j:Int)+(([x].length:Nat):Int))).toNat * 6) (dn:=p.length+1 - (w64 ((j:Int)+(([x].length:Nat):Int))).toNat) (dc:=cc - (w64 ((j:Int)+(([x].length:Nat):Int))).toNat) (sn:=p.length - (j:Int).toNat) (sc:=c0_0 - (j:Int).toNat) (sa:=⟨g,(j:Int).toNat * 6,none⟩) S (inner.drop (j * 6)) (by
      rw [hw2,Int.toNat_natCast,Int.toNat_natCast,hidl,show p.length+1 - (j+1)=p.length - j by omega]
      congr 1
      exact (Nat.min_self _).symm) (fun q u hq=>by rw [qCr,Int.toNat_natCast]; exact qCl hbg2 (higet q u hq)) hione (by
      rw [hw2,Int.toNat_natCast,hidl,List.size_toArray,s3,← Nat.add_mul]
      exact Nat.mul_le_mul_right _ (by omega)) (by kernel_rfl)) ?_
  rintro _ w3 a ⟨rfl,S,hz,hnew,hoth⟩ E
  refine ⟨.d,?_⟩
  refine dn ?_
  rw [hw2,Int.toNat_natCast]at S
  simp only [List.toList_toArray]at S
  rw [← hC2]at S
  refine hK13 _ _ (rr E fun a E=>(wp_ret (qCc ?_)))
  have hrl:r.length=p.length+1:=by rw [← hr]; simp; omega
  have hrr:RepsK qA.k F r (C2.toArray.toList.take (r.length * (qA.k).sz)):=by
   rw [hrl]
   show RepsK qA.k F r (C2.take ((p.length+1) * 6))
   rw [s1,← hr]
   exact qDF hrep hx (by omega) rfl
  have hS2:=S.rerow (c:=cc) r (show C2.toArray.size=cc * 6 by simpa using s2) (by omega) hc2 hrr
  replace hS2:=hS2.front 1 rfl
  replace hS2:=hS2.tail
  replace hS2:=hS2.front 1 rfl
  replace hS2:=hS2.tail
  rw [← hrl]at E
  exact rt1 E ⟨_,rfl,F,_,_,rfl,hS2⟩
 replace E:=E.kf 31 hroom
 rw [hw1]at hroom
 have hrm:p.length+1<=c0_0:=by omega
 refine cf E (wp_skip (hK9 _ _ ?_))
 obtain ⟨s1,s2,s3⟩:=qEZ (sz:=6) (n:=p.length) (i:=j) (cap:=c0_0) (cur:=cur.toList) (inner:=inner) (cs:=cs) hin.symm hcl (by omega) hrm (by rw [Array.length_toList]; exact hsz)
 obtain ⟨C1,hC1⟩:∃ C1,C1=cur.toList.take ((j+1) * 6)++inner.drop (j * 6)++cur.toList.drop ((j+1) * 6+(inner.drop (j * 6)).length):=⟨_,rfl⟩
 rw [← hC1]at s1 s2 s3
 obtain ⟨C2,hC2⟩:∃ C2,C2=C1.take (j * 6)++cs++C1.drop (j * 6+cs.length):=⟨_,rfl⟩
 rw [← hC2]at s1 s2
 refine rg E (.r 0 4<|.y 4 (y_hi (e:=68) (z:=6) (g:=g) (n:=p.length) (c:=c0_0) (k:=.i64) (hi:=w64 ((p.length:Int)+(([x].length:Nat):Int))) ⟨by omega,by omega⟩)<|.r 5 1 .nil) fun a E=>?_
 have hn1:(w64 ((p.length:Int)+(([x].length:Nat):Int))).toNat=p.length+1:=by rw [hw1,Int.toNat_natCast]
 rw [hn1]at E
 refine sq fun K16 hK16=>sq fun K17 hK17=>pl0 (plc E (.r 0 5<|.y 5 (y_lo (e:=68) (z:=6) (g:=g) (n:=p.length+1) (c:=c0_0) (k:=.i64) (lo:=w64 ((j:Int)+(([x].length:Nat):Int))) ⟨by omega,by omega⟩ (by omega)) .nil) fun a E=>?_)
 have hb2:=S.ba 0
 have hbg:=S.ba 1
 have hcz:cur.size≠0:=by rw [hsz]; exact Nat.mul_ne_zero (by omega) (by decide)
 refine ple E (.ext (f:=151) (args:=[.slice (pb g2) [x].length c2_0,.slice (some ⟨g,(w64 ((j:Int)+(([x].length:Nat):Int))).toNat * 6,none⟩) (p.length+1 - (w64 ((j:Int)+(([x].length:Nat):Int))).toNat) (c0_0 - (w64 ((j:Int)+(([x].length:Nat):Int))).toNat)]) (v:=.bool false) (R:=fun v w'=>v = .bool false/\w'=_) (by
    rw [run_callFunc_extern Tryz.func151 (by kernel_rfl) (by kernel_rfl) (by kernel_rfl) (e:=Extern.SlicesOverlaps.overlaps #[22,22] #[4]) (by kernel_rfl)]
    refine (congrArg (fun r:Result Value=>r.andThen fun v w'=>Result.ok (Next.value v) w') (Lib.run_overlaps_apart _ 22 4 68 Tryz.underlying22 6 (fun _=>by kernel_rfl) ⟨g2,0,none⟩ ⟨g,(w64 ((j:Int)+(([x].length:Nat):Int))).toNat * 6,none⟩ [x].length c2_0 _ _ hne 68 68 cur2.size cur.size (by simp [World.shape?,hb2]) (by simp [World.shape?,hbg]) hcz (by simp [World.frozen?,hb2]) (by simp [World.frozen?,hb2]))).trans rfl) ⟨rfl,rfl⟩) ?_
 rintro _ _ a ⟨rfl,rfl⟩ E
 refine plc E (.r 7 1 .nil) fun a E=>pld (hK17 _ _ (ct E (sq fun K18 hK18=>?_)))
 refine drawn 9 ⟨[8],[],fun q=>False⟩ mixed rfl (by kernel_rfl) fun hst=>?_
 have S:=S.drew
 have S:=S.front 1 rfl
 have hbg2:=S.ba 0
 refine mny 1 hst E (.r 0 4<|.y 4 (y_lo (e:=68) (z:=6) (g:=g) (n:=p.length+1) (c:=c0_0) (k:=.i64) (lo:=w64 ((j:Int)+(([x].length:Nat):Int))) ⟨by omega,by omega⟩ (by omega))<|.r 5 2<|.y 7 (y_lo (e:=68) (z:=6) (g:=g) (n:=p.length+1) (c:=c0_0) (k:=.i64) (lo:=(j:Int)) ⟨by omega,by omega⟩ (by omega)) .nil) fun a E=>?_
 refine on1 8 E (.cpy (e:=68) (z:=6) (off:=(w64 ((j:Int)+(([x].length:Nat):Int))).toNat * 6) (dn:=p.length+1 - (w64 ((j:Int)+(([x].length:Nat):Int))).toNat) (dc:=c0_0 - (w64 ((j:Int)+(([x].length:Nat):Int))).toNat) (sn:=p.length+1 - (j:Int).toNat) (sc:=c0_0 - (j:Int).toNat) (sa:=⟨g,(j:Int).toNat * 6,none⟩) S (inner.drop (j * 6)) (by
    rw [hw2,Int.toNat_natCast,Int.toNat_natCast,hidl,show p.length+1 - (j+1)=p.length - j by omega]
    congr 1
    exact (Nat.min_eq_right (by omega)).symm) (fun q u hq=>by rw [qCr,Int.toNat_natCast]; exact qCl hbg2 (higet q u hq)) hione (by
    rw [hw2,Int.toNat_natCast,hidl,hsz,← Nat.add_mul]
    exact Nat.mul_le_mul_right _ (by omega)) (by kernel_rfl)) ?_
 rintro _ w2 a ⟨rfl,S,hz,hnew,hoth⟩ E
 refine ⟨.d,?_⟩
 refine dn ?_
 rw [hw2,Int.toNat_natCast,← hC1]at S
 refine hK18 _ _ (sq fun K19 hK19=>pl0 ?_)
 have hb3:=S.ba 1
 refine plc E (.r 0 2<|.y 2 (y_lo (e:=68) (z:=6) (g:=g) (n:=p.length+1) (c:=c0_0) (k:=.i64) (lo:=(j:Int)) ⟨by omega,by omega⟩ (by omega))<|.r 3 1 .nil) fun a E=>?_
 have hmin1:Nat.min [x].length (p.length+1 - (j:Int).toNat)=1:=by
  rw [Int.toNat_natCast]
  simp only [List.length_cons,List.length_nil]
  exact Nat.min_eq_left (by omega)
 refine ple E (.cpy (e:=68) (z:=6) (off:=(j:Int).toNat * 6) (dn:=p.length+1 - (j:Int).toNat) (dc:=c0_0 - (j:Int).toNat) (sn:=[x].length) (sc:=c2_0) (sa:=⟨g2,0,none⟩) S cs (by rw [hmin1,hcl]) (fun q u hq=>by rw [qCr,Nat.zero_add]; exact qCl hb3 (hcget q u hq)) hcone (by
    rw [Int.toNat_natCast,List.size_toArray,s3,hcl]
    have:=Nat.mul_le_mul_right 6 (show j+1<=c0_0 by omega)
    omega) (by kernel_rfl)) ?_
 rintro _ w3 a ⟨rfl,S,hz,hnew,hoth⟩ E
 simp only [Int.toNat_natCast,List.toList_toArray]at S
 rw [← hC2]at S
 refine pld (hK19 _ _ (rr E fun a E=>(wp_ret (qCc ?_))))
 have hrl:r.length=p.length+1:=by rw [← hr]; simp; omega
 have hrr:RepsK qA.k F r (C2.toArray.toList.take (r.length * (qA.k).sz)):=by
  rw [hrl]
  show RepsK qA.k F r (C2.take ((p.length+1) * 6))
  rw [s1,← hr]
  exact qDF hrep hx (by omega) rfl
 have hS2:=S.rerow (c:=c0_0) r (show C2.toArray.size=c0_0 * 6 by simpa using s2) (by omega) hxc.2 hrr
 replace hS2:=hS2.front 1 rfl
 replace hS2:=hS2.tail
 rw [← hrl]at E
 exact rt1 E ⟨_,rfl,F,_,_,rfl,hS2⟩
def qCV.f(k:Nat)(x:qD)(y:qF):Option (qD × Int):=(qCW.f k x y.f1).bind fun t10=>(if t10.2=true then (some (x,7)) else (if (x.f4.length:Int)=12 then (some (x,6)) else ((qAg.f x.f4 t10.1 [(⟨y.f1,y.f2,y.f3,y.f4,false,true⟩:qA)]).bind fun t27=>((qAU.f k t27).bind fun t37=>(some ((⟨x.f0,x.f1,x.f2,x.f3,t27,x.f5,x.f6⟩:qD),t37))))))
def qCV.Post(x:qD)(y:qF)(A0_4:OA)(c0_4:Nat)(A0_5:OA)(c0_5:Nat)(A0_6:OA)(c0_6:Nat)(A1_6:OA)(c1_6:Nat)(W F:World)(r:qD × Int)(v:Value)(w':World):Prop:=∃(F':World)(RA0_4:OA)(rc0_4:Nat)(RA0_5:OA)(rc0_5:Nat)(RA0_6:OA)(rc0_6:Nat),v = .tuple #[.agg (mA r.1 RA0_4 rc0_4 RA0_5 rc0_5 RA0_6 rc0_6),iv r.2]/\St W (mine W [row qA.k 68 (.slice A0_4 x.f4.length c0_4) x.f4]) F w' F' [row qA.k 68 (.slice RA0_4 r.1.f4.length rc0_4) r.1.f4]/\Rd qE.k F' RA0_5 rc0_5 r.1.f5/\Rd qC.k F' RA0_6 rc0_6 r.1.f6
theorem qCV.calls(k:Nat)(x:qD)(y:qF)(A0_4:OA)(c0_4:Nat)(A0_5:OA)(c0_5:Nat)(A0_6:OA)(c0_6:Nat)(A1_6:OA)(c1_6:Nat)(r:qD × Int)(W F:World)(hown:Own W F [row qA.k 68 (.slice A0_4 x.f4.length c0_4) x.f4])(g0_5:Rd qE.k F A0_5 c0_5 x.f5)(g0_6:Rd qC.k F A0_6 c0_6 x.f6)(g1_6:Rd ki F A1_6 c1_6 y.f6)(H:qCV.f k x y=some r):
    Cr 100 #[.agg (mA x A0_4 c0_4 A0_5 c0_5 A0_6 c0_6),.agg (dA y A1_6 c1_6)] W (qCV.Post x y A0_4 c0_4 A0_5 c0_5 A0_6 c0_6 A1_6 c1_6 W F r):=by
 have S:=St.start hown
 obtain ⟨N,hN⟩:∃ N,N=mine W [row qA.k 68 (.slice A0_4 x.f4.length c0_4) x.f4]:=⟨_,rfl⟩
 rw [← hN]at S
 unfold qCV.f at H
 refine ent 43 rfl rfl rfl fun a E=>?_
 refine sq fun K1 hK1=>pl0 (plx (t:=26) E S (mL x A0_4 c0_4 A0_5 c0_5 A0_6 c0_6) fun b2 u3 hb2 S a E=>plx (t:=29) E S (dL y A1_6 c1_6) fun b4 u5 hb4 S a E=>pla (t:=26) E S [iv 0,iv 0,iv 0,iv 0,.slice none 0 0,.slice none 0 0,.slice none 0 0] fun b6 u7 hb6 S a E=>plc E (.r 3 1 .nil) fun a E=>pld (hK1 _ _ (sq fun K8 hK8=>pl0 ?_)))
 have hb2:=S.ba 2
 refine plc E (.bn 0 0 7 hb2<|.r 1 1<|.b 2 1 (S.ba 1)<|.nil) fun a E=>?_
 obtain ⟨t10,h11,H⟩:=bd H
 refine plq E S en103 (qCW.calls k x y.f1 _ _ _ _ _ _ _ _ _ (Sub.refl _) (S.rd_at (i:=3) rfl) (g0_5.mono S.own.sub) (g0_6.mono S.own.sub) h11) fun u9 S a E=>plc E (.r 4 5 .nil) fun a E=>pld (hK8 _ _ (sq fun K12 hK12=>wp_block (rr E fun a E=>(E.ib 15 H (fun c14 E H=>?_) fun c14 E H=>?_))))
 refine sq fun K15 hK15=>pl0 (plc E (.bn 0 0 7 (S.ba 2) .nil) fun a E=>pls E S (mL x A0_4 c0_4 A0_5 c0_5 A0_6 c0_6) fun u16 hb6 S a E=>plc E (.r 2 1 .nil) fun a E=>pld (hK15 _ _ (wp_ret (qCd (qCc ?_)))))
 have S:=S.pm [] 3
 rw [hN]at S
 obtain rfl:=si H
 exact rtm E (.b hb6 ag26 sz26 (.t .nil)) ⟨_,rfl,_,_,_,_,_,_,_,rfl,S,g0_5,g0_6⟩
 refine sq fun K17 hK17=>pl0 ?_
 have hb2:=S.ba 2
 refine plc E (.r 0 1<|.b 1 4 hb2<|.r 2 3<|.nil) fun a E=>pld (hK17 _ _ (E.ik 18 H (fun c18 E H=>?_) fun c18 E H=>?_))
 refine sq fun K19 hK19=>pl0 (plc E (.bn 0 0 7 hb2 .nil) fun a E=>pls E S (mL x A0_4 c0_4 A0_5 c0_5 A0_6 c0_6) fun u20 hb6 S a E=>plc E (.r 2 1 .nil) fun a E=>pld (hK19 _ _ (wp_ret (qCd (qCc ?_)))))
 have S:=S.pm [] 3
 rw [hN]at S
 obtain rfl:=si H
 exact rtm E (.b hb6 ag26 sz26 (.t .nil)) ⟨_,rfl,_,_,_,_,_,_,_,rfl,S,g0_5,g0_6⟩
 refine wp_skip ?_
 refine qCe ?_
 refine hK12 _ _ (sq fun K21 hK21=>pl0 ?_)
 have hb4:=S.ba 1
 refine plc E (.r 0 1<|.b 1 4 hb2<|.r 2 2<|.b 4 1 hb4<|.r 5 1<|.b 6 2 hb4<|.r 7 1<|.b 8 3 hb4<|.r 9 1<|.b 10 4 hb4<|.r 11 1<|.nil) fun a E=>ple E (.lit (d:=qA.k) (e:=68) S [(⟨y.f1,y.f2,y.f3,y.f4,false,true⟩:qA)] (.cons rfl .nil)) ?_
 rintro _ u22 a ⟨A23,c24,rfl,S,hg⟩ E
 have S:=S.front 4 rfl
 obtain ⟨t27,h28,H⟩:=bd H
 refine ple E (.cl en124 (qAg.calls x.f4 t10.1 [(⟨y.f1,y.f2,y.f3,y.f4,false,true⟩:qA)] _ _ _ _ _ _ _ (Own.left (X:=[row qA.k 68 (.slice A0_4 x.f4.length c0_4) x.f4,row qA.k 68 (.slice A23 ([(⟨y.f1,y.f2,y.f3,y.f4,false,true⟩:qA)].length) c24) [(⟨y.f1,y.f2,y.f3,y.f4,false,true⟩:qA)]]) S.own) h28)) ?_
 rintro _ u26 a ⟨F29,A30,c31,rfl,hC⟩ E
 have hs:=hC.sub
 have S:=S.called (X:=[row qA.k 68 (.slice A0_4 x.f4.length c0_4) x.f4,row qA.k 68 (.slice A23 ([(⟨y.f1,y.f2,y.f3,y.f4,false,true⟩:qA)].length) c24) [(⟨y.f1,y.f2,y.f3,y.f4,false,true⟩:qA)]]) hC
 have g0_5:=g0_5.mono hs
 have g0_6:=g0_6.mono hs
 refine plc E (.r 14 1 .nil) fun a E=>?_
 have S:=S.front 3 rfl
 refine pls E S [iv x.f0,iv x.f1,iv x.f2,iv x.f3,.slice A30 t27.length c31,.slice A0_5 x.f5.length c0_5,.slice A0_6 x.f6.length c0_6] fun u34 hb2 S a E=>pld (hK21 _ _ (sq fun K35 hK35=>?_))
 refine drawn 6 ⟨[4],[],fun q=>False⟩ mixed rfl (by kernel_rfl) fun hst=>?_
 have S:=S.drew
 have hb2:=S.ba 0
 refine mny 3 hst E (.bn 0 0 7 hb2<|.r 1 1<|.b 2 4 hb2<|.nil) fun a E=>?_
 obtain ⟨t37,h38,H⟩:=bd H
 refine on1 3 E (.cl en74 (qAU.calls k t27 _ _ _ _ _ (Sub.refl _) (S.rd_at (i:=1) rfl) h38)) ?_
 rintro _ u36 a ⟨_,rfl,hC⟩ E
 refine ⟨.of hC.agr,?_⟩
 have S:=S.lent hC
 have S:=S.front 2 rfl
 refine on1 4 E (.sto S [iv x.f0,iv x.f1,iv x.f2,iv x.f3,.slice A30 t27.length c31,.slice A0_5 x.f5.length c0_5,.slice A0_6 x.f6.length c0_6]) ?_
 rintro _ u39 a ⟨rfl,hb6,S,hz⟩ E
 refine ⟨.d,?_⟩
 refine mny 0 hst E (.r 5 1 .nil) fun a E=>?_
 refine dn ?_
 refine hK35 _ _ (wp_ret ?_)
 have S:=S.pm [2] 4
 rw [hN]at S
 obtain rfl:=si H
 exact rtm E (.b hb6 ag26 sz26 (.t .nil)) ⟨_,rfl,_,_,_,_,_,_,_,rfl,S,g0_5,g0_6⟩
def qBo.f(x:qE)(y:Int):Option Int:=(qBB.f x.f0 y).bind fun t6=>(some t6)
def qBo.Post(W F:World)(r:Int)(v:Value)(w':World):Prop:=∃(F':World),v=iv r/\Sm W F w' F' []
theorem qBo.calls(x:qE)(y:Int)(A0_1:OA)(c0_1:Nat)(r:Int)(W F:World)(hown:Sub F W)(g0_1:Rd ki F A0_1 c0_1 x.f1)(H:qBo.f x y=some r):
    Cr 148 #[.agg #[iv x.f0,.slice A0_1 x.f1.length c0_1],iv y] W (qBo.Post W F r):=by
 have S:=sT hown
 unfold qBo.f at H
 refine ent 9 rfl rfl rfl fun a E=>?_
 refine sq fun K1 hK1=>pl0 (plx (t:=75) E S [iv x.f0,.slice A0_1 x.f1.length c0_1] fun b2 u3 hb2 S a E=>plc E (.r 1 1 .nil) fun a E=>pld (hK1 _ _ (sq fun K4 hK4=>pl0 (plc E (.r 0 1<|.b 1 0 hb2<|.r 2 1<|.nil) fun a E=>?_))))
 obtain ⟨t6,h7,H⟩:=bd H
 refine plq E S en90 (qBB.calls x.f0 y _ _ _ S.own.sub h7) fun u5 S a E=>plc E (.r 4 1 .nil) fun a E=>pld (hK4 _ _ (wp_ret ?_))
 have S:=S.tail
 obtain rfl:=si H
 exact rt1 E ⟨_,rfl,_,rfl,S⟩
def qQ.l7:Nat->List qE->Int->Int->Int->Option (Int × Bool)
 | 0,_,_,_,_=>none
 | k+1,x,y,x5,x6=>if x5<x6 then (if 0<=(w64 ((IntKind.u64.wrap (w64 (x5+x6))).fdiv 2))/\(w64 ((IntKind.u64.wrap (w64 (x5+x6))).fdiv 2))<(x.length:Int) then ((qBo.f (nth qE.z x (w64 ((IntKind.u64.wrap (w64 (x5+x6))).fdiv 2))) y).bind fun t25=>(if t25<0 then (qQ.l7 k x y (w64 ((w64 ((IntKind.u64.wrap (w64 (x5+x6))).fdiv 2))+1)) x6) else (qQ.l7 k x y x5 (w64 ((IntKind.u64.wrap (w64 (x5+x6))).fdiv 2))))) else (none)) else (if x5<(x.length:Int) then (if 0<=x5/\x5<(x.length:Int) then ((qBo.f (nth qE.z x x5) y).bind fun t39=>(some (x5,(t39 == 0)))) else (none)) else (some (x5,false)))
theorem qQ.l7_s k x y x5 x6:type_of% (qQ.l7.eq_2 x y x5 x6 k):=qQ.l7.eq_2 x y x5 x6 k
def qQ.f(k:Nat)(x:List qE)(y:Int):Option (Int × Bool):=qQ.l7 k x y 0 (x.length:Int)
def qQ.Post(W F:World)(r:Int × Bool)(v:Value)(w':World):Prop:=∃(F':World),v = .tuple #[iv r.1,.bool r.2]/\Sm W F w' F' []
theorem qQ.calls(k:Nat)(x:List qE)(y:Int)(A0_0:OA)(c0_0:Nat)(r:Int × Bool)(W F:World)(hown:Sub F W)(g0_0:Rd qE.k F A0_0 c0_0 x)(H:qQ.f k x y=some r):
    Cr 147 #[.slice A0_0 x.length c0_0,iv y,.func (.func 148) #[] #[]] W (qQ.Post W F r):=by
 have S:=sT hown
 unfold qQ.f at H
 refine ent 49 rfl rfl rfl fun a E=>?_
 refine rr E fun a E=>(rr E fun a E=>(rr E fun a E=>(sq fun K4 hK4=>wp_block ?_)))
 refine wp_loop_ghost (fun kq8 a w'=>∃(G:NV)(x5:Int)(x6:Int),kq8<=k/\Env 49 G a/\At G [(0,.slice A0_0 x.length c0_0),(1,iv y),(2,.func (.func 148) #[] #[]),(8,iv (x.length:Int)),(9,iv x5),(10,iv x6)]/\Sm W F w' F []/\qQ.l7 kq8 x y x5 x6=some r) k ⟨_,0,(x.length:Int),Nat.le_refl _,E,.of,S,H⟩ ?_
 rintro kq8 a u10 ⟨G,x5,x6,hkq,E,A,S,H⟩
 obtain _ | k9:=kq8
 exact zz H
 rw [qQ.l7_s]at H
 obtain ⟨J,E⟩:=E.at A
 refine sq fun K11 hK11=>rr E fun a E=>(E.ik 17 H (fun c13 E H=>?_) fun c13 E H=>?_)
 refine wp_skip (hK11 _ _ (wp_block (rr E fun a E=>(sq fun K15 hK15=>pl0 ?_))))
 obtain ⟨c16,H⟩:=gd H
 have hE_:=E
 obtain ⟨ad17,rfl⟩:=g0_0.addr c16.1 c16.2
 replace E:=hE_
 obtain ⟨cs19,⟨A21,c22,rfl,g23⟩,hc20⟩:=g0_0.el qE.z (w64 ((IntKind.u64.wrap (w64 (x5+x6))).fdiv 2)) c16.1 c16.2
 refine plc E (.r 0 3<|.x 3 c16<|.cs 4 (S.fcs hc20)<|.r 5 1<|.nil) fun a E=>?_
 obtain ⟨t25,h26,H⟩:=bd H
 refine plq E S en148 (qBo.calls (nth qE.z x (w64 ((IntKind.u64.wrap (w64 (x5+x6))).fdiv 2))) y _ _ _ _ _ S.own.sub g23 h26) fun u24 S a E=>plc E (.r 7 1 .nil) fun a E=>pld (hK15 _ _ (E.ik 31 H (fun c27 E H=>?_) fun c27 E H=>?_))
 refine pl0 (plc E (.r 0 3 .nil) fun a E=>pld ?_)
 refine qCe ?_
 exact qCf ⟨k9,by omega,_,(w64 ((w64 ((IntKind.u64.wrap (w64 (x5+x6))).fdiv 2))+1)),x6,by omega,E,.of,S,H⟩
 refine pl0 (plc E (.r 0 2 .nil) fun a E=>pld ?_)
 refine qCe ?_
 exact qCf ⟨k9,by omega,_,x5,(w64 ((IntKind.u64.wrap (w64 (x5+x6))).fdiv 2)),by omega,E,.of,S,H⟩
 refine wp_exit ?_
 refine hK4 _ _ (sq fun K28 hK28=>pl0 (plc E (.r 0 5 .nil) fun a E=>E.fk 39 H (fun c29 E H=>?_) fun c29 E H=>?_))
 obtain ⟨c30,H⟩:=gd H
 have hE_:=E
 obtain ⟨ad31,rfl⟩:=g0_0.addr c30.1 c30.2
 replace E:=hE_
 obtain ⟨cs33,⟨A35,c36,rfl,g37⟩,hc34⟩:=g0_0.el qE.z x5 c30.1 c30.2
 refine plc E (.r 5 3<|.x 8 c30<|.cs 9 (S.fcs hc34)<|.r 10 1<|.nil) fun a E=>?_
 obtain ⟨t39,h40,H⟩:=bd H
 refine plq E S en148 (qBo.calls (nth qE.z x x5) y _ _ _ _ _ S.own.sub g37 h40) fun u38 S a E=>plc E (.r 12 4 .nil) fun a E=>pld (hK28 _ _ (wp_ret ?_))
 obtain rfl:=si H
 exact rtN E ⟨_,rfl,_,rfl,S⟩
 refine plc E (.r 5 11 .nil) fun a E=>pld (hK28 _ _ (wp_ret ?_))
 obtain rfl:=si H
 exact rtN E ⟨_,rfl,_,rfl,S⟩
def qCI.f(k:Nat)(x:qD)(y:Int):Option (Int × Bool):=(qQ.f k x.f5 y).bind fun t6=>(some (t6.1,t6.2))
def qCI.Post(W F:World)(r:Int × Bool)(v:Value)(w':World):Prop:=∃(F':World),v = .tuple #[iv r.1,.bool r.2]/\Sm W F w' F' []
theorem qCI.calls(k:Nat)(x:qD)(y:Int)(A0_4:OA)(c0_4:Nat)(A0_5:OA)(c0_5:Nat)(A0_6:OA)(c0_6:Nat)(r:Int × Bool)(W F:World)(hown:Sub F W)(g0_4:Rd qA.k F A0_4 c0_4 x.f4)(g0_5:Rd qE.k F A0_5 c0_5 x.f5)(g0_6:Rd qC.k F A0_6 c0_6 x.f6)(H:qCI.f k x y=some r):
    Cr 121 #[.agg (mA x A0_4 c0_4 A0_5 c0_5 A0_6 c0_6),iv y] W (qCI.Post W F r):=by
 have S:=sT hown
 unfold qCI.f at H
 refine ent 12 rfl rfl rfl fun a E=>?_
 refine sq fun K1 hK1=>pl0 (plx (t:=26) E S (mL x A0_4 c0_4 A0_5 c0_5 A0_6 c0_6) fun b2 u3 hb2 S a E=>plc E (.r 1 2 .nil) fun a E=>pld (hK1 _ _ (sq fun K4 hK4=>pl0 (plc E (.r 0 1<|.b 1 5 hb2<|.r 2 1<|.nil) fun a E=>?_))))
 obtain ⟨t6,h7,H⟩:=bd H
 refine plq E S en147 (qQ.calls k x.f5 y _ _ _ _ _ S.own.sub g0_5 h7) fun u5 S a E=>plc E (.r 4 4 .nil) fun a E=>pld (hK4 _ _ (wp_ret ?_))
 have S:=S.tail
 obtain rfl:=si H
 exact rtN E ⟨_,rfl,_,rfl,S⟩
def qAh.f(x:List qE)(y:Int)(p:Int):Option (List qE):=if 0<=y/\y<=p/\p<=(x.length:Int)/\x.length<=1000000 then some (x.take y.toNat++x.drop p.toNat) else none
def qAh.Post(x:List qE)(y:Int)(p:Int)(A0_0:OA)(c0_0:Nat)(W F:World)(r:List qE)(v:Value)(w':World):Prop:=∃(F':World)(RA0_0:OA)(rc0_0:Nat),v = .slice RA0_0 r.length rc0_0/\St W (mine W [row qE.k 75 (.slice A0_0 x.length c0_0) x]) F w' F' [row qE.k 75 (.slice RA0_0 r.length rc0_0) r]
set_option maxHeartbeats 4000000 in
set_option maxRecDepth 100000 in
theorem qAh.calls(x:List qE)(y:Int)(p:Int)(A0_0:OA)(c0_0:Nat)(r:List qE)(W F:World)(hown:Own W F [row qE.k 75 (.slice A0_0 x.length c0_0) x])(H:qAh.f x y p=some r):
    Cr 125 #[.slice A0_0 x.length c0_0,iv y,iv p] W (qAh.Post x y p A0_0 c0_0 W F r):=by
 have S:=St.start hown
 unfold qAh.f at H
 by_cases hc:0<=y/\y<=p/\p<=(x.length:Int)/\x.length<=1000000
 rotate_left
 ·
  rw [if_neg hc]at H; cases H
 rw [if_pos hc]at H
 have hr:=Option.some.inj H
 clear H
 obtain ⟨h0,h1,h2,hmax⟩:=hc
 obtain ⟨i,rfl⟩:∃ i:Nat,y=i:=⟨y.toNat,by omega⟩
 obtain ⟨j,rfl⟩:∃ j:Nat,p=j:=⟨p.toNat,by omega⟩
 simp only [Int.toNat_natCast]at hr
 have hxc:x.length<=c0_0/\c0_0<=maxLen:=by
  obtain ⟨_,q1,q2,_⟩:=qCg (S.row_at (i:=0) rfl)
  exact ⟨q1,q2⟩
 refine enter (n:=33) rfl rfl rfl (Nat.le_of_ble_eq_true rfl) fun a E=>?_
 refine rr E fun a E=>(rg E (.r 0 5<|.y 5 (qJi (e:=75) (z:=2) (A:=A0_0) (n:=x.length) (c:=c0_0) (kl:=.i64) (kh:=.i64) (km:=.i64) (lo:=(i:Int)) (hi:=(j:Int)) (mx:=(x.length:Int)) (by omega) (by omega) (by omega) (by omega)) .nil) fun a E=>(sq fun K2 hK2=>rr E fun a E=>?_))
 by_cases hij:(i:Int)=(j:Int)
 ·
  replace E:=E.et 16 hij
  refine ct E ?_
  obtain rfl:i=j:=by omega
  obtain rfl:x=r:=by rw [← hr,List.take_append_drop]
  refine rr E fun a E=>(wp_ret (qCc ?_))
  exact rt1 E ⟨_,rfl,F,_,_,rfl,S⟩
 replace E:=E.ef 16 hij
 refine cf E (wp_skip (hK2 _ _ ?_))
 have hE_:=E
 obtain ⟨g,cur,rfl,hsz,hrep,S⟩:=S.unrow (by omega)
 replace E:=hE_
 replace hsz:cur.size=c0_0 * 2:=hsz
 obtain ⟨inner,hin⟩:∃ inner,inner=cur.toList.take (x.length * 2):=⟨_,rfl⟩
 have hil:inner.length=x.length * 2:=by rw [hin]; exact hrep.1
 have hnz:x.length * 2<=c0_0 * 2:=Nat.mul_le_mul_right _ hxc.1
 have hjz:j * 2<=x.length * 2:=Nat.mul_le_mul_right _ (by omega)
 have hiz:i * 2<=j * 2:=Nat.mul_le_mul_right _ (by omega)
 have hidl:(inner.drop (j * 2)).length=(x.length - j) * 2:=by rw [List.length_drop,hil,Nat.sub_mul]
 have hrep2:RepsK qE.k F x inner:=by rw [hin]; exact hrep
 have hione:∀ u ∈ inner.drop (j * 2),u.oneCell'=true:=fun u hu=>hrep2.one u (List.mem_of_mem_drop hu)
 have higet:∀ q u,(inner.drop (j * 2))[q]? = some u->cur[j * 2+q]? = some u:=fun q u hq=>by
  rw [List.getElem?_drop,hin,List.getElem?_take]at hq
  split at hq
  ·
   rwa [Array.getElem?_toList]at hq
  ·
   cases hq
 refine rr E fun a E=>(sq fun K6 hK6=>?_)
 refine drawn 8 ⟨[6],[],fun q=>False⟩ mixed rfl (by kernel_rfl) fun hst=>?_
 have S:=S.drew
 have hbg:=S.ba 0
 refine mny 2 hst E (.r 0 2<|.y 2 (y_hi (e:=75) (z:=2) (g:=g) (n:=x.length) (c:=c0_0) (k:=.i64) (hi:=(i:Int)) ⟨by omega,by omega⟩)<|.r 3 2<|.y 5 (qJj (e:=75) (z:=2) (g:=g) (n:=x.length) (c:=c0_0) (k:=.i64) (lo:=(j:Int)) ⟨by omega,by omega⟩) .nil) fun a E=>?_
 refine on1 6 E (.apf (e:=75) (g:=g) (i:=(i:Int).toNat) (m:=x.length - (j:Int).toNat) (c:=c0_0) (sc:=c0_0 - (j:Int).toNat) (z:=2) (bytes:=32) (sa:=if c0_0=(j:Int).toNat then some ⟨g,0,none⟩ else some ⟨g,(j:Int).toNat * 2,none⟩) S (inner.drop (j * 2)) (by rw [hidl,Int.toNat_natCast]) (fun hm=>⟨⟨g,j * 2,none⟩,by
      rw [Int.toNat_natCast]at hm ⊢
      rw [if_neg (by omega)],fun q u hq=>by rw [qCr]; exact qCl hbg (higet q u hq)⟩) hione (by
      rw [Int.toNat_natCast,hidl,hsz,Nat.sub_mul]
      omega) (by rw [Int.toNat_natCast,Int.toNat_natCast]; omega) (by kernel_rfl)) ?_
 rintro _ w1 a ⟨rfl,S,hz⟩ E
 refine ⟨.d,?_⟩
 refine mny 0 hst E (.r 7 1 .nil) fun a E=>?_
 refine dn ?_
 simp only [Int.toNat_natCast]at S E
 refine hK6 _ _ ?_
 have hlen:(x.take i++x.drop j++x.drop (i+(x.length - j))).length=x.length:=by
  rw [List.length_append,List.length_append,List.length_take,List.length_drop,List.length_drop]
  omega
 have hrr:=qHF (d:=qE.k) (F:=F) (xs:=x) (i:=i) (j:=j) (cur:=cur.toList) hrep (by omega) (by omega) (by
    show x.length * 2<=cur.size
    rw [hsz]
    exact hnz)
 have hS2:=S.rerow (d:=qE.k) (c:=c0_0) (x.take i++x.drop j++x.drop (i+(x.length - j))) (by
    show (cur.toList.take (i * 2)++inner.drop (j * 2)++cur.toList.drop (i * 2+(inner.drop (j * 2)).length)).length=c0_0 * 2
    rw [List.length_append,List.length_append,hidl,List.length_take,List.length_drop,show cur.toList.length=c0_0 * 2 from hsz,Nat.sub_mul]
    omega) (by rw [hlen]; exact hxc.1) hxc.2 (by rw [hlen,hin]; exact hrr)
 rw [hlen]at hS2
 refine sq fun K7 hK7=>pl0 (plc E (.r 0 4<|.y 4 (y_mid (e:=75) (z:=2) (g:=g) (n:=i+(x.length - j)) (c:=c0_0) (k:=.i64) (k':=.i64) (lo:=((i+(x.length - j):Nat):Int)) (hi:=(x.length:Int)) (by omega) (by omega) (by omega) (by omega)) .nil) fun a E=>ple E (.clr (d:=qE.k) (e:=75) (A:=some ⟨g,0,none⟩) (n:=x.length) (c:=c0_0) (c':=c0_0 - ((i+(x.length - j):Nat):Int).toNat) (A':=some ⟨g,((i+(x.length - j):Nat):Int).toNat * 2,none⟩) (lo:=((i+(x.length - j):Nat):Int)) 32 qE.z hS2 ⟨by omega,by omega⟩ (.inr ⟨g,rfl,rfl⟩) (by rw [zr75]; exact ⟨none,0,rfl,Rd.nil _ _⟩)) ?_)
 rintro _ w2 a ⟨rfl,hS3,hz2⟩ E
 refine pld (hK7 _ _ (rr E fun a E=>(wp_ret ?_)))
 have hS4:=hS3.shrink (hi:=((i+(x.length - j):Nat):Int)) ⟨by omega,by omega⟩
 have hl1:(x.take i++x.drop j).length=i+(x.length - j):=by
  rw [List.length_append,List.length_take,List.length_drop]
  omega
 have hcut:∀ t:List qE,cutl ((x.take i++x.drop j++x.drop (i+(x.length - j))).take ((i+(x.length - j):Nat):Int).toNat++t) 0 ((i+(x.length - j):Nat):Int)=r:=by
  intro t
  unfold cutl
  have e1:(x.take i++x.drop j++x.drop (i+(x.length - j))).take (i+(x.length - j))=x.take i++x.drop j:=by
   rw [← hl1,List.take_left']
   rfl
  rw [Int.toNat_natCast,Int.toNat_zero,List.drop_zero,← hr,e1,← hl1,List.take_left']
  rfl
 rw [hcut]at hS4
 have hrl:r.length=i+(x.length - j):=by rw [← hr]; exact hl1
 rw [← hrl]at E
 exact rt1 E ⟨_,rfl,F,_,_,rfl,hS4⟩
def qAi.f(p:List qE)(s:Int)(t:List qE):Option (List qE):=match t with
 | [x]=>if 0<=s/\s<=(p.length:Int)/\p.length<=1000000 then some (p.take s.toNat++x :: p.drop s.toNat) else none
 | _=>none
def qAi.Post(p:List qE)(s:Int)(t:List qE)(A0_0:OA)(c0_0:Nat)(A2_0:OA)(c2_0:Nat)(W F:World)(r:List qE)(v:Value)(w':World):Prop:=∃(F':World)(RA0_0:OA)(rc0_0:Nat),v = .slice RA0_0 r.length rc0_0/\St W (mine W [row qE.k 75 (.slice A0_0 p.length c0_0) p,row qE.k 75 (.slice A2_0 t.length c2_0) t]) F w' F' [row qE.k 75 (.slice RA0_0 r.length rc0_0) r]
set_option maxHeartbeats 4000000 in
set_option maxRecDepth 100000 in
theorem qAi.calls(p:List qE)(s:Int)(t:List qE)(A0_0:OA)(c0_0:Nat)(A2_0:OA)(c2_0:Nat)(r:List qE)(W F:World)(hown:Own W F [row qE.k 75 (.slice A0_0 p.length c0_0) p,row qE.k 75 (.slice A2_0 t.length c2_0) t])(H:qAi.f p s t=some r):
    Cr 126 #[.slice A0_0 p.length c0_0,iv s,.slice A2_0 t.length c2_0] W (qAi.Post p s t A0_0 c0_0 A2_0 c2_0 W F r):=by
 have S:=St.start hown
 unfold qAi.f at H
 rcases t with _ | ⟨x,_ | ⟨y,l⟩⟩
 ·
  cases H
 rotate_left
 ·
  cases H
 replace H:(if 0<=s/\s<=(p.length:Int)/\p.length<=1000000 then some (p.take s.toNat++x :: p.drop s.toNat) else none)=some r:=H
 by_cases hc:0<=s/\s<=(p.length:Int)/\p.length<=1000000
 rotate_left
 ·
  rw [if_neg hc]at H; cases H
 rw [if_pos hc]at H
 have hr:=Option.some.inj H
 clear H
 obtain ⟨h0,h1,hm⟩:=hc
 obtain ⟨j,rfl⟩:∃ j:Nat,s=j:=⟨s.toNat,by omega⟩
 simp only [Int.toNat_natCast]at hr
 refine enter (n:=95) rfl rfl rfl (Nat.le_of_ble_eq_true rfl) fun a E=>?_
 obtain ⟨A12,c12,hA12,hv12⟩:=y_suf (P:=Tryz.prog) (k:=.i64) (S.row_at (i:=0) rfl) ⟨h0,h1⟩
 refine rr E fun a E=>(rg E (.r 0 2<|.y 2 (hv12 (by kernel_rfl)) .nil) fun a E=>(rr E fun a E=>(sq fun K3 hK3=>rr E fun a E=>(cf E (wp_skip (hK3 _ _ (rr E fun a E=>(sq fun K6 hK6=>rr E fun a E=>?_))))))))
 by_cases hi:(j:Int)=(p.length:Int)
 ·
  replace E:=E.kt 22 hi
  refine ct E ?_
  obtain rfl:j=p.length:=by omega
  obtain rfl:p++[x]=r:=by rw [← hr]; simp
  refine sq fun K8 hK8=>pl0 (plc E (.r 0 2 .nil) fun a E=>ple E (.ap (d:=qE.k) 32 S (qCj (S.row_at (i:=1) rfl)) (by simp only [List.length_cons,List.length_nil]; omega) c2_0) ?_)
  rintro _ w1 a ⟨A1,c1,rfl,S,hz⟩ E
  refine plc E (.r 3 1 .nil) fun a E=>pld (hK8 _ _ (wp_ret (qCc ?_)))
  have S:=S.pm [0] 2
  exact rt1 E ⟨_,rfl,F,_,_,rfl,S⟩
 replace E:=E.kf 22 hi
 refine cf E (wp_skip (hK6 _ _ ?_))
 have hlt:j<p.length:=by omega
 have hxc:p.length<=c0_0/\c0_0<=maxLen:=by
  obtain ⟨_,q1,q2,_⟩:=qCg (S.row_at (i:=0) rfl)
  exact ⟨q1,q2⟩
 have hxc2:[x].length<=c2_0:=(qCg (S.row_at (i:=1) rfl)).2.1
 have hE_:=E
 obtain ⟨g,cur,rfl,hsz,hrep,S⟩:=S.unrow (by omega)
 have S:=S.front 1 rfl
 obtain ⟨g2,cur2,rfl,hsz2,hrep2,S⟩:=S.unrow (by simp)
 replace E:=hE_
 have hne:g2≠g:=S.ne (i:=0) (j:=1) rfl rfl (by decide)
 obtain ⟨cs,hcs⟩:∃ cs,cs=cur2.toList.take 2:=⟨_,rfl⟩
 have hx:(qE.k).K F x cs:=by
  have h5:=hrep2.2 0 x rfl
  rw [Nat.zero_mul,List.drop_zero,List.take_take]at h5
  rw [hcs]
  exact h5
 have hcl:cs.length=2:=(qE.k).len hx
 have hcget:∀ q u,cs[q]? = some u->cur2[q]? = some u:=fun q u hq=>by
  rw [hcs,List.getElem?_take]at hq
  split at hq
  ·
   rwa [Array.getElem?_toList]at hq
  ·
   cases hq
 have hcone:∀ u ∈ cs,u.oneCell'=true:=(qE.k).one hx
 obtain ⟨inner,hin⟩:∃ inner,inner=cur.toList.take (p.length * 2):=⟨_,rfl⟩
 replace hrep:RepsK qE.k F p inner:=by rw [hin]; exact hrep
 have hil:inner.length=p.length * 2:=hrep.1
 have hione:∀ u ∈ inner.drop (j * 2),u.oneCell'=true:=fun u hu=>hrep.one u (List.mem_of_mem_drop hu)
 have hidl:(inner.drop (j * 2)).length=(p.length - j) * 2:=by rw [List.length_drop,hil,Nat.sub_mul]
 have higet:∀ q u,(inner.drop (j * 2))[q]? = some u->cur[j * 2+q]? = some u:=fun q u hq=>by
  rw [List.getElem?_drop,hin,List.getElem?_take]at hq
  split at hq
  ·
   rwa [Array.getElem?_toList]at hq
  ·
   cases hq
 replace hsz:cur.size=c0_0 * 2:=hsz
 have hw1:w64 ((p.length:Int)+(([x].length:Nat):Int))=((p.length+1:Nat):Int):=by
  simp only [List.length_cons,List.length_nil]
  rw [qCk (by omega) (by omega)]
  omega
 have hw2:w64 ((j:Int)+(([x].length:Nat):Int))=((j+1:Nat):Int):=by
  simp only [List.length_cons,List.length_nil]
  rw [qCk (by omega) (by omega)]
  omega
 refine sq fun K9 hK9=>rg E (.r 0 4<|.y 4 (y_cap (A:=some ⟨g,0,none⟩) (n:=p.length) (c:=c0_0))<|.r 5 1 .nil) fun a E=>?_
 by_cases hroom:w64 ((p.length:Int)+(([x].length:Nat):Int))>(c0_0:Int)
 ·
  replace E:=E.kt 31 hroom
  rw [hw1]at hroom
  refine ct E ?_
  have hw3:w64 (w64 ((p.length:Int)+(([x].length:Nat):Int)) - (j:Int))=((p.length+1 - j:Nat):Int):=by
   rw [hw1,qCk (by omega) (by omega)]
   omega
  refine sq fun K11 hK11=>pl0 (plc E (.r 0 2<|.y 2 (y_hi (e:=75) (z:=2) (g:=g) (n:=p.length) (c:=c0_0) (k:=.i64) (hi:=(j:Int)) ⟨by omega,by omega⟩)<|.r 3 5 .nil) fun a E=>ple E (.gro (e:=75) (g:=g) (c:=c0_0) (j:=j) (z:=2) (bytes:=32) (k:=w64 (w64 ((p.length:Int)+(([x].length:Nat):Int)) - (j:Int))) S (S.ba 1) (by omega) (by omega) (by rw [hsz]; exact Nat.mul_le_mul_right _ (by omega)) (by rw [hw3]; omega) (by kernel_rfl)) ?_)
  rintro _ w1 a ⟨b,arr,cc,rfl,has,hc1,hc2,hpre,S,hag⟩ E
  rw [hw3]at hc1 E
  have hnb:g2≠b:=S.ne (i:=1) (j:=0) rfl rfl (by decide)
  have hgb:g≠b:=S.ne (i:=2) (j:=0) rfl rfl (by decide)
  have hk3:j+((p.length+1 - j:Nat):Int).toNat=p.length+1:=by rw [Int.toNat_natCast]; omega
  rw [hk3]at hc1 E
  have hpi:arr.toList.take (j * 2)=inner.take (j * 2):=by
   rw [hpre,hin,List.take_take,Nat.min_eq_left (Nat.mul_le_mul_right _ (by omega))]
  obtain ⟨s1,s2,s3⟩:=qDz (sz:=2) (n:=p.length) (i:=j) (cap:=cc) (c0:=arr.toList) (inner:=inner) (cs:=cs) hpi hil hcl (by omega) hc1 (by rw [Array.length_toList]; exact has)
  obtain ⟨C1,hC1⟩:∃ C1,C1=arr.toList.take (j * 2)++cs++arr.toList.drop (j * 2+cs.length):=⟨_,rfl⟩
  rw [← hC1]at s1 s2 s3
  obtain ⟨C2,hC2⟩:∃ C2,C2=C1.take ((j+1) * 2)++inner.drop (j * 2)++C1.drop ((j+1) * 2+(inner.drop (j * 2)).length):=⟨_,rfl⟩
  rw [← hC2]at s1 s2
  refine plc E (.r 9 1 .nil) fun a E=>pld (hK11 _ _ (sq fun K12 hK12=>pl0 (plc E (.r 0 2<|.y 2 (y_lo (e:=75) (z:=2) (g:=b) (n:=p.length+1) (c:=cc) (k:=.i64) (lo:=(j:Int)) ⟨by omega,by omega⟩ (by omega))<|.r 3 1 .nil) fun a E=>?_)))
  have hb2:=S.ba 1
  have hbg:=S.ba 2
  have hmin1:Nat.min [x].length (p.length+1 - (j:Int).toNat)=1:=by
   rw [Int.toNat_natCast]
   simp only [List.length_cons,List.length_nil]
   exact Nat.min_eq_left (by omega)
  refine ple E (.cpy (e:=75) (z:=2) (off:=(j:Int).toNat * 2) (dn:=p.length+1 - (j:Int).toNat) (dc:=cc - (j:Int).toNat) (sn:=[x].length) (sc:=c2_0) (sa:=⟨g2,0,none⟩) S cs (by rw [hmin1,hcl]) (fun q u hq=>by rw [qCr,Nat.zero_add]; exact qCl hb2 (hcget q u hq)) hcone (by
      rw [Int.toNat_natCast,has,hcl]
      have:=Nat.mul_le_mul_right 2 (show j+1<=cc by omega)
      omega) (by kernel_rfl)) ?_
  rintro _ w2 a ⟨rfl,S,hz,hnew,hoth⟩ E
  simp only [Int.toNat_natCast]at S hnew
  rw [← hC1]at S hnew
  refine pld (hK12 _ _ (sq fun K13 hK13=>?_))
  refine drawn 9 ⟨[8],[],fun q=>False⟩ mixed rfl (by kernel_rfl) fun hst=>?_
  have S:=S.drew
  have hbg2:=S.ba 2
  refine mny 1 hst E (.r 0 4<|.y 4 (y_lo (e:=75) (z:=2) (g:=b) (n:=p.length+1) (c:=cc) (k:=.i64) (lo:=w64 ((j:Int)+(([x].length:Nat):Int))) ⟨by omega,by omega⟩ (by omega))<|.r 5 2<|.y 7 (y_lo (e:=75) (z:=2) (g:=g) (n:=p.length) (c:=c0_0) (k:=.i64) (lo:=(j:Int)) ⟨by omega,by omega⟩ (by omega)) .nil) fun a E=>?_
  refine on1 8 E (.cpy (e:=75) (z:=2) (off:=(w64 ((j:Int)+(([x].length:Nat):Int))).toNat * 2) (dn:=p.length+1 - (w64 ((j:Int)+(([x].length:Nat):Int))).toNat) (dc:=cc - (w64 ((j:Int)+(([x].length:Nat):Int))).toNat) (sn:=p.length - (j:Int).toNat) (sc:=c0_0 - (j:Int).toNat) (sa:=⟨g,(j:Int).toNat * 2,none⟩) S (inner.drop (j * 2)) (by
      rw [hw2,Int.toNat_natCast,Int.toNat_natCast,hidl,show p.length+1 - (j+1)=p.length - j by omega]
      congr 1
      exact (Nat.min_self _).symm) (fun q u hq=>by rw [qCr,Int.toNat_natCast]; exact qCl hbg2 (higet q u hq)) hione (by
      rw [hw2,Int.toNat_natCast,hidl,List.size_toArray,s3,← Nat.add_mul]
      exact Nat.mul_le_mul_right _ (by omega)) (by kernel_rfl)) ?_
  rintro _ w3 a ⟨rfl,S,hz,hnew,hoth⟩ E
  refine ⟨.d,?_⟩
  refine dn ?_
  rw [hw2,Int.toNat_natCast]at S
  simp only [List.toList_toArray]at S
  rw [← hC2]at S
  refine hK13 _ _ (rr E fun a E=>(wp_ret (qCc ?_)))
  have hrl:r.length=p.length+1:=by rw [← hr]; simp; omega
  have hrr:RepsK qE.k F r (C2.toArray.toList.take (r.length * (qE.k).sz)):=by
   rw [hrl]
   show RepsK qE.k F r (C2.take ((p.length+1) * 2))
   rw [s1,← hr]
   exact qDF hrep hx (by omega) rfl
  have hS2:=S.rerow (c:=cc) r (show C2.toArray.size=cc * 2 by simpa using s2) (by omega) hc2 hrr
  replace hS2:=hS2.front 1 rfl
  replace hS2:=hS2.tail
  replace hS2:=hS2.front 1 rfl
  replace hS2:=hS2.tail
  rw [← hrl]at E
  exact rt1 E ⟨_,rfl,F,_,_,rfl,hS2⟩
 replace E:=E.kf 31 hroom
 rw [hw1]at hroom
 have hrm:p.length+1<=c0_0:=by omega
 refine cf E (wp_skip (hK9 _ _ ?_))
 obtain ⟨s1,s2,s3⟩:=qEZ (sz:=2) (n:=p.length) (i:=j) (cap:=c0_0) (cur:=cur.toList) (inner:=inner) (cs:=cs) hin.symm hcl (by omega) hrm (by rw [Array.length_toList]; exact hsz)
 obtain ⟨C1,hC1⟩:∃ C1,C1=cur.toList.take ((j+1) * 2)++inner.drop (j * 2)++cur.toList.drop ((j+1) * 2+(inner.drop (j * 2)).length):=⟨_,rfl⟩
 rw [← hC1]at s1 s2 s3
 obtain ⟨C2,hC2⟩:∃ C2,C2=C1.take (j * 2)++cs++C1.drop (j * 2+cs.length):=⟨_,rfl⟩
 rw [← hC2]at s1 s2
 refine rg E (.r 0 4<|.y 4 (y_hi (e:=75) (z:=2) (g:=g) (n:=p.length) (c:=c0_0) (k:=.i64) (hi:=w64 ((p.length:Int)+(([x].length:Nat):Int))) ⟨by omega,by omega⟩)<|.r 5 1 .nil) fun a E=>?_
 have hn1:(w64 ((p.length:Int)+(([x].length:Nat):Int))).toNat=p.length+1:=by rw [hw1,Int.toNat_natCast]
 rw [hn1]at E
 refine sq fun K16 hK16=>sq fun K17 hK17=>pl0 (plc E (.r 0 5<|.y 5 (y_lo (e:=75) (z:=2) (g:=g) (n:=p.length+1) (c:=c0_0) (k:=.i64) (lo:=w64 ((j:Int)+(([x].length:Nat):Int))) ⟨by omega,by omega⟩ (by omega)) .nil) fun a E=>?_)
 have hb2:=S.ba 0
 have hbg:=S.ba 1
 have hcz:cur.size≠0:=by rw [hsz]; exact Nat.mul_ne_zero (by omega) (by decide)
 refine ple E (.ext (f:=153) (args:=[.slice (pb g2) [x].length c2_0,.slice (some ⟨g,(w64 ((j:Int)+(([x].length:Nat):Int))).toNat * 2,none⟩) (p.length+1 - (w64 ((j:Int)+(([x].length:Nat):Int))).toNat) (c0_0 - (w64 ((j:Int)+(([x].length:Nat):Int))).toNat)]) (v:=.bool false) (R:=fun v w'=>v = .bool false/\w'=_) (by
    rw [run_callFunc_extern Tryz.func153 (by kernel_rfl) (by kernel_rfl) (by kernel_rfl) (e:=Extern.SlicesOverlaps.overlaps #[23,23] #[4]) (by kernel_rfl)]
    refine (congrArg (fun r:Result Value=>r.andThen fun v w'=>Result.ok (Next.value v) w') (Lib.run_overlaps_apart _ 23 4 75 Tryz.underlying23 2 (fun _=>by kernel_rfl) ⟨g2,0,none⟩ ⟨g,(w64 ((j:Int)+(([x].length:Nat):Int))).toNat * 2,none⟩ [x].length c2_0 _ _ hne 75 75 cur2.size cur.size (by simp [World.shape?,hb2]) (by simp [World.shape?,hbg]) hcz (by simp [World.frozen?,hb2]) (by simp [World.frozen?,hb2]))).trans rfl) ⟨rfl,rfl⟩) ?_
 rintro _ _ a ⟨rfl,rfl⟩ E
 refine plc E (.r 7 1 .nil) fun a E=>pld (hK17 _ _ (ct E (sq fun K18 hK18=>?_)))
 refine drawn 9 ⟨[8],[],fun q=>False⟩ mixed rfl (by kernel_rfl) fun hst=>?_
 have S:=S.drew
 have S:=S.front 1 rfl
 have hbg2:=S.ba 0
 refine mny 1 hst E (.r 0 4<|.y 4 (y_lo (e:=75) (z:=2) (g:=g) (n:=p.length+1) (c:=c0_0) (k:=.i64) (lo:=w64 ((j:Int)+(([x].length:Nat):Int))) ⟨by omega,by omega⟩ (by omega))<|.r 5 2<|.y 7 (y_lo (e:=75) (z:=2) (g:=g) (n:=p.length+1) (c:=c0_0) (k:=.i64) (lo:=(j:Int)) ⟨by omega,by omega⟩ (by omega)) .nil) fun a E=>?_
 refine on1 8 E (.cpy (e:=75) (z:=2) (off:=(w64 ((j:Int)+(([x].length:Nat):Int))).toNat * 2) (dn:=p.length+1 - (w64 ((j:Int)+(([x].length:Nat):Int))).toNat) (dc:=c0_0 - (w64 ((j:Int)+(([x].length:Nat):Int))).toNat) (sn:=p.length+1 - (j:Int).toNat) (sc:=c0_0 - (j:Int).toNat) (sa:=⟨g,(j:Int).toNat * 2,none⟩) S (inner.drop (j * 2)) (by
    rw [hw2,Int.toNat_natCast,Int.toNat_natCast,hidl,show p.length+1 - (j+1)=p.length - j by omega]
    congr 1
    exact (Nat.min_eq_right (by omega)).symm) (fun q u hq=>by rw [qCr,Int.toNat_natCast]; exact qCl hbg2 (higet q u hq)) hione (by
    rw [hw2,Int.toNat_natCast,hidl,hsz,← Nat.add_mul]
    exact Nat.mul_le_mul_right _ (by omega)) (by kernel_rfl)) ?_
 rintro _ w2 a ⟨rfl,S,hz,hnew,hoth⟩ E
 refine ⟨.d,?_⟩
 refine dn ?_
 rw [hw2,Int.toNat_natCast,← hC1]at S
 refine hK18 _ _ (sq fun K19 hK19=>pl0 ?_)
 have hb3:=S.ba 1
 refine plc E (.r 0 2<|.y 2 (y_lo (e:=75) (z:=2) (g:=g) (n:=p.length+1) (c:=c0_0) (k:=.i64) (lo:=(j:Int)) ⟨by omega,by omega⟩ (by omega))<|.r 3 1 .nil) fun a E=>?_
 have hmin1:Nat.min [x].length (p.length+1 - (j:Int).toNat)=1:=by
  rw [Int.toNat_natCast]
  simp only [List.length_cons,List.length_nil]
  exact Nat.min_eq_left (by omega)
 refine ple E (.cpy (e:=75) (z:=2) (off:=(j:Int).toNat * 2) (dn:=p.length+1 - (j:Int).toNat) (dc:=c0_0 - (j:Int).toNat) (sn:=[x].length) (sc:=c2_0) (sa:=⟨g2,0,none⟩) S cs (by rw [hmin1,hcl]) (fun q u hq=>by rw [qCr,Nat.zero_add]; exact qCl hb3 (hcget q u hq)) hcone (by
    rw [Int.toNat_natCast,List.size_toArray,s3,hcl]
    have:=Nat.mul_le_mul_right 2 (show j+1<=c0_0 by omega)
    omega) (by kernel_rfl)) ?_
 rintro _ w3 a ⟨rfl,S,hz,hnew,hoth⟩ E
 simp only [Int.toNat_natCast,List.toList_toArray]at S
 rw [← hC2]at S
 refine pld (hK19 _ _ (rr E fun a E=>(wp_ret (qCc ?_))))
 have hrl:r.length=p.length+1:=by rw [← hr]; simp; omega
 have hrr:RepsK qE.k F r (C2.toArray.toList.take (r.length * (qE.k).sz)):=by
  rw [hrl]
  show RepsK qE.k F r (C2.take ((p.length+1) * 2))
  rw [s1,← hr]
  exact qDF hrep hx (by omega) rfl
 have hS2:=S.rerow (c:=c0_0) r (show C2.toArray.size=c0_0 * 2 by simpa using s2) (by omega) hxc.2 hrr
 replace hS2:=hS2.front 1 rfl
 replace hS2:=hS2.tail
 rw [← hrl]at E
 exact rt1 E ⟨_,rfl,F,_,_,rfl,hS2⟩
mutual
def qAs.j15:Nat->qD->qF->Bool->Option (qD × Int)
 | 0,_,_,_=>none
 | k+1,x,y,y14=>if y14=true then (some (x,1)) else ((qCI.f k x y.f5).bind fun t25=>(if t25.2=true then (if 0<=t25.1/\t25.1<(x.f5.length:Int) then ((qr.f k ((nth qE.z x.f5 t25.1).f1) y.f6).bind fun t40=>(qAs.j45 k x y t25 true t40)) else (none)) else (if (y.f6.length:Int)=0 then (qAs.j45 k x y t25 false true) else (qAs.j45 k x y t25 false false))))
def qAs.j45:Nat->qD->qF->Int × Bool->Bool->Bool->Option (qD × Int)
 | 0,_,_,_,_,_=>none
 | k+1,x,y,t25,y43,y44=>if y44=true then (some (x,7)) else ((qAX.f k x.f4 y.f6).bind fun t55=>(if t55=true then (if y43=true then ((qAh.f x.f5 t25.1 (w64 (t25.1+1))).bind fun t64=>(qAs.j77 k x y t25 t64)) else (qAs.j77 k x y t25 x.f5)) else (some (x,12))))
def qAs.j77:Nat->qD->qF->Int × Bool->List qE->Option (qD × Int)
 | 0,_,_,_,_=>none
 | k+1,x,y,t25,l75=>if (y.f6.length:Int)>0 then ((qAP.f y.f6).bind fun t86=>((qAi.f l75 t25.1 [(⟨y.f5,t86⟩:qE)]).bind fun t100=>(qAs.j113 k x t100))) else (qAs.j113 k x l75)
def qAs.j113:Nat->qD->List qE->Option (qD × Int)
 | 0,_,_=>none
 | k+1,x,l111=>some ((⟨x.f0,x.f1,x.f2,x.f3,x.f4,l111,x.f6⟩:qD),0)
end
theorem qAs.j15_s k x y y14:type_of% (qAs.j15.eq_2 x y y14 k):=qAs.j15.eq_2 x y y14 k
theorem qAs.j45_s k x y t25 y43 y44:type_of% (qAs.j45.eq_2 x y t25 y43 y44 k):=qAs.j45.eq_2 x y t25 y43 y44 k
theorem qAs.j77_s k x y t25 l75:type_of% (qAs.j77.eq_2 x y t25 l75 k):=qAs.j77.eq_2 x y t25 l75 k
theorem qAs.j113_s k x l111:type_of% (qAs.j113.eq_2 x l111 k):=qAs.j113.eq_2 x l111 k
def qAs.f(k:Nat)(x:qD)(y:qF):Option (qD × Int):=(qBR.f y.f5 0 (w64 (x.f3 - 1))).bind fun t11=>(if t11=true then (qAs.j15 k x y (decide ((y.f6.length:Int)>x.f1))) else (qAs.j15 k x y true))
def qAs.Post(x:qD)(y:qF)(A0_4:OA)(c0_4:Nat)(A0_5:OA)(c0_5:Nat)(A0_6:OA)(c0_6:Nat)(A1_6:OA)(c1_6:Nat)(W F:World)(r:qD × Int)(v:Value)(w':World):Prop:=∃(F':World)(RA0_4:OA)(rc0_4:Nat)(RA0_5:OA)(rc0_5:Nat)(RA0_6:OA)(rc0_6:Nat),v = .tuple #[.agg (mA r.1 RA0_4 rc0_4 RA0_5 rc0_5 RA0_6 rc0_6),iv r.2]/\St W (mine W [row qE.k 75 (.slice A0_5 x.f5.length c0_5) x.f5]) F w' F' [row qE.k 75 (.slice RA0_5 r.1.f5.length rc0_5) r.1.f5]/\Rd qA.k F' RA0_4 rc0_4 r.1.f4/\Rd qC.k F' RA0_6 rc0_6 r.1.f6
theorem qAs.calls(k:Nat)(x:qD)(y:qF)(A0_4:OA)(c0_4:Nat)(A0_5:OA)(c0_5:Nat)(A0_6:OA)(c0_6:Nat)(A1_6:OA)(c1_6:Nat)(r:qD × Int)(W F:World)(hown:Own W F [row qE.k 75 (.slice A0_5 x.f5.length c0_5) x.f5])(g0_4:Rd qA.k F A0_4 c0_4 x.f4)(g0_6:Rd qC.k F A0_6 c0_6 x.f6)(g1_6:Rd ki F A1_6 c1_6 y.f6)(H:qAs.f k x y=some r):
    Cr 101 #[.agg (mA x A0_4 c0_4 A0_5 c0_5 A0_6 c0_6),.agg (dA y A1_6 c1_6)] W (qAs.Post x y A0_4 c0_4 A0_5 c0_5 A0_6 c0_6 A1_6 c1_6 W F r):=by
 have S:=St.start hown
 obtain ⟨N,hN⟩:∃ N,N=mine W [row qE.k 75 (.slice A0_5 x.f5.length c0_5) x.f5]:=⟨_,rfl⟩
 rw [← hN]at S
 unfold qAs.f at H
 refine ent 88 rfl rfl rfl fun a E=>?_
 refine sq fun K1 hK1=>pl0 (plx (t:=26) E S (mL x A0_4 c0_4 A0_5 c0_5 A0_6 c0_6) fun b2 u3 hb2 S a E=>plx (t:=29) E S (dL y A1_6 c1_6) fun b4 u5 hb4 S a E=>pla (t:=26) E S [iv 0,iv 0,iv 0,iv 0,.slice none 0 0,.slice none 0 0,.slice none 0 0] fun b6 u7 hb6 S a E=>plc E (.r 3 1 .nil) fun a E=>pld (hK1 _ _ (sq fun K8 hK8=>sq fun K9 hK9=>?_)))
 have J18:∀ kq16,kq16<=k->∀(G:NV)(y14:Bool)(a:Act)(w':World),Env 88 G a->At G [(2,.pointer (pb b2)),(3,.pointer (pb b4)),(4,.pointer (pb b6)),(22,.bool y14)]->St W N F w' F [box b6 #[iv 0,iv 0,iv 0,iv 0,.slice none 0 0,.slice none 0 0,.slice none 0 0] 26,box b4 (dA y A1_6 c1_6) 29,box b2 (mA x A0_4 c0_4 A0_5 c0_5 A0_6 c0_6) 26,row qE.k 75 (.slice A0_5 x.f5.length c0_5) x.f5]->qAs.j15 kq16 x y y14=some r->K9 a w':=by
  intro kq16 hkq G y14 a u19 E A S H
  obtain _ | k17:=kq16
  exact zz H
  rw [qAs.j15_s]at H
  obtain ⟨J,E⟩:=E.at A
  refine hK9 _ _ (E.ib 22 H (fun c20 E H=>?_) fun c20 E H=>?_)
  refine sq fun K21 hK21=>pl0 (plc E (.bn 0 0 7 (S.ba 2) .nil) fun a E=>pls E S (mL x A0_4 c0_4 A0_5 c0_5 A0_6 c0_6) fun u22 hb6 S a E=>plc E (.r 2 1 .nil) fun a E=>pld (hK21 _ _ (wp_ret (qCc ?_))))
  have S:=S.pm [] 3
  rw [hN]at S
  obtain rfl:=si H
  exact rtm E (.b hb6 ag26 sz26 (.t .nil)) ⟨_,rfl,_,_,_,_,_,_,_,rfl,S,g0_4,g0_6⟩
  refine wp_skip (hK8 _ _ (sq fun K23 hK23=>pl0 ?_))
  have hb2:=S.ba 2
  have hb4:=S.ba 1
  refine plc E (.bn 0 0 7 hb2<|.r 1 1<|.b 2 5 hb4<|.nil) fun a E=>?_
  obtain ⟨t25,h26,H⟩:=bd H
  refine plq E S en121 (qCI.calls k17 x y.f5 _ _ _ _ _ _ _ _ _ (Sub.refl _) (g0_4.mono S.own.sub) (S.rd_at (i:=3) rfl) (g0_6.mono S.own.sub) h26) fun u24 S a E=>plc E (.r 4 5 .nil) fun a E=>pld (hK23 _ _ (sq fun K27 hK27=>wp_block (sq fun K28 hK28=>?_)))
  have J48:∀ kq46,kq46<=k17->∀(G:NV)(y43:Bool)(y44:Bool)(a:Act)(w':World),Env 88 G a->At G [(2,.pointer (pb b2)),(3,.pointer (pb b4)),(4,.pointer (pb b6)),(6,iv t25.1),(7,.bool y43),(31,.bool y44)]->St W N F w' F [box b6 #[iv 0,iv 0,iv 0,iv 0,.slice none 0 0,.slice none 0 0,.slice none 0 0] 26,box b4 (dA y A1_6 c1_6) 29,box b2 (mA x A0_4 c0_4 A0_5 c0_5 A0_6 c0_6) 26,row qE.k 75 (.slice A0_5 x.f5.length c0_5) x.f5]->qAs.j45 kq46 x y t25 y43 y44=some r->K28 a w':=by
   intro kq46 hkq G y43 y44 a u49 E A S H
   obtain _ | k47:=kq46
   exact zz H
   rw [qAs.j45_s]at H
   obtain ⟨J,E⟩:=E.at A
   refine hK28 _ _ (E.ib 31 H (fun c50 E H=>?_) fun c50 E H=>?_)
   refine sq fun K51 hK51=>pl0 (plc E (.bn 0 0 7 (S.ba 2) .nil) fun a E=>pls E S (mL x A0_4 c0_4 A0_5 c0_5 A0_6 c0_6) fun u52 hb6 S a E=>plc E (.r 2 1 .nil) fun a E=>pld (hK51 _ _ (wp_ret (qCd (qCc ?_)))))
   have S:=S.pm [] 3
   rw [hN]at S
   obtain rfl:=si H
   exact rtm E (.b hb6 ag26 sz26 (.t .nil)) ⟨_,rfl,_,_,_,_,_,_,_,rfl,S,g0_4,g0_6⟩
   refine sq fun K53 hK53=>pl0 ?_
   have hb2:=S.ba 2
   have hb4:=S.ba 1
   refine plc E (.r 0 1<|.b 1 4 hb2<|.r 2 1<|.b 3 6 hb4<|.nil) fun a E=>?_
   obtain ⟨t55,h56,H⟩:=bd H
   refine plq E S en45 (qAX.calls k47 x.f4 y.f6 _ _ _ _ _ _ _ S.own.sub g0_4 g1_6 h56) fun u54 S a E=>plc E (.r 5 2 .nil) fun a E=>pld (hK53 _ _ (E.ibn 55 H (fun c57 E H=>?_) fun c57 E H=>?_))
   refine wp_skip ?_
   refine qCe ?_
   refine hK27 _ _ (sq fun K60 hK60=>?_)
   have J80:∀ kq78,kq78<=k47->∀(G:NV)(A73:OA)(c74:Nat)(l75:List qE)(F76:World)(a:Act)(w':World),Env 88 G a->At G [(2,.pointer (pb b2)),(3,.pointer (pb b4)),(4,.pointer (pb b6)),(6,iv t25.1)]->St W N F w' F76 [box b2 #[iv x.f0,iv x.f1,iv x.f2,iv x.f3,.slice A0_4 x.f4.length c0_4,.slice A73 l75.length c74,.slice A0_6 x.f6.length c0_6] 26,box b6 #[iv 0,iv 0,iv 0,iv 0,.slice none 0 0,.slice none 0 0,.slice none 0 0] 26,box b4 (dA y A1_6 c1_6) 29,row qE.k 75 (.slice A73 l75.length c74) l75]->Rd qA.k F76 A0_4 c0_4 x.f4->Rd qC.k F76 A0_6 c0_6 x.f6->Rd ki F76 A1_6 c1_6 y.f6->qAs.j77 kq78 x y t25 l75=some r->K60 a w':=by
    intro kq78 hkq G A73 c74 l75 F76 a u81 E A S g0_4 g0_6 g1_6 H
    obtain _ | k79:=kq78
    exact zz H
    rw [qAs.j77_s]at H
    obtain ⟨J,E⟩:=E.at A
    refine hK60 _ _ (sq fun K82 hK82=>?_)
    have J116:∀ kq114,kq114<=k79->∀(G:NV)(A109:OA)(c110:Nat)(l111:List qE)(F112:World)(a:Act)(w':World),Env 88 G a->At G [(2,.pointer (pb b2)),(4,.pointer (pb b6))]->St W N F w' F112 [box b2 #[iv x.f0,iv x.f1,iv x.f2,iv x.f3,.slice A0_4 x.f4.length c0_4,.slice A109 l111.length c110,.slice A0_6 x.f6.length c0_6] 26,box b6 #[iv 0,iv 0,iv 0,iv 0,.slice none 0 0,.slice none 0 0,.slice none 0 0] 26,box b4 (dA y A1_6 c1_6) 29,row qE.k 75 (.slice A109 l111.length c110) l111]->Rd qA.k F112 A0_4 c0_4 x.f4->Rd qC.k F112 A0_6 c0_6 x.f6->Rd ki F112 A1_6 c1_6 y.f6->qAs.j113 kq114 x l111=some r->K82 a w':=by
     intro kq114 hkq G A109 c110 l111 F112 a u117 E A S g0_4 g0_6 g1_6 H
     obtain _ | k115:=kq114
     exact zz H
     rw [qAs.j113_s]at H
     obtain ⟨J,E⟩:=E.at A
     refine hK82 _ _ (sq fun K118 hK118=>pl0 (plc E (.bn 0 0 7 (S.ba 0) .nil) fun a E=>?_))
     have S:=S.front 1 rfl
     refine pls E S [iv x.f0,iv x.f1,iv x.f2,iv x.f3,.slice A0_4 x.f4.length c0_4,.slice A109 l111.length c110,.slice A0_6 x.f6.length c0_6] fun u119 hb6 S a E=>plc E (.r 2 1 .nil) fun a E=>pld (hK118 _ _ (wp_ret ?_))
     have S:=S.pm [] 3
     rw [hN]at S
     obtain rfl:=si H
     exact rtm E (.b hb6 ag26 sz26 (.t .nil)) ⟨_,rfl,_,_,_,_,_,_,_,rfl,S,g0_4,g0_6⟩
    refine sq fun K83 hK83=>pl0 ?_
    have hb4:=S.ba 2
    refine plc E (.r 0 1<|.b 1 6 hb4<|.r 2 2<|.nil) fun a E=>pld (hK83 _ _ (E.ik 74 H (fun c84 E H=>?_) fun c84 E H=>?_))
    refine drawn 13 ⟨[10,12],[],fun q=>False⟩ mixed rfl (by kernel_rfl) fun hst=>?_
    have S:=S.drew
    have hb2:=S.ba 0
    have hb4:=S.ba 2
    refine mny 6 hst E (.r 0 1<|.b 1 5 hb2<|.r 2 2<|.b 4 5 hb4<|.r 5 1<|.b 6 6 hb4<|.nil) fun a E=>?_
    obtain ⟨t86,h87,H⟩:=bd H
    refine on1 7 E (.cl en54 (qAP.calls y.f6 _ _ _ _ _ S.own.sub g1_6 h87)) ?_
    rintro _ u85 a ⟨F88,A89,c90,rfl,hC⟩ E
    refine ⟨.of hC.agr,?_⟩
    have hs:=hC.sub
    have S:=S.called (X:=[]) hC
    have g1_6:=g1_6.mono hs
    have g0_4:=g0_4.mono hs
    have g0_6:=g0_6.mono hs
    refine mny 4 hst E (.r 8 1 .nil) fun a E=>?_
    obtain ⟨F96,hs,g97,S⟩:=S.give
    have g1_6:=g1_6.mono hs
    have g0_4:=g0_4.mono hs
    have g0_6:=g0_6.mono hs
    refine on1 9 E (.lit (d:=qE.k) (e:=75) S [(⟨y.f5,t86⟩:qE)] (.cons ⟨_,_,rfl,g97⟩ .nil)) ?_
    rintro _ u93 a ⟨A94,c95,rfl,S,hg⟩ E
    refine ⟨.of hg,?_⟩
    have S:=S.front 4 rfl
    obtain ⟨t100,h101,H⟩:=bd H
    refine on1 10 E (.cl en126 (qAi.calls l75 t25.1 [(⟨y.f5,t86⟩:qE)] _ _ _ _ _ _ _ (Own.left (X:=[row qE.k 75 (.slice A73 l75.length c74) l75,row qE.k 75 (.slice A94 ([(⟨y.f5,t86⟩:qE)].length) c95) [(⟨y.f5,t86⟩:qE)]]) S.own) h101)) ?_
    rintro _ u99 a ⟨F102,A103,c104,rfl,hC⟩ E
    refine ⟨.d,?_⟩
    have hs:=hC.sub
    have S:=S.called (X:=[row qE.k 75 (.slice A73 l75.length c74) l75,row qE.k 75 (.slice A94 ([(⟨y.f5,t86⟩:qE)].length) c95) [(⟨y.f5,t86⟩:qE)]]) hC
    have g1_6:=g1_6.mono hs
    have g0_4:=g0_4.mono hs
    have g0_6:=g0_6.mono hs
    refine mny 1 hst E (.r 11 1 .nil) fun a E=>?_
    have S:=S.front 1 rfl
    refine on1 12 E (.sto S [iv x.f0,iv x.f1,iv x.f2,iv x.f3,.slice A0_4 x.f4.length c0_4,.slice A103 t100.length c104,.slice A0_6 x.f6.length c0_6]) ?_
    rintro _ u107 a ⟨rfl,hb2,S,hz⟩ E
    refine ⟨.d,?_⟩
    refine dn ?_
    have S:=S.pm [0,2,3,1] 4
    exact J116 _ (by omega) _ A103 c104 t100 F102 _ _ E .of S g0_4 g0_6 g1_6 H
    refine wp_skip ?_
    exact J116 _ (by omega) _ A73 c74 l75 F76 _ _ E .of S g0_4 g0_6 g1_6 H
   refine rr E fun a E=>(E.ib 63 H (fun c62 E H=>?_) fun c62 E H=>?_)
   refine pl0 (plc E (.r 0 1<|.b 1 5 (S.ba 2)<|.r 2 3<|.nil) fun a E=>?_)
   have S:=S.front 3 rfl
   obtain ⟨t64,h65,H⟩:=bd H
   refine ple E (.cl en125 (qAh.calls x.f5 t25.1 (w64 (t25.1+1)) _ _ _ _ _ (Own.left (X:=[row qE.k 75 (.slice A0_5 x.f5.length c0_5) x.f5]) S.own) h65)) ?_
   rintro _ u63 a ⟨F66,A67,c68,rfl,hC⟩ E
   have hs:=hC.sub
   have S:=S.called (X:=[row qE.k 75 (.slice A0_5 x.f5.length c0_5) x.f5]) hC
   have g0_4:=g0_4.mono hs
   have g1_6:=g1_6.mono hs
   have g0_6:=g0_6.mono hs
   refine plc E (.r 6 1 .nil) fun a E=>?_
   have S:=S.front 3 rfl
   refine pls E S [iv x.f0,iv x.f1,iv x.f2,iv x.f3,.slice A0_4 x.f4.length c0_4,.slice A67 t64.length c68,.slice A0_6 x.f6.length c0_6] fun u71 hb2 S a E=>pld ?_
   have S:=S.pm [0,2,3,1] 4
   exact J80 _ (by omega) _ A67 c68 t64 F66 _ _ E .of S g0_4 g0_6 g1_6 H
   refine wp_skip ?_
   have S:=S.pm [2,0,1] 3
   exact J80 _ (by omega) _ A0_5 c0_5 x.f5 F _ _ E .of S g0_4 g0_6 g1_6 H
   refine sq fun K58 hK58=>pl0 (plc E (.bn 0 0 7 (S.ba 2) .nil) fun a E=>pls E S (mL x A0_4 c0_4 A0_5 c0_5 A0_6 c0_6) fun u59 hb6 S a E=>plc E (.r 2 1 .nil) fun a E=>pld (hK58 _ _ (wp_ret (qCd (qCc ?_)))))
   have S:=S.pm [] 3
   rw [hN]at S
   obtain rfl:=si H
   exact rtm E (.b hb6 ag26 sz26 (.t .nil)) ⟨_,rfl,_,_,_,_,_,_,_,rfl,S,g0_4,g0_6⟩
  refine drawn 23 ⟨[],[],fun q=>False⟩ mixed rfl (by kernel_rfl) fun hst=>?_
  have S:=S.drew
  refine mny 20 hst E (.r 0 3 .nil) fun a E=>?_
  refine E.fb 7 H (fun c29 E H=>?_) fun c29 E H=>?_
  replace E:=E.btn 34 c29
  have hb2:=S.ba 2
  obtain ⟨c30,H⟩:=gd H
  have hr31:=S.ra 3
  have hE_:=E
  obtain ⟨b32,rfl⟩:=qCi hr31 c30.1 c30.2
  replace E:=hE_
  have hr_:=S.ra 3
  obtain ⟨cs34,⟨A36,c37,rfl,g38⟩,hc35⟩:=qCh hr_ qE.z t25.1 c30.1 c30.2
  have hb4:=S.ba 1
  refine mny 4 hst E (.r 3 9<|.b 12 5 hb2<|.r 13 1<|.x 14 c30<|.r 15 1<|.c 16 (hc35 1 _ rfl)<|.r 17 1<|.b 18 6 hb4<|.nil) fun a E=>?_
  obtain ⟨t40,h41,H⟩:=bd H
  refine on1 19 E (.cl en63 (qr.calls k17 ((nth qE.z x.f5 t25.1).f1) y.f6 _ _ _ _ _ _ _ S.own.sub g38 g1_6 h41)) ?_
  rintro _ u39 a ⟨_,rfl,hC⟩ E
  refine ⟨.of hC.agr,?_⟩
  have S:=S.lent hC
  refine mny 0 hst E (.r 20 3 .nil) fun a E=>?_
  refine dn ?_
  exact J48 _ (by omega) _ true t40 _ _ E .of S H
  replace E:=E.bfn 34 c29
  have hb4:=S.ba 1
  refine mny 14 hst E (.r 3 1<|.b 4 6 hb4<|.r 5 4<|.nil) fun a E=>?_
  refine E.fk 40 H (fun c42 E H=>?_) fun c42 E H=>?_
  refine mny 0 hst E (.r 9 14 .nil) fun a E=>?_
  refine dn ?_
  exact J48 _ (by omega) _ false true _ _ E .of S H
  refine mny 0 hst E (.r 9 14 .nil) fun a E=>?_
  refine dn ?_
  exact J48 _ (by omega) _ false false _ _ E .of S H
 refine pl0 ?_
 have hb4:=S.ba 1
 have hb2:=S.ba 2
 refine plc E (.r 0 1<|.b 1 5 hb4<|.r 2 1<|.b 3 3 hb2<|.r 4 1<|.nil) fun a E=>?_
 obtain ⟨t11,h12,H⟩:=bd H
 refine plq E S en93 (qBR.calls y.f5 0 (w64 (x.f3 - 1)) _ _ _ S.own.sub h12) fun u10 S a E=>plc E (.r 6 2 .nil) fun a E=>E.fbn 15 H (fun c13 E H=>?_) fun c13 E H=>?_
 refine plc E (.r 8 1<|.b 9 6 (S.ba 1)<|.r 10 2<|.b 12 1 (S.ba 2)<|.r 13 2<|.nil) fun a E=>pld ?_
 exact J18 _ (by omega) _ (decide ((y.f6.length:Int)>x.f1)) _ _ E .of S H
 refine plc E (.r 8 7 .nil) fun a E=>pld ?_
 exact J18 _ (by omega) _ true _ _ E .of S H
def qCK.f(x:qD)(y:qF):Option (qD × Int):=(qBR.f y.f5 0 (w64 (x.f3 - 1))).bind fun t11=>(if t11=true then (if 0<=y.f5/\y.f5<(x.f6.length:Int) then (if (nth qC.z x.f6 y.f5).f0=y.f4 then (if (((nth qC.z x.f6 y.f5).f1).length:Int)=0 then (some (x,7)) else (some ((⟨x.f0,x.f1,x.f2,x.f3,x.f4,x.f5,(x.f6.set (y.f5).toNat (⟨(nth qC.z x.f6 y.f5).f0,[]⟩:qC))⟩:qD),0))) else (some (x,5))) else (none)) else (some (x,1)))
def qCK.Post(x:qD)(y:qF)(A0_4:OA)(c0_4:Nat)(A0_5:OA)(c0_5:Nat)(A0_6:OA)(c0_6:Nat)(A1_6:OA)(c1_6:Nat)(W F:World)(r:qD × Int)(v:Value)(w':World):Prop:=∃(F':World)(RA0_4:OA)(rc0_4:Nat)(RA0_5:OA)(rc0_5:Nat)(RA0_6:OA)(rc0_6:Nat),v = .tuple #[.agg (mA r.1 RA0_4 rc0_4 RA0_5 rc0_5 RA0_6 rc0_6),iv r.2]/\St W (mine W [row qC.k 73 (.slice A0_6 x.f6.length c0_6) x.f6]) F w' F' [row qC.k 73 (.slice RA0_6 r.1.f6.length rc0_6) r.1.f6]/\Rd qA.k F' RA0_4 rc0_4 r.1.f4/\Rd qE.k F' RA0_5 rc0_5 r.1.f5
theorem qCK.calls(x:qD)(y:qF)(A0_4:OA)(c0_4:Nat)(A0_5:OA)(c0_5:Nat)(A0_6:OA)(c0_6:Nat)(A1_6:OA)(c1_6:Nat)(r:qD × Int)(W F:World)(hown:Own W F [row qC.k 73 (.slice A0_6 x.f6.length c0_6) x.f6])(g0_4:Rd qA.k F A0_4 c0_4 x.f4)(g0_5:Rd qE.k F A0_5 c0_5 x.f5)(g1_6:Rd ki F A1_6 c1_6 y.f6)(H:qCK.f x y=some r):
    Cr 102 #[.agg (mA x A0_4 c0_4 A0_5 c0_5 A0_6 c0_6),.agg (dA y A1_6 c1_6)] W (qCK.Post x y A0_4 c0_4 A0_5 c0_5 A0_6 c0_6 A1_6 c1_6 W F r):=by
 have S:=St.start hown
 obtain ⟨N,hN⟩:∃ N,N=mine W [row qC.k 73 (.slice A0_6 x.f6.length c0_6) x.f6]:=⟨_,rfl⟩
 rw [← hN]at S
 unfold qCK.f at H
 refine ent 45 rfl rfl rfl fun a E=>?_
 refine sq fun K1 hK1=>pl0 (plx (t:=26) E S (mL x A0_4 c0_4 A0_5 c0_5 A0_6 c0_6) fun b2 u3 hb2 S a E=>plx (t:=29) E S (dL y A1_6 c1_6) fun b4 u5 hb4 S a E=>pla (t:=26) E S [iv 0,iv 0,iv 0,iv 0,.slice none 0 0,.slice none 0 0,.slice none 0 0] fun b6 u7 hb6 S a E=>plc E (.r 3 1 .nil) fun a E=>pld (hK1 _ _ (sq fun K8 hK8=>wp_block (sq fun K9 hK9=>pl0 ?_))))
 have hb4:=S.ba 1
 have hb2:=S.ba 2
 refine plc E (.r 0 1<|.b 1 5 hb4<|.r 2 1<|.b 3 3 hb2<|.r 4 1<|.nil) fun a E=>?_
 obtain ⟨t11,h12,H⟩:=bd H
 refine plq E S en93 (qBR.calls y.f5 0 (w64 (x.f3 - 1)) _ _ _ S.own.sub h12) fun u10 S a E=>plc E (.r 6 2 .nil) fun a E=>pld (hK9 _ _ (E.ibn 6 H (fun c13 E H=>?_) fun c13 E H=>?_))
 refine sq fun K14 hK14=>?_
 refine drawn 11 ⟨[],[],fun q=>False⟩ mixed rfl (by kernel_rfl) fun hst=>?_
 have S:=S.drew
 have hb2:=S.ba 2
 have hb4:=S.ba 1
 obtain ⟨c15,H⟩:=gd H
 have hr16:=S.ra 3
 have hE_:=E
 obtain ⟨b17,rfl⟩:=qCi hr16 c15.1 c15.2
 replace E:=hE_
 have hr_:=S.ra 3
 obtain ⟨cs19,⟨A21,c22,rfl,g23⟩,hc20⟩:=qCh hr_ qC.z y.f5 c15.1 c15.2
 refine mny 0 hst E (.r 0 1<|.b 1 6 hb2<|.r 2 1<|.b 3 5 hb4<|.x 4 c15<|.r 5 1<|.c 6 (hc20 0 _ rfl)<|.r 7 1<|.b 8 4 hb4<|.r 9 2<|.nil) fun a E=>?_
 refine dn ?_
 refine hK14 _ _ (E.ikn 15 H (fun c24 E H=>?_) fun c24 E H=>?_)
 refine sq fun K25 hK25=>pl0 ?_
 have hr26:=S.ra 3
 refine plc E (.r 0 1<|.b 1 6 hb2<|.r 2 1<|.b 3 5 hb4<|.x 4 c15<|.r 5 1<|.c 6 (hc20 1 _ rfl)<|.r 7 3<|.nil) fun a E=>pld (hK25 _ _ (E.ik 27 H (fun c30 E H=>?_) fun c30 E H=>?_))
 refine sq fun K31 hK31=>pl0 (plc E (.bn 0 0 7 hb2 .nil) fun a E=>pls E S [iv x.f0,iv x.f1,iv x.f2,iv x.f3,.slice A0_4 x.f4.length c0_4,.slice A0_5 x.f5.length c0_5,.slice (pb b17) x.f6.length c0_6] fun u32 hb6 S a E=>plc E (.r 2 1 .nil) fun a E=>pld (hK31 _ _ (wp_ret (qCd (qCc ?_)))))
 have S:=S.pm [] 3
 rw [hN]at S
 obtain rfl:=si H
 exact rtm E (.b hb6 ag26 sz26 (.t .nil)) ⟨_,rfl,_,_,_,_,_,_,_,rfl,S,g0_4,g0_5⟩
 refine wp_skip ?_
 refine qCe ?_
 refine hK8 _ _ (sq fun K37 hK37=>pl0 ?_)
 have hr38:=S.ra 3
 refine plc E (.r 0 1<|.b 1 6 hb2<|.r 2 1<|.b 3 5 hb4<|.x 4 c15<|.r 5 1<|.nil) fun a E=>?_
 have S:=S.front 3 rfl
 obtain ⟨cs46,⟨A43,c44,rfl,g45⟩,hc47⟩:=qCh (S.row_at (i:=0) rfl) qC.z y.f5 c15.1 c15.2
 refine ple E (.set (d:=qC.k) (n:=x.f6.length) (i:=y.f5) (⟨(nth qC.z x.f6 y.f5).f0,[]⟩:qC) 1 (ea1 _ _ _) S c15 [iv ((nth qC.z x.f6 y.f5).f0),.slice A43 (((nth qC.z x.f6 y.f5).f1).length) c44] hc47 [iv ((nth qC.z x.f6 y.f5).f0),.slice none 0 0] ⟨none,0,rfl,Rd.nil _ _⟩) ?_
 rintro _ u42 a ⟨rfl,S,hz⟩ E
 refine pld (hK37 _ _ (sq fun K48 hK48=>pl0 (plc E (.bn 0 0 7 (S.ba 3) .nil) fun a E=>?_)))
 have S:=S.front 1 rfl
 refine pls E S [iv x.f0,iv x.f1,iv x.f2,iv x.f3,.slice A0_4 x.f4.length c0_4,.slice A0_5 x.f5.length c0_5,.slice (pb b17) x.f6.length c0_6] fun u49 hb6 S a E=>plc E (.r 2 1 .nil) fun a E=>pld (hK48 _ _ (wp_ret ?_))
 have hn50:=(qCg (S.row_at (i:=1) rfl)).1
 replace S:St W N F u49 F [box b6 #[iv x.f0,iv x.f1,iv x.f2,iv x.f3,.slice A0_4 x.f4.length c0_4,.slice A0_5 x.f5.length c0_5,.slice (pb b17) ((x.f6.set (y.f5).toNat (⟨(nth qC.z x.f6 y.f5).f0,[]⟩:qC)).length) c0_6] 26,row qC.k 73 (.slice (pb b17) ((x.f6.set (y.f5).toNat (⟨(nth qC.z x.f6 y.f5).f0,[]⟩:qC)).length) c0_6) (x.f6.set (y.f5).toNat (⟨(nth qC.z x.f6 y.f5).f0,[]⟩:qC)),box b4 (dA y A1_6 c1_6) 29,box b2 #[iv x.f0,iv x.f1,iv x.f2,iv x.f3,.slice A0_4 x.f4.length c0_4,.slice A0_5 x.f5.length c0_5,.slice (pb b17) ((x.f6.set (y.f5).toNat (⟨(nth qC.z x.f6 y.f5).f0,[]⟩:qC)).length) c0_6] 26]:=by rw [← hn50]; exact S
 have hb6:=S.ba 0
 have S:=S.pm [1] 4
 rw [hN]at S
 obtain rfl:=si H
 exact rtm E (.b hb6 ag26 sz26 (.t .nil)) ⟨_,rfl,_,_,_,_,_,_,_,rfl,S,g0_4,g0_5⟩
 refine sq fun K33 hK33=>pl0 (plc E (.bn 0 0 7 hb2 .nil) fun a E=>pls E S [iv x.f0,iv x.f1,iv x.f2,iv x.f3,.slice A0_4 x.f4.length c0_4,.slice A0_5 x.f5.length c0_5,.slice (pb b17) x.f6.length c0_6] fun u34 hb6 S a E=>plc E (.r 2 1 .nil) fun a E=>pld (hK33 _ _ (wp_ret (qCd (qCc ?_)))))
 have S:=S.pm [] 3
 rw [hN]at S
 obtain rfl:=si H
 exact rtm E (.b hb6 ag26 sz26 (.t .nil)) ⟨_,rfl,_,_,_,_,_,_,_,rfl,S,g0_4,g0_5⟩
 refine sq fun K35 hK35=>pl0 (plc E (.bn 0 0 7 (S.ba 2) .nil) fun a E=>pls E S (mL x A0_4 c0_4 A0_5 c0_5 A0_6 c0_6) fun u36 hb6 S a E=>plc E (.r 2 1 .nil) fun a E=>pld (hK35 _ _ (wp_ret (qCd (qCc ?_)))))
 have S:=S.pm [] 3
 rw [hN]at S
 obtain rfl:=si H
 exact rtm E (.b hb6 ag26 sz26 (.t .nil)) ⟨_,rfl,_,_,_,_,_,_,_,rfl,S,g0_4,g0_5⟩
def qBf.f(k:Nat)(x:qG)(xf0_:Int):Option Bool:=(qAG.f k x.f1 xf0_).bind fun t6=>(some t6)
def qBf.Post(W F:World)(r:Bool)(v:Value)(w':World):Prop:=∃(F':World),v = .bool r/\Sm W F w' F' []
theorem qBf.calls(k:Nat)(x:qG)(xf0_:Int)(A0_1:OA)(c0_1:Nat)(pf0_:Nat)(r:Bool)(W F:World)(hown:Sub F W)(g0_1:Rd ki F A0_1 c0_1 x.f1)(hpf0_:F.heap[pf0_]? = some (.cells #[iv xf0_] 3 (0,0)))(H:qBf.f k x xf0_=some r):
    Cr 158 #[.agg #[iv x.f0,.slice A0_1 x.f1.length c0_1],.pointer (pb pf0_)] W (qBf.Post W F r):=by
 have S:=sT hown
 unfold qBf.f at H
 refine ent 8 rfl rfl rfl fun a E=>?_
 refine sq fun K1 hK1=>pl0 (plx (t:=77) E S [iv x.f0,.slice A0_1 x.f1.length c0_1] fun b2 u3 hb2 S a E=>plc E (.r 1 1 .nil) fun a E=>pld (hK1 _ _ (sq fun K4 hK4=>pl0 (plc E (.r 0 1<|.b 1 1 hb2<|.b 2 0 (S.own.sub _ _ _ _ hpf0_)<|.nil) fun a E=>?_))))
 obtain ⟨t6,h7,H⟩:=bd H
 refine plq E S en75 (qAG.calls k x.f1 xf0_ _ _ _ _ _ S.own.sub g0_1 h7) fun u5 S a E=>plc E (.r 4 1 .nil) fun a E=>pld (hK4 _ _ (wp_ret ?_))
 have S:=S.tail
 obtain rfl:=si H
 exact rt1 E ⟨_,rfl,_,rfl,S⟩
def qY.l5:Nat->List qG->Int->Int->Option Int
 | 0,_,_,_=>none
 | k+1,x,x1c0_,x4=>if x4<(x.length:Int) then (if 0<=x4/\x4<(x.length:Int) then ((qBf.f k (nth qG.z x x4) x1c0_).bind fun t24=>(if t24=true then (some x4) else (qY.l5 k x x1c0_ (w64 (x4+1))))) else (none)) else (some (-1))
theorem qY.l5_s k x x1c0_ x4:type_of% (qY.l5.eq_2 x x1c0_ x4 k):=qY.l5.eq_2 x x1c0_ x4 k
def qY.f(k:Nat)(x:List qG)(x1c0_:Int):Option Int:=qY.l5 k x x1c0_ 0
def qY.Post(W F:World)(r:Int)(v:Value)(w':World):Prop:=∃(F':World),v=iv r/\Sm W F w' F' []
theorem qY.calls(k:Nat)(x:List qG)(x1c0_:Int)(A0_0:OA)(c0_0:Nat)(p1c0_:Nat)(r:Int)(W F:World)(hown:Sub F W)(g0_0:Rd qG.k F A0_0 c0_0 x)(hp1c0_:F.heap[p1c0_]? = some (.cells #[iv x1c0_] 3 (0,0)))(H:qY.f k x x1c0_=some r):
    Cr 136 #[.slice A0_0 x.length c0_0,.func (.func 158) #[] #[.pointer (pb p1c0_)]] W (qY.Post W F r):=by
 have S:=sT hown
 unfold qY.f at H
 refine ent 19 rfl rfl rfl fun a E=>?_
 refine rr E fun a E=>(sq fun K2 hK2=>rr E fun a E=>(wp_block ?_))
 refine wp_loop_ghost (fun kq6 a w'=>∃(G:NV)(x4:Int),kq6<=k/\Env 19 G a/\At G [(0,.slice A0_0 x.length c0_0),(1,.func (.func 158) #[] #[.pointer (pb p1c0_)]),(7,iv (x.length:Int)),(8,iv x4)]/\Sm W F w' F []/\qY.l5 kq6 x x1c0_ x4=some r) k ⟨_,0,Nat.le_refl _,E,.of,S,H⟩ ?_
 rintro kq6 a u8 ⟨G,x4,hkq,E,A,S,H⟩
 obtain _ | k7:=kq6
 exact zz H
 rw [qY.l5_s]at H
 obtain ⟨J,E⟩:=E.at A
 refine rr E fun a E=>(sq fun K10 hK10=>E.ik 9 H (fun c11 E H=>?_) fun c11 E H=>?_)
 refine wp_skip (hK10 _ _ (sq fun K12 hK12=>wp_block (rr E fun a E=>(sq fun K14 hK14=>pl0 ?_))))
 obtain ⟨c15,H⟩:=gd H
 have hE_:=E
 obtain ⟨ad16,rfl⟩:=g0_0.addr c15.1 c15.2
 replace E:=hE_
 obtain ⟨cs18,⟨A20,c21,rfl,g22⟩,hc19⟩:=g0_0.el qG.z x4 c15.1 c15.2
 refine plc E (.r 0 3<|.x 3 c15<|.cs 4 (S.fcs hc19)<|.nil) fun a E=>?_
 obtain ⟨t24,h25,H⟩:=bd H
 refine plq E S en158 (qBf.calls k7 (nth qG.z x x4) x1c0_ _ _ _ _ _ _ S.own.sub g22 hp1c0_ h25) fun u23 S a E=>pld (hK14 _ _ (E.ib 16 H (fun c26 E H=>?_) fun c26 E H=>?_))
 refine rr E fun a E=>(wp_ret (qCd (qCc (qCc (qCd (qCc ?_))))))
 obtain rfl:=si H
 exact rt1 E ⟨_,rfl,_,rfl,S⟩
 refine wp_skip ?_
 refine qCe ?_
 refine hK12 _ _ (pl0 (plc E (.r 0 2 .nil) fun a E=>pld ?_))
 exact qCf ⟨k7,by omega,_,(w64 (x4+1)),by omega,E,.of,S,H⟩
 refine wp_exit ?_
 refine hK2 _ _ (rr E fun a E=>(wp_ret ?_))
 obtain rfl:=si H
 exact rt1 E ⟨_,rfl,_,rfl,S⟩
def qx.f(k:Nat)(x:List qG)(x1c0_:Int):Option Bool:=(qY.f k x x1c0_).bind fun t4=>(some (decide (t4>=0)))
def qx.Post(W F:World)(r:Bool)(v:Value)(w':World):Prop:=∃(F':World),v = .bool r/\Sm W F w' F' []
theorem qx.calls(k:Nat)(x:List qG)(x1c0_:Int)(A0_0:OA)(c0_0:Nat)(p1c0_:Nat)(r:Bool)(W F:World)(hown:Sub F W)(g0_0:Rd qG.k F A0_0 c0_0 x)(hp1c0_:F.heap[p1c0_]? = some (.cells #[iv x1c0_] 3 (0,0)))(H:qx.f k x x1c0_=some r):
    Cr 149 #[.slice A0_0 x.length c0_0,.func (.func 158) #[] #[.pointer (pb p1c0_)]] W (qx.Post W F r):=by
 have S:=sT hown
 unfold qx.f at H
 refine ent 9 rfl rfl rfl fun a E=>?_
 refine rr E fun a E=>(sq fun K2 hK2=>pl0 (plc E (.r 0 2 .nil) fun a E=>?_))
 obtain ⟨t4,h5,H⟩:=bd H
 refine plq E S en136 (qY.calls k x x1c0_ _ _ _ _ _ _ S.own.sub g0_0 hp1c0_ h5) fun u3 S a E=>plc E (.r 3 2 .nil) fun a E=>pld (hK2 _ _ (wp_ret ?_))
 obtain rfl:=si H
 exact rt1 E ⟨_,rfl,_,rfl,S⟩
def qBk.f(k:Nat)(x:qC)(xf0_:Int):Option Bool:=(qx.f k x.f1 xf0_).bind fun t6=>(some t6)
def qBk.Post(W F:World)(r:Bool)(v:Value)(w':World):Prop:=∃(F':World),v = .bool r/\Sm W F w' F' []
theorem qBk.calls(k:Nat)(x:qC)(xf0_:Int)(A0_1:OA)(c0_1:Nat)(pf0_:Nat)(r:Bool)(W F:World)(hown:Sub F W)(g0_1:Rd qG.k F A0_1 c0_1 x.f1)(hpf0_:F.heap[pf0_]? = some (.cells #[iv xf0_] 3 (0,0)))(H:qBk.f k x xf0_=some r):
    Cr 157 #[.agg #[iv x.f0,.slice A0_1 x.f1.length c0_1],.pointer (pb pf0_)] W (qBk.Post W F r):=by
 have S:=sT hown
 unfold qBk.f at H
 refine ent 8 rfl rfl rfl fun a E=>?_
 refine sq fun K1 hK1=>pl0 (plx (t:=73) E S [iv x.f0,.slice A0_1 x.f1.length c0_1] fun b2 u3 hb2 S a E=>plc E (.r 1 1 .nil) fun a E=>pld (hK1 _ _ (sq fun K4 hK4=>pl0 (plc E (.r 0 1<|.b 1 1 hb2<|.r 2 1<|.nil) fun a E=>?_))))
 obtain ⟨t6,h7,H⟩:=bd H
 refine plq E S en149 (qx.calls k x.f1 xf0_ _ _ _ _ _ _ S.own.sub g0_1 hpf0_ h7) fun u5 S a E=>plc E (.r 4 1 .nil) fun a E=>pld (hK4 _ _ (wp_ret ?_))
 have S:=S.tail
 obtain rfl:=si H
 exact rt1 E ⟨_,rfl,_,rfl,S⟩
def qZ.l5:Nat->List qC->Int->Int->Option Int
 | 0,_,_,_=>none
 | k+1,x,x1c0_,x4=>if x4<(x.length:Int) then (if 0<=x4/\x4<(x.length:Int) then ((qBk.f k (nth qC.z x x4) x1c0_).bind fun t24=>(if t24=true then (some x4) else (qZ.l5 k x x1c0_ (w64 (x4+1))))) else (none)) else (some (-1))
theorem qZ.l5_s k x x1c0_ x4:type_of% (qZ.l5.eq_2 x x1c0_ x4 k):=qZ.l5.eq_2 x x1c0_ x4 k
def qZ.f(k:Nat)(x:List qC)(x1c0_:Int):Option Int:=qZ.l5 k x x1c0_ 0
def qZ.Post(W F:World)(r:Int)(v:Value)(w':World):Prop:=∃(F':World),v=iv r/\Sm W F w' F' []
theorem qZ.calls(k:Nat)(x:List qC)(x1c0_:Int)(A0_0:OA)(c0_0:Nat)(p1c0_:Nat)(r:Int)(W F:World)(hown:Sub F W)(g0_0:Rd qC.k F A0_0 c0_0 x)(hp1c0_:F.heap[p1c0_]? = some (.cells #[iv x1c0_] 3 (0,0)))(H:qZ.f k x x1c0_=some r):
    Cr 171 #[.slice A0_0 x.length c0_0,.func (.func 157) #[] #[.pointer (pb p1c0_)]] W (qZ.Post W F r):=by
 have S:=sT hown
 unfold qZ.f at H
 refine ent 19 rfl rfl rfl fun a E=>?_
 refine rr E fun a E=>(sq fun K2 hK2=>rr E fun a E=>(wp_block ?_))
 refine wp_loop_ghost (fun kq6 a w'=>∃(G:NV)(x4:Int),kq6<=k/\Env 19 G a/\At G [(0,.slice A0_0 x.length c0_0),(1,.func (.func 157) #[] #[.pointer (pb p1c0_)]),(7,iv (x.length:Int)),(8,iv x4)]/\Sm W F w' F []/\qZ.l5 kq6 x x1c0_ x4=some r) k ⟨_,0,Nat.le_refl _,E,.of,S,H⟩ ?_
 rintro kq6 a u8 ⟨G,x4,hkq,E,A,S,H⟩
 obtain _ | k7:=kq6
 exact zz H
 rw [qZ.l5_s]at H
 obtain ⟨J,E⟩:=E.at A
 refine rr E fun a E=>(sq fun K10 hK10=>E.ik 9 H (fun c11 E H=>?_) fun c11 E H=>?_)
 refine wp_skip (hK10 _ _ (sq fun K12 hK12=>wp_block (rr E fun a E=>(sq fun K14 hK14=>pl0 ?_))))
 obtain ⟨c15,H⟩:=gd H
 have hE_:=E
 obtain ⟨ad16,rfl⟩:=g0_0.addr c15.1 c15.2
 replace E:=hE_
 obtain ⟨cs18,⟨A20,c21,rfl,g22⟩,hc19⟩:=g0_0.el qC.z x4 c15.1 c15.2
 refine plc E (.r 0 3<|.x 3 c15<|.cs 4 (S.fcs hc19)<|.nil) fun a E=>?_
 obtain ⟨t24,h25,H⟩:=bd H
 refine plq E S en157 (qBk.calls k7 (nth qC.z x x4) x1c0_ _ _ _ _ _ _ S.own.sub g22 hp1c0_ h25) fun u23 S a E=>pld (hK14 _ _ (E.ib 16 H (fun c26 E H=>?_) fun c26 E H=>?_))
 refine rr E fun a E=>(wp_ret (qCd (qCc (qCc (qCd (qCc ?_))))))
 obtain rfl:=si H
 exact rt1 E ⟨_,rfl,_,rfl,S⟩
 refine wp_skip ?_
 refine qCe ?_
 refine hK12 _ _ (pl0 (plc E (.r 0 2 .nil) fun a E=>pld ?_))
 exact qCf ⟨k7,by omega,_,(w64 (x4+1)),by omega,E,.of,S,H⟩
 refine wp_exit ?_
 refine hK2 _ _ (rr E fun a E=>(wp_ret ?_))
 obtain rfl:=si H
 exact rt1 E ⟨_,rfl,_,rfl,S⟩
def qy.f(k:Nat)(x:List qC)(x1c0_:Int):Option Bool:=(qZ.f k x x1c0_).bind fun t4=>(some (decide (t4>=0)))
def qy.Post(W F:World)(r:Bool)(v:Value)(w':World):Prop:=∃(F':World),v = .bool r/\Sm W F w' F' []
theorem qy.calls(k:Nat)(x:List qC)(x1c0_:Int)(A0_0:OA)(c0_0:Nat)(p1c0_:Nat)(r:Bool)(W F:World)(hown:Sub F W)(g0_0:Rd qC.k F A0_0 c0_0 x)(hp1c0_:F.heap[p1c0_]? = some (.cells #[iv x1c0_] 3 (0,0)))(H:qy.f k x x1c0_=some r):
    Cr 156 #[.slice A0_0 x.length c0_0,.func (.func 157) #[] #[.pointer (pb p1c0_)]] W (qy.Post W F r):=by
 have S:=sT hown
 unfold qy.f at H
 refine ent 9 rfl rfl rfl fun a E=>?_
 refine rr E fun a E=>(sq fun K2 hK2=>pl0 (plc E (.r 0 2 .nil) fun a E=>?_))
 obtain ⟨t4,h5,H⟩:=bd H
 refine plq E S en171 (qZ.calls k x x1c0_ _ _ _ _ _ _ S.own.sub g0_0 hp1c0_ h5) fun u3 S a E=>plc E (.r 3 2 .nil) fun a E=>pld (hK2 _ _ (wp_ret ?_))
 obtain rfl:=si H
 exact rt1 E ⟨_,rfl,_,rfl,S⟩
end Go.Proofs.YthgfhlbjkmjlpaaGreat.GD
