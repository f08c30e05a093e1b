import Derived.Test.YtpohepinmjmbkaaGreatPJ2
namespace Go.Proofs.YtpohepinmjmbkaaGreat.PJ
open Go Go.RowKit Go.Proofs.YtpohepinmjmbkaaGreat.Sl
set_option linter.unusedVariables false
set_option linter.unusedSimpArgs false
set_option maxHeartbeats 4000000
set_option maxRecDepth 100000
def qCP.f(x:qF)(y:qE):Option (qF × Int):=(qBZ.f y.f5 0 (w64 (x.f3 - 1))).bind fun t11=>(if t11=true then (if 0≤y.f5∧y.f5<(x.f6.length:Int) then (if (nth qC.z x.f6 y.f5).f0=y.f4 then (if (((nth qC.z x.f6 y.f5).f1).length:Int)=0 then (some (x,7)) else (some ((⟨x.f0,x.f1,x.f2,x.f3,x.f4,x.f5,(x.f6.set (y.f5).toNat (⟨(nth qC.z x.f6 y.f5).f0,[]⟩:qC))⟩:qF),0))) else (some (x,5))) else (none)) else (some (x,1)))
def qCP.Post(x:qF)(y:qE)(A0_4:OA)(c0_4:Nat)(A0_5:OA)(c0_5:Nat)(A0_6:OA)(c0_6:Nat)(A1_6:OA)(c1_6:Nat)(W F:World)(r:qF × Int)(v:Value)(w':World):Prop:=∃(F':World)(RA0_4:OA)(rc0_4:Nat)(RA0_5:OA)(rc0_5:Nat)(RA0_6:OA)(rc0_6:Nat),v = .tuple #[.agg #[iv r.1.f0,iv r.1.f1,iv r.1.f2,iv r.1.f3,.slice RA0_4 r.1.f4.length rc0_4,.slice RA0_5 r.1.f5.length rc0_5,.slice RA0_6 r.1.f6.length rc0_6],iv r.2]∧St W (mine W [row qC.k 49 (.slice A0_6 x.f6.length c0_6) x.f6]) F w' F' [row qC.k 49 (.slice RA0_6 r.1.f6.length rc0_6) r.1.f6]∧Rd qA.k F' RA0_4 rc0_4 r.1.f4∧Rd qD.k F' RA0_5 rc0_5 r.1.f5
theorem qCP.calls(x:qF)(y:qE)(A0_4:OA)(c0_4:Nat)(A0_5:OA)(c0_5:Nat)(A0_6:OA)(c0_6:Nat)(A1_6:OA)(c1_6:Nat)(r:qF × Int)(W F:World)(hown:Own W F [row qC.k 49 (.slice A0_6 x.f6.length c0_6) x.f6])(g0_4:Rd qA.k F A0_4 c0_4 x.f4)(g0_5:Rd qD.k F A0_5 c0_5 x.f5)(g1_6:Rd ki F A1_6 c1_6 y.f6)(H:qCP.f x y=some r):
    Cr 134 #[.agg #[iv x.f0,iv x.f1,iv x.f2,iv x.f3,.slice A0_4 x.f4.length c0_4,.slice A0_5 x.f5.length c0_5,.slice A0_6 x.f6.length c0_6],.agg #[iv y.f0,iv y.f1,iv y.f2,iv y.f3,iv y.f4,iv y.f5,.slice A1_6 y.f6.length c1_6]] W (qCP.Post x y A0_4 c0_4 A0_5 c0_5 A0_6 c0_6 A1_6 c1_6 W F r):=by
 have S:=St.start hown
 obtain ⟨N,hN⟩:∃ N,N=mine W [row qC.k 49 (.slice A0_6 x.f6.length c0_6) x.f6]:=⟨_,rfl⟩
 rw [← hN]at S
 unfold qCP.f at H
 refine ent 45 rfl rfl rfl (fun a E=>?_)
 refine sq fun K1 hK1=>pl0 (plx (t:=26) E S [iv x.f0,iv x.f1,iv x.f2,iv x.f3,.slice A0_4 x.f4.length c0_4,.slice A0_5 x.f5.length c0_5,.slice A0_6 x.f6.length c0_6] fun b2 u3 hb2 S a E=>plx (t:=40) E S [iv y.f0,iv y.f1,iv y.f2,iv y.f3,iv y.f4,iv y.f5,.slice A1_6 y.f6.length c1_6] fun b4 u5 hb4 S a E=>pla (t:=26) E S [iv 0,iv 0,iv 0,iv 0,.slice none 0 0,.slice none 0 0,.slice none 0 0] fun b6 u7 hb6 S a E=>plc E (.r 3 1 .nil) (fun a E=>pld (hK1 _ _ (sq fun K8 hK8=>wp_block (sq fun K9 hK9=>pl0 ?_)))))
 have hb4:=S.ba 1
 have hb2:=S.ba 2
 refine plc E (.r 0 1<|.b 1 5 hb4<|.r 2 1<|.b 3 3 hb2<|.r 4 1<|.nil) (fun a E=>?_)
 obtain ⟨t11,h12,H⟩:=bd H
 refine plq E S en70 (qBZ.calls y.f5 0 (w64 (x.f3 - 1)) _ _ _ S.own.sub h12) fun u10 S a E=>plc E (.r 6 2 .nil) (fun a E=>pld (hK9 _ _ (E.ibn 6 H (fun c13 E H=>?_) fun c13 E H=>?_)))
 refine sq fun K14 hK14=>?_
 refine drawn 11 ⟨[],[],fun q=>False⟩ mixed rfl (by kernel_rfl) (fun hst=>?_)
 replace S:=S.drew
 have hb2:=S.ba 2
 have hb4:=S.ba 1
 obtain ⟨c15,H⟩:=gd H
 have hr16:=S.ra 3
 have hE_:=E
 obtain ⟨b17,rfl⟩:=qCv hr16 c15.1 c15.2
 replace E:=hE_
 have hr_:=S.ra 3
 obtain ⟨cs19,⟨A21,c22,rfl,g23⟩,hc20⟩:=qCs hr_ qC.z y.f5 c15.1 c15.2
 refine mny 0 hst E (.r 0 1<|.b 1 6 hb2<|.r 2 1<|.b 3 5 hb4<|.x 4 c15<|.r 5 1<|.c 6 (hc20 0 _ rfl)<|.r 7 1<|.b 8 4 hb4<|.r 9 2<|.nil) (fun a E=>?_)
 refine dn ?_
 refine hK14 _ _ (E.ikn 15 H (fun c24 E H=>?_) fun c24 E H=>?_)
 refine sq fun K25 hK25=>pl0 ?_
 have hr26:=S.ra 3
 refine plc E (.r 0 1<|.b 1 6 hb2<|.r 2 1<|.b 3 5 hb4<|.x 4 c15<|.r 5 1<|.c 6 (hc20 1 _ rfl)<|.r 7 3<|.nil) (fun a E=>pld (hK25 _ _ (E.ik 27 H (fun c30 E H=>?_) fun c30 E H=>?_)))
 refine sq fun K31 hK31=>pl0 (plc E (.bn 0 0 7 hb2 .nil) (fun a E=>pls E S [iv x.f0,iv x.f1,iv x.f2,iv x.f3,.slice A0_4 x.f4.length c0_4,.slice A0_5 x.f5.length c0_5,.slice (pb b17) x.f6.length c0_6] fun u32 hb6 S a E=>plc E (.r 2 1 .nil) (fun a E=>pld (hK31 _ _ (wp_ret (qCo (qCn ?_)))))))
 replace S:=S.pm [] 3
 rw [hN]at S
 obtain rfl:=si H
 exact rtm E (.b hb6 ag26 sz26 (.t .nil)) ⟨_,rfl,_,_,_,_,_,_,_,rfl,S,g0_4,g0_5⟩
 refine wp_skip ?_
 refine qCp ?_
 refine hK8 _ _ (sq fun K37 hK37=>pl0 ?_)
 have hr38:=S.ra 3
 refine plc E (.r 0 1<|.b 1 6 hb2<|.r 2 1<|.b 3 5 hb4<|.x 4 c15<|.r 5 1<|.nil) (fun a E=>?_)
 replace S:=S.front 3 rfl
 obtain ⟨cs46,⟨A43,c44,rfl,g45⟩,hc47⟩:=qCs (S.row_at (i:=0) rfl) qC.z y.f5 c15.1 c15.2
 refine ple E (.set (d:=qC.k) (n:=x.f6.length) (i:=y.f5) (⟨(nth qC.z x.f6 y.f5).f0,[]⟩:qC) 1 (ea1 _ _ _) S c15 [iv ((nth qC.z x.f6 y.f5).f0),.slice A43 (((nth qC.z x.f6 y.f5).f1).length) c44] hc47 [iv ((nth qC.z x.f6 y.f5).f0),.slice none 0 0] ⟨none,0,rfl,Rd.nil _ _⟩) ?_
 rintro _ u42 a ⟨rfl,S,hz⟩ E
 refine pld (hK37 _ _ (sq fun K48 hK48=>pl0 (plc E (.bn 0 0 7 (S.ba 3) .nil) (fun a E=>?_))))
 replace S:=S.front 1 rfl
 refine pls E S [iv x.f0,iv x.f1,iv x.f2,iv x.f3,.slice A0_4 x.f4.length c0_4,.slice A0_5 x.f5.length c0_5,.slice (pb b17) x.f6.length c0_6] fun u49 hb6 S a E=>plc E (.r 2 1 .nil) (fun a E=>pld (hK48 _ _ (wp_ret ?_)))
 have hn50:=(qCr (S.row_at (i:=1) rfl)).1
 replace S:St W N F u49 F [box b6 #[iv x.f0,iv x.f1,iv x.f2,iv x.f3,.slice A0_4 x.f4.length c0_4,.slice A0_5 x.f5.length c0_5,.slice (pb b17) ((x.f6.set (y.f5).toNat (⟨(nth qC.z x.f6 y.f5).f0,[]⟩:qC)).length) c0_6] 26,row qC.k 49 (.slice (pb b17) ((x.f6.set (y.f5).toNat (⟨(nth qC.z x.f6 y.f5).f0,[]⟩:qC)).length) c0_6) (x.f6.set (y.f5).toNat (⟨(nth qC.z x.f6 y.f5).f0,[]⟩:qC)),box b4 #[iv y.f0,iv y.f1,iv y.f2,iv y.f3,iv y.f4,iv y.f5,.slice A1_6 y.f6.length c1_6] 40,box b2 #[iv x.f0,iv x.f1,iv x.f2,iv x.f3,.slice A0_4 x.f4.length c0_4,.slice A0_5 x.f5.length c0_5,.slice (pb b17) ((x.f6.set (y.f5).toNat (⟨(nth qC.z x.f6 y.f5).f0,[]⟩:qC)).length) c0_6] 26]:=by rw [← hn50]; exact S
 have hb6:=S.ba 0
 replace S:=S.pm [1] 4
 rw [hN]at S
 obtain rfl:=si H
 exact rtm E (.b hb6 ag26 sz26 (.t .nil)) ⟨_,rfl,_,_,_,_,_,_,_,rfl,S,g0_4,g0_5⟩
 refine sq fun K33 hK33=>pl0 (plc E (.bn 0 0 7 hb2 .nil) (fun a E=>pls E S [iv x.f0,iv x.f1,iv x.f2,iv x.f3,.slice A0_4 x.f4.length c0_4,.slice A0_5 x.f5.length c0_5,.slice (pb b17) x.f6.length c0_6] fun u34 hb6 S a E=>plc E (.r 2 1 .nil) (fun a E=>pld (hK33 _ _ (wp_ret (qCo (qCn ?_)))))))
 replace S:=S.pm [] 3
 rw [hN]at S
 obtain rfl:=si H
 exact rtm E (.b hb6 ag26 sz26 (.t .nil)) ⟨_,rfl,_,_,_,_,_,_,_,rfl,S,g0_4,g0_5⟩
 refine sq fun K35 hK35=>pl0 (plc E (.bn 0 0 7 (S.ba 2) .nil) (fun a E=>pls E S [iv x.f0,iv x.f1,iv x.f2,iv x.f3,.slice A0_4 x.f4.length c0_4,.slice A0_5 x.f5.length c0_5,.slice A0_6 x.f6.length c0_6] fun u36 hb6 S a E=>plc E (.r 2 1 .nil) (fun a E=>pld (hK35 _ _ (wp_ret (qCo (qCn ?_)))))))
 replace S:=S.pm [] 3
 rw [hN]at S
 obtain rfl:=si H
 exact rtm E (.b hb6 ag26 sz26 (.t .nil)) ⟨_,rfl,_,_,_,_,_,_,_,rfl,S,g0_4,g0_5⟩
def qBm.f(k:Nat)(x:qG)(xf0_:Int):Option Bool:=(qAg.f k x.f1 xf0_).bind fun t6=>(some t6)
def qBm.Post(W F:World)(r:Bool)(v:Value)(w':World):Prop:=∃(F':World),v = .bool r∧Sm W F w' F' []
theorem qBm.calls(k:Nat)(x:qG)(xf0_:Int)(A0_1:OA)(c0_1:Nat)(pf0_:Nat)(r:Bool)(W F:World)(hown:Sub F W)(g0_1:Rd ki F A0_1 c0_1 x.f1)(hpf0_:F.heap[pf0_]? = some (.cells #[iv xf0_] 3 (0,0)))(H:qBm.f k x xf0_=some r):
    Cr 217 #[.agg #[iv x.f0,.slice A0_1 x.f1.length c0_1],.pointer (pb pf0_)] W (qBm.Post W F r):=by
 have S:=sT hown
 unfold qBm.f at H
 refine ent 8 rfl rfl rfl (fun a E=>?_)
 refine sq fun K1 hK1=>pl0 (plx (t:=51) E S [iv x.f0,.slice A0_1 x.f1.length c0_1] fun b2 u3 hb2 S a E=>plc E (.r 1 1 .nil) (fun a E=>pld (hK1 _ _ (sq fun K4 hK4=>pl0 (plc E (.r 0 1<|.b 1 1 hb2<|.b 2 0 (S.own.sub _ _ _ _ hpf0_)<|.nil) (fun a E=>?_))))))
 obtain ⟨t6,h7,H⟩:=bd H
 refine plq E S en118 (qAg.calls k x.f1 xf0_ _ _ _ _ _ S.own.sub g0_1 h7) fun u5 S a E=>plc E (.r 4 1 .nil) (fun a E=>pld (hK4 _ _ (wp_ret ?_)))
 replace S:=S.tail
 obtain rfl:=si H
 exact rt1 E ⟨_,rfl,_,rfl,S⟩
def qc.l5:Nat→List qG→Int→Int→Option Int
 | 0,_,_,_=>none
 | k+1,x,x1c0_,x4=>if x4<(x.length:Int) then (if 0≤x4∧x4<(x.length:Int) then ((qBm.f k (nth qG.z x x4) x1c0_).bind fun t24=>(if t24=true then (some x4) else (qc.l5 k x x1c0_ (w64 (x4+1))))) else (none)) else (some (-1))
theorem qc.l5_s k x x1c0_ x4:type_of% (qc.l5.eq_2 x x1c0_ x4 k):=qc.l5.eq_2 x x1c0_ x4 k
def qc.f(k:Nat)(x:List qG)(x1c0_:Int):Option Int:=qc.l5 k x x1c0_ 0
def qc.Post(W F:World)(r:Int)(v:Value)(w':World):Prop:=∃(F':World),v=iv r∧Sm W F w' F' []
theorem qc.calls(k:Nat)(x:List qG)(x1c0_:Int)(A0_0:OA)(c0_0:Nat)(p1c0_:Nat)(r:Int)(W F:World)(hown:Sub F W)(g0_0:Rd qG.k F A0_0 c0_0 x)(hp1c0_:F.heap[p1c0_]? = some (.cells #[iv x1c0_] 3 (0,0)))(H:qc.f k x x1c0_=some r):
    Cr 163 #[.slice A0_0 x.length c0_0,.func (.func 217) #[] #[.pointer (pb p1c0_)]] W (qc.Post W F r):=by
 have S:=sT hown
 unfold qc.f at H
 refine ent 19 rfl rfl rfl (fun a E=>?_)
 refine rr E fun a E=>(sq fun K2 hK2=>rr E fun a E=>(wp_block ?_))
 refine wp_loop_ghost (fun kq6 a w'=>∃(G:NV)(x4:Int),kq6≤k∧Env 19 G a∧At G [(0,.slice A0_0 x.length c0_0),(1,.func (.func 217) #[] #[.pointer (pb p1c0_)]),(7,iv (x.length:Int)),(8,iv x4)]∧Sm W F w' F []∧qc.l5 kq6 x x1c0_ x4=some r) k ⟨_,0,Nat.le_refl _,E,.of,S,H⟩ ?_
 rintro kq6 a u8 ⟨G,x4,hkq,E,A,S,H⟩
 obtain _ | k7:=kq6
 exact zz H
 rw [qc.l5_s]at H
 obtain ⟨J,E⟩:=E.at A
 refine rr E fun a E=>(sq fun K10 hK10=>E.ik 9 H (fun c11 E H=>?_) fun c11 E H=>?_)
 refine wp_skip (hK10 _ _ (sq fun K12 hK12=>wp_block (rr E fun a E=>(sq fun K14 hK14=>pl0 ?_))))
 obtain ⟨c15,H⟩:=gd H
 have hE_:=E
 obtain ⟨ad16,rfl⟩:=g0_0.addr c15.1 c15.2
 replace E:=hE_
 obtain ⟨cs18,⟨A20,c21,rfl,g22⟩,hc19⟩:=g0_0.el qG.z x4 c15.1 c15.2
 refine plc E (.r 0 3<|.x 3 c15<|.cs 4 (S.fcs hc19)<|.nil) (fun a E=>?_)
 obtain ⟨t24,h25,H⟩:=bd H
 refine plq E S en217 (qBm.calls k7 (nth qG.z x x4) x1c0_ _ _ _ _ _ _ S.own.sub g22 hp1c0_ h25) fun u23 S a E=>pld (hK14 _ _ (E.ib 16 H (fun c26 E H=>?_) fun c26 E H=>?_))
 refine rr E fun a E=>(wp_ret (qCo (qCn (qCn (qCo (qCn ?_))))))
 obtain rfl:=si H
 exact rt1 E ⟨_,rfl,_,rfl,S⟩
 refine wp_skip ?_
 refine qCp ?_
 refine hK12 _ _ (pl0 (plc E (.r 0 2 .nil) (fun a E=>pld ?_)))
 exact qCq ⟨k7,by omega,_,(w64 (x4+1)),by omega,E,.of,S,H⟩
 refine wp_exit ?_
 refine hK2 _ _ (rr E fun a E=>(wp_ret ?_))
 obtain rfl:=si H
 exact rt1 E ⟨_,rfl,_,rfl,S⟩
def qAI.f(k:Nat)(x:List qG)(x1c0_:Int):Option Bool:=(qc.f k x x1c0_).bind fun t4=>(some (decide (t4≥0)))
def qAI.Post(W F:World)(r:Bool)(v:Value)(w':World):Prop:=∃(F':World),v = .bool r∧Sm W F w' F' []
theorem qAI.calls(k:Nat)(x:List qG)(x1c0_:Int)(A0_0:OA)(c0_0:Nat)(p1c0_:Nat)(r:Bool)(W F:World)(hown:Sub F W)(g0_0:Rd qG.k F A0_0 c0_0 x)(hp1c0_:F.heap[p1c0_]? = some (.cells #[iv x1c0_] 3 (0,0)))(H:qAI.f k x x1c0_=some r):
    Cr 119 #[.slice A0_0 x.length c0_0,.func (.func 217) #[] #[.pointer (pb p1c0_)]] W (qAI.Post W F r):=by
 have S:=sT hown
 unfold qAI.f at H
 refine ent 9 rfl rfl rfl (fun a E=>?_)
 refine rr E fun a E=>(sq fun K2 hK2=>pl0 (plc E (.r 0 2 .nil) (fun a E=>?_)))
 obtain ⟨t4,h5,H⟩:=bd H
 refine plq E S en163 (qc.calls k x x1c0_ _ _ _ _ _ _ S.own.sub g0_0 hp1c0_ h5) fun u3 S a E=>plc E (.r 3 2 .nil) (fun a E=>pld (hK2 _ _ (wp_ret ?_)))
 obtain rfl:=si H
 exact rt1 E ⟨_,rfl,_,rfl,S⟩
def qBr.f(k:Nat)(x:qC)(xf0_:Int):Option Bool:=(qAI.f k x.f1 xf0_).bind fun t6=>(some t6)
def qBr.Post(W F:World)(r:Bool)(v:Value)(w':World):Prop:=∃(F':World),v = .bool r∧Sm W F w' F' []
theorem qBr.calls(k:Nat)(x:qC)(xf0_:Int)(A0_1:OA)(c0_1:Nat)(pf0_:Nat)(r:Bool)(W F:World)(hown:Sub F W)(g0_1:Rd qG.k F A0_1 c0_1 x.f1)(hpf0_:F.heap[pf0_]? = some (.cells #[iv xf0_] 3 (0,0)))(H:qBr.f k x xf0_=some r):
    Cr 216 #[.agg #[iv x.f0,.slice A0_1 x.f1.length c0_1],.pointer (pb pf0_)] W (qBr.Post W F r):=by
 have S:=sT hown
 unfold qBr.f at H
 refine ent 8 rfl rfl rfl (fun a E=>?_)
 refine sq fun K1 hK1=>pl0 (plx (t:=49) E S [iv x.f0,.slice A0_1 x.f1.length c0_1] fun b2 u3 hb2 S a E=>plc E (.r 1 1 .nil) (fun a E=>pld (hK1 _ _ (sq fun K4 hK4=>pl0 (plc E (.r 0 1<|.b 1 1 hb2<|.r 2 1<|.nil) (fun a E=>?_))))))
 obtain ⟨t6,h7,H⟩:=bd H
 refine plq E S en119 (qAI.calls k x.f1 xf0_ _ _ _ _ _ _ S.own.sub g0_1 hpf0_ h7) fun u5 S a E=>plc E (.r 4 1 .nil) (fun a E=>pld (hK4 _ _ (wp_ret ?_)))
 replace S:=S.tail
 obtain rfl:=si H
 exact rt1 E ⟨_,rfl,_,rfl,S⟩
def qd.l5:Nat→List qC→Int→Int→Option Int
 | 0,_,_,_=>none
 | k+1,x,x1c0_,x4=>if x4<(x.length:Int) then (if 0≤x4∧x4<(x.length:Int) then ((qBr.f k (nth qC.z x x4) x1c0_).bind fun t24=>(if t24=true then (some x4) else (qd.l5 k x x1c0_ (w64 (x4+1))))) else (none)) else (some (-1))
theorem qd.l5_s k x x1c0_ x4:type_of% (qd.l5.eq_2 x x1c0_ x4 k):=qd.l5.eq_2 x x1c0_ x4 k
def qd.f(k:Nat)(x:List qC)(x1c0_:Int):Option Int:=qd.l5 k x x1c0_ 0
def qd.Post(W F:World)(r:Int)(v:Value)(w':World):Prop:=∃(F':World),v=iv r∧Sm W F w' F' []
theorem qd.calls(k:Nat)(x:List qC)(x1c0_:Int)(A0_0:OA)(c0_0:Nat)(p1c0_:Nat)(r:Int)(W F:World)(hown:Sub F W)(g0_0:Rd qC.k F A0_0 c0_0 x)(hp1c0_:F.heap[p1c0_]? = some (.cells #[iv x1c0_] 3 (0,0)))(H:qd.f k x x1c0_=some r):
    Cr 234 #[.slice A0_0 x.length c0_0,.func (.func 216) #[] #[.pointer (pb p1c0_)]] W (qd.Post W F r):=by
 have S:=sT hown
 unfold qd.f at H
 refine ent 19 rfl rfl rfl (fun a E=>?_)
 refine rr E fun a E=>(sq fun K2 hK2=>rr E fun a E=>(wp_block ?_))
 refine wp_loop_ghost (fun kq6 a w'=>∃(G:NV)(x4:Int),kq6≤k∧Env 19 G a∧At G [(0,.slice A0_0 x.length c0_0),(1,.func (.func 216) #[] #[.pointer (pb p1c0_)]),(7,iv (x.length:Int)),(8,iv x4)]∧Sm W F w' F []∧qd.l5 kq6 x x1c0_ x4=some r) k ⟨_,0,Nat.le_refl _,E,.of,S,H⟩ ?_
 rintro kq6 a u8 ⟨G,x4,hkq,E,A,S,H⟩
 obtain _ | k7:=kq6
 exact zz H
 rw [qd.l5_s]at H
 obtain ⟨J,E⟩:=E.at A
 refine rr E fun a E=>(sq fun K10 hK10=>E.ik 9 H (fun c11 E H=>?_) fun c11 E H=>?_)
 refine wp_skip (hK10 _ _ (sq fun K12 hK12=>wp_block (rr E fun a E=>(sq fun K14 hK14=>pl0 ?_))))
 obtain ⟨c15,H⟩:=gd H
 have hE_:=E
 obtain ⟨ad16,rfl⟩:=g0_0.addr c15.1 c15.2
 replace E:=hE_
 obtain ⟨cs18,⟨A20,c21,rfl,g22⟩,hc19⟩:=g0_0.el qC.z x4 c15.1 c15.2
 refine plc E (.r 0 3<|.x 3 c15<|.cs 4 (S.fcs hc19)<|.nil) (fun a E=>?_)
 obtain ⟨t24,h25,H⟩:=bd H
 refine plq E S en216 (qBr.calls k7 (nth qC.z x x4) x1c0_ _ _ _ _ _ _ S.own.sub g22 hp1c0_ h25) fun u23 S a E=>pld (hK14 _ _ (E.ib 16 H (fun c26 E H=>?_) fun c26 E H=>?_))
 refine rr E fun a E=>(wp_ret (qCo (qCn (qCn (qCo (qCn ?_))))))
 obtain rfl:=si H
 exact rt1 E ⟨_,rfl,_,rfl,S⟩
 refine wp_skip ?_
 refine qCp ?_
 refine hK12 _ _ (pl0 (plc E (.r 0 2 .nil) (fun a E=>pld ?_)))
 exact qCq ⟨k7,by omega,_,(w64 (x4+1)),by omega,E,.of,S,H⟩
 refine wp_exit ?_
 refine hK2 _ _ (rr E fun a E=>(wp_ret ?_))
 obtain rfl:=si H
 exact rt1 E ⟨_,rfl,_,rfl,S⟩
def qAJ.f(k:Nat)(x:List qC)(x1c0_:Int):Option Bool:=(qd.f k x x1c0_).bind fun t4=>(some (decide (t4≥0)))
def qAJ.Post(W F:World)(r:Bool)(v:Value)(w':World):Prop:=∃(F':World),v = .bool r∧Sm W F w' F' []
theorem qAJ.calls(k:Nat)(x:List qC)(x1c0_:Int)(A0_0:OA)(c0_0:Nat)(p1c0_:Nat)(r:Bool)(W F:World)(hown:Sub F W)(g0_0:Rd qC.k F A0_0 c0_0 x)(hp1c0_:F.heap[p1c0_]? = some (.cells #[iv x1c0_] 3 (0,0)))(H:qAJ.f k x x1c0_=some r):
    Cr 215 #[.slice A0_0 x.length c0_0,.func (.func 216) #[] #[.pointer (pb p1c0_)]] W (qAJ.Post W F r):=by
 have S:=sT hown
 unfold qAJ.f at H
 refine ent 9 rfl rfl rfl (fun a E=>?_)
 refine rr E fun a E=>(sq fun K2 hK2=>pl0 (plc E (.r 0 2 .nil) (fun a E=>?_)))
 obtain ⟨t4,h5,H⟩:=bd H
 refine plq E S en234 (qd.calls k x x1c0_ _ _ _ _ _ _ S.own.sub g0_0 hp1c0_ h5) fun u3 S a E=>plc E (.r 3 2 .nil) (fun a E=>pld (hK2 _ _ (wp_ret ?_)))
 obtain rfl:=si H
 exact rt1 E ⟨_,rfl,_,rfl,S⟩
def qBy.f(k:Nat)(x:qF)(y:Int):Option Bool:=(qAJ.f k x.f6 y).bind fun t8=>(some t8)
def qBy.Post(W F:World)(r:Bool)(v:Value)(w':World):Prop:=∃(F':World),v = .bool r∧Sm W F w' F' []
theorem qBy.calls(k:Nat)(x:qF)(y:Int)(A0_4:OA)(c0_4:Nat)(A0_5:OA)(c0_5:Nat)(A0_6:OA)(c0_6:Nat)(r:Bool)(W F:World)(hown:Sub F W)(g0_4:Rd qA.k F A0_4 c0_4 x.f4)(g0_5:Rd qD.k F A0_5 c0_5 x.f5)(g0_6:Rd qC.k F A0_6 c0_6 x.f6)(H:qBy.f k x y=some r):
    Cr 183 #[.agg #[iv x.f0,iv x.f1,iv x.f2,iv x.f3,.slice A0_4 x.f4.length c0_4,.slice A0_5 x.f5.length c0_5,.slice A0_6 x.f6.length c0_6],iv y] W (qBy.Post W F r):=by
 have S:=sT hown
 unfold qBy.f at H
 refine ent 9 rfl rfl rfl (fun a E=>?_)
 refine sq fun K1 hK1=>pl0 (plx (t:=26) E S [iv x.f0,iv x.f1,iv x.f2,iv x.f3,.slice A0_4 x.f4.length c0_4,.slice A0_5 x.f5.length c0_5,.slice A0_6 x.f6.length c0_6] fun b2 u3 hb2 S a E=>plx (t:=3) E S [iv y] fun b4 u5 hb4 S a E=>plc E (.r 2 1 .nil) (fun a E=>pld (hK1 _ _ (sq fun K6 hK6=>pl0 (plc E (.r 0 1<|.b 1 6 (S.ba 1)<|.r 2 1<|.nil) (fun a E=>?_))))))
 obtain ⟨t8,h9,H⟩:=bd H
 refine plq E S en215 (qAJ.calls k x.f6 y _ _ _ _ _ _ (Sub.refl _) (g0_6.mono S.own.sub) (S.ba 0) h9) fun u7 S a E=>plc E (.r 4 1 .nil) (fun a E=>pld (hK6 _ _ (wp_ret ?_)))
 replace S:=S.pm [] 2
 obtain rfl:=si H
 exact rt1 E ⟨_,rfl,_,rfl,S⟩
set_option maxRecDepth 100000 in
theorem qCk.same(b:Bool){c:Bool}(p:Addr)(W:World)(h:W.cell? p=some (.bool c))(hc:c=b):Calls Tryz.prog 180 #[.pointer (some p),.bool b] W fun e w'=>∃ v,e = .returned v∧(v=iv 7∧w'=W):=by
 subst hc
 refine enter (n:=13) rfl rfl rfl (Nat.le_of_ble_eq_true rfl) (fun a hE=>?_)
 refine sq fun K0 hK0=>?_
 refine pl0 ?_
 refine plc hE (.r 0 1 .nil) (fun a hE=>?_)
 refine pld ?_
 refine hK0 _ _ ?_
 refine sq fun K1 hK1=>?_
 refine sq fun K2 hK2=>?_
 refine pl0 ?_
 refine plc hE (.r 0 2<|.c 2 h<|.r 3 2 .nil) (fun a hE=>?_)
 refine pld ?_
 refine hK2 _ _ ?_
 replace hE:=hE.et 9 (rfl:c=c)
 refine ct hE ?_
 refine sq fun K3 hK3=>?_
 refine pl0 ?_
 refine plc hE (.r 0 1 .nil) (fun a hE=>?_)
 refine pld ?_
 refine hK3 _ _ ?_
 refine wp_ret (qCn ?_)
 exact rt1 hE ⟨_,rfl,rfl,rfl⟩
set_option maxRecDepth 100000 in
theorem qCk.turn {W0:World} {N:Nat→Prop} {F0 W F:World} {L:List Asrt} {xs:List qA} {g n c:Nat} {i:Int} {p:Addr} (hS:St W0 N F0 W F (row qA.k 104 (.slice (pb g) n c) xs :: L)) (yv:qA) (off:Nat) (h01:0≤i∧i<(xs.length:Int)) (cs:List Value) (hcs:∀(j:Nat)(u:Value),cs[j]? = some u→W.cell? (((⟨g,0,none⟩:Addr).add (i.toNat * (qA.k).sz)).add j)=some u) (cur to:Bool) (cs':List Value) (hcur:cs[off]? = some (.bool cur)) (hK:(qA.k).K F yv cs') (hne:¬ cur=to) (hp:p=((⟨g,0,none⟩:Addr).add (i.toNat * (qA.k).sz)).add off:=by rfl)
  (hk:cs'=cs.take off++[.bool to]++cs.drop (off+1):=by rfl) (hl:Nat.beq cs.length (qA.k).sz=true:=by kernel_rfl) (ho:Nat.ble (off+1) (qA.k).sz=true:=by kernel_rfl):Calls Tryz.prog 180 #[.pointer (some p),.bool to] W fun e w'=>∃ v,e = .returned v∧(v=iv 0∧St W0 N F0 w' F (row qA.k 104 (.slice (pb g) n c) (xs.set i.toNat yv) :: L)∧AgrX (fun q=>q=g) W w'):=by
 subst hp
 subst hk
 have h:=hcs off _ hcur
 refine enter (n:=13) rfl rfl rfl (Nat.le_of_ble_eq_true rfl) (fun a hE=>?_)
 refine sq fun K0 hK0=>?_
 refine pl0 ?_
 refine plc hE (.r 0 1 .nil) (fun a hE=>?_)
 refine pld ?_
 refine hK0 _ _ ?_
 refine sq fun K1 hK1=>?_
 refine sq fun K2 hK2=>?_
 refine pl0 ?_
 refine plc hE (.r 0 2<|.c 2 h<|.r 3 2 .nil) (fun a hE=>?_)
 refine pld ?_
 refine hK2 _ _ ?_
 replace hE:=hE.ef 9 hne
 refine cf hE ?_
 refine wp_skip ?_
 refine hK1 _ _ ?_
 refine sq fun K3 hK3=>?_
 refine pl0 ?_
 refine plc hE (.r 0 3 .nil) (fun a hE=>?_)
 refine ple hE (.setx (d:=qA.k) (n:=n) (i:=i) yv off (ea1 _ _ _) hS h01 cs hcs _ hK ?_) ?_
 ·unfold setK
  show (match (Nat.beq [Value.bool to].length 1&&Nat.ble (off+1) (qA.k).sz)&&(true&&Nat.beq cs.length (qA.k).sz) with
   | true=>some (((⟨g,0,none⟩:Addr).add (i.toNat * (qA.k).sz)).add off,cs.take off++[.bool to]++cs.drop (off+1))
   | false=>none)=some _
  rw [hl,ho]
  rfl
 rintro _ w1 a ⟨rfl,hS,hz,hX⟩ hE
 refine pld ?_
 refine hK3 _ _ ?_
 refine sq fun K4 hK4=>?_
 refine pl0 ?_
 refine plc hE (.r 0 1 .nil) (fun a hE=>?_)
 refine pld ?_
 refine hK4 _ _ ?_
 refine wp_ret ?_
 exact rt1 hE ⟨_,rfl,rfl,hS,hX⟩
def qCJ.f(k:Nat)(x:qD)(xf0_:qE):Option Bool:=(qAg.f k x.f1 xf0_.f1).bind fun t6=>(some t6)
def qCJ.Post(W F:World)(r:Bool)(v:Value)(w':World):Prop:=∃(F':World),v = .bool r∧Sm W F w' F' []
theorem qCJ.calls(k:Nat)(x:qD)(xf0_:qE)(A0_1:OA)(c0_1:Nat)(pf0_:Nat)(Af0_6:OA)(cf0_6:Nat)(r:Bool)(W F:World)(hown:Sub F W)(g0_1:Rd ki F A0_1 c0_1 x.f1)(gf0_6:Rd ki F Af0_6 cf0_6 xf0_.f6)(hpf0_:F.heap[pf0_]? = some (.cells #[iv xf0_.f0,iv xf0_.f1,iv xf0_.f2,iv xf0_.f3,iv xf0_.f4,iv xf0_.f5,.slice Af0_6 xf0_.f6.length cf0_6] 40 (0,0)))(H:qCJ.f k x xf0_=some r):
    Cr 182 #[.agg #[iv x.f0,.slice A0_1 x.f1.length c0_1],.pointer (pb pf0_)] W (qCJ.Post W F r):=by
 have S:=sT hown
 unfold qCJ.f at H
 refine ent 9 rfl rfl rfl (fun a E=>?_)
 refine sq fun K1 hK1=>pl0 (plx (t:=97) E S [iv x.f0,.slice A0_1 x.f1.length c0_1] fun b2 u3 hb2 S a E=>plc E (.r 1 1 .nil) (fun a E=>pld (hK1 _ _ (sq fun K4 hK4=>pl0 (plc E (.r 0 1<|.b 1 1 hb2<|.r 2 1<|.b 3 1 (S.own.sub _ _ _ _ hpf0_)<|.nil) (fun a E=>?_))))))
 obtain ⟨t6,h7,H⟩:=bd H
 refine plq E S en118 (qAg.calls k x.f1 xf0_.f1 _ _ _ _ _ S.own.sub g0_1 h7) fun u5 S a E=>plc E (.r 5 1 .nil) (fun a E=>pld (hK4 _ _ (wp_ret ?_)))
 replace S:=S.tail
 obtain rfl:=si H
 exact rt1 E ⟨_,rfl,_,rfl,S⟩
def qh.l5:Nat→List qD→qE→Int→Option Int
 | 0,_,_,_=>none
 | k+1,x,x1c0_,x4=>if x4<(x.length:Int) then (if 0≤x4∧x4<(x.length:Int) then ((qCJ.f k (nth qD.z x x4) x1c0_).bind fun t24=>(if t24=true then (some x4) else (qh.l5 k x x1c0_ (w64 (x4+1))))) else (none)) else (some (-1))
theorem qh.l5_s k x x1c0_ x4:type_of% (qh.l5.eq_2 x x1c0_ x4 k):=qh.l5.eq_2 x x1c0_ x4 k
def qh.f(k:Nat)(x:List qD)(x1c0_:qE):Option Int:=qh.l5 k x x1c0_ 0
def qh.Post(W F:World)(r:Int)(v:Value)(w':World):Prop:=∃(F':World),v=iv r∧Sm W F w' F' []
theorem qh.calls(k:Nat)(x:List qD)(x1c0_:qE)(A0_0:OA)(c0_0:Nat)(p1c0_:Nat)(A1c0_6:OA)(c1c0_6:Nat)(r:Int)(W F:World)(hown:Sub F W)(g0_0:Rd qD.k F A0_0 c0_0 x)(g1c0_6:Rd ki F A1c0_6 c1c0_6 x1c0_.f6)(hp1c0_:F.heap[p1c0_]? = some (.cells #[iv x1c0_.f0,iv x1c0_.f1,iv x1c0_.f2,iv x1c0_.f3,iv x1c0_.f4,iv x1c0_.f5,.slice A1c0_6 x1c0_.f6.length c1c0_6] 40 (0,0)))(H:qh.f k x x1c0_=some r):
    Cr 214 #[.slice A0_0 x.length c0_0,.func (.func 182) #[] #[.pointer (pb p1c0_)]] W (qh.Post W F r):=by
 have S:=sT hown
 unfold qh.f at H
 refine ent 19 rfl rfl rfl (fun a E=>?_)
 refine rr E fun a E=>(sq fun K2 hK2=>rr E fun a E=>(wp_block ?_))
 refine wp_loop_ghost (fun kq6 a w'=>∃(G:NV)(x4:Int),kq6≤k∧Env 19 G a∧At G [(0,.slice A0_0 x.length c0_0),(1,.func (.func 182) #[] #[.pointer (pb p1c0_)]),(7,iv (x.length:Int)),(8,iv x4)]∧Sm W F w' F []∧qh.l5 kq6 x x1c0_ x4=some r) k ⟨_,0,Nat.le_refl _,E,.of,S,H⟩ ?_
 rintro kq6 a u8 ⟨G,x4,hkq,E,A,S,H⟩
 obtain _ | k7:=kq6
 exact zz H
 rw [qh.l5_s]at H
 obtain ⟨J,E⟩:=E.at A
 refine rr E fun a E=>(sq fun K10 hK10=>E.ik 9 H (fun c11 E H=>?_) fun c11 E H=>?_)
 refine wp_skip (hK10 _ _ (sq fun K12 hK12=>wp_block (rr E fun a E=>(sq fun K14 hK14=>pl0 ?_))))
 obtain ⟨c15,H⟩:=gd H
 have hE_:=E
 obtain ⟨ad16,rfl⟩:=g0_0.addr c15.1 c15.2
 replace E:=hE_
 obtain ⟨cs18,⟨A20,c21,rfl,g22⟩,hc19⟩:=g0_0.el qD.z x4 c15.1 c15.2
 refine plc E (.r 0 3<|.x 3 c15<|.cs 4 (S.fcs hc19)<|.nil) (fun a E=>?_)
 obtain ⟨t24,h25,H⟩:=bd H
 refine plq E S en182 (qCJ.calls k7 (nth qD.z x x4) x1c0_ _ _ _ _ _ _ _ _ S.own.sub g22 g1c0_6 hp1c0_ h25) fun u23 S a E=>pld (hK14 _ _ (E.ib 16 H (fun c26 E H=>?_) fun c26 E H=>?_))
 refine rr E fun a E=>(wp_ret (qCo (qCn (qCn (qCo (qCn ?_))))))
 obtain rfl:=si H
 exact rt1 E ⟨_,rfl,_,rfl,S⟩
 refine wp_skip ?_
 refine qCp ?_
 refine hK12 _ _ (pl0 (plc E (.r 0 2 .nil) (fun a E=>pld ?_)))
 exact qCq ⟨k7,by omega,_,(w64 (x4+1)),by omega,E,.of,S,H⟩
 refine wp_exit ?_
 refine hK2 _ _ (rr E fun a E=>(wp_ret ?_))
 obtain rfl:=si H
 exact rt1 E ⟨_,rfl,_,rfl,S⟩
def qAG.f(k:Nat)(x:List qD)(x1c0_:qE):Option Bool:=(qh.f k x x1c0_).bind fun t4=>(some (decide (t4≥0)))
def qAG.Post(W F:World)(r:Bool)(v:Value)(w':World):Prop:=∃(F':World),v = .bool r∧Sm W F w' F' []
theorem qAG.calls(k:Nat)(x:List qD)(x1c0_:qE)(A0_0:OA)(c0_0:Nat)(p1c0_:Nat)(A1c0_6:OA)(c1c0_6:Nat)(r:Bool)(W F:World)(hown:Sub F W)(g0_0:Rd qD.k F A0_0 c0_0 x)(g1c0_6:Rd ki F A1c0_6 c1c0_6 x1c0_.f6)(hp1c0_:F.heap[p1c0_]? = some (.cells #[iv x1c0_.f0,iv x1c0_.f1,iv x1c0_.f2,iv x1c0_.f3,iv x1c0_.f4,iv x1c0_.f5,.slice A1c0_6 x1c0_.f6.length c1c0_6] 40 (0,0)))(H:qAG.f k x x1c0_=some r):
    Cr 181 #[.slice A0_0 x.length c0_0,.func (.func 182) #[] #[.pointer (pb p1c0_)]] W (qAG.Post W F r):=by
 have S:=sT hown
 unfold qAG.f at H
 refine ent 9 rfl rfl rfl (fun a E=>?_)
 refine rr E fun a E=>(sq fun K2 hK2=>pl0 (plc E (.r 0 2 .nil) (fun a E=>?_)))
 obtain ⟨t4,h5,H⟩:=bd H
 refine plq E S en214 (qh.calls k x x1c0_ _ _ _ _ _ _ _ _ S.own.sub g0_0 g1c0_6 hp1c0_ h5) fun u3 S a E=>plc E (.r 3 2 .nil) (fun a E=>pld (hK2 _ _ (wp_ret ?_)))
 obtain rfl:=si H
 exact rt1 E ⟨_,rfl,_,rfl,S⟩
def qAv.f(x:List qA)(y:Int)(p:Int):Option (List qA):=if 0≤y∧y≤p∧p≤(x.length:Int)∧x.length≤1000000 then some (x.take y.toNat++x.drop p.toNat) else none
def qAv.Post(x:List qA)(y:Int)(p:Int)(A0_0:OA)(c0_0:Nat)(W F:World)(r:List qA)(v:Value)(w':World):Prop:=∃(F':World)(RA0_0:OA)(rc0_0:Nat),v = .slice RA0_0 r.length rc0_0∧St W (mine W [row qA.k 104 (.slice A0_0 x.length c0_0) x]) F w' F' [row qA.k 104 (.slice RA0_0 r.length rc0_0) r]
set_option maxHeartbeats 4000000 in
set_option maxRecDepth 100000 in
theorem qAv.calls(x:List qA)(y:Int)(p:Int)(A0_0:OA)(c0_0:Nat)(r:List qA)(W F:World)(hown:Own W F [row qA.k 104 (.slice A0_0 x.length c0_0) x])(H:qAv.f x y p=some r):
    Cr 184 #[.slice A0_0 x.length c0_0,iv y,iv p] W (qAv.Post x y p A0_0 c0_0 W F r):=by
 have S:=St.start hown
 unfold qAv.f at H
 by_cases hc:0≤y∧y≤p∧p≤(x.length:Int)∧x.length≤1000000
 rotate_left
 ·
  rw [if_neg hc]at H; cases H
 rw [if_pos hc]at H
 have hr:=Option.some.inj H
 clear H
 obtain ⟨h0,h1,h2,hmax⟩:=hc
 obtain ⟨i,rfl⟩:∃ i:Nat,y=i:=⟨y.toNat,by omega⟩
 obtain ⟨j,rfl⟩:∃ j:Nat,p=j:=⟨p.toNat,by omega⟩
 simp only [Int.toNat_natCast]at hr
 have hxc:x.length≤c0_0∧c0_0≤maxLen:=by
  obtain ⟨_,q1,q2,_⟩:=qCr (S.row_at (i:=0) rfl)
  exact ⟨q1,q2⟩
 refine enter (n:=33) rfl rfl rfl (Nat.le_of_ble_eq_true rfl) (fun a E=>?_)
 refine rr E fun a E=>(rg E (.r 0 5<|.y 5 (qIg (e:=104) (z:=6) (A:=A0_0) (n:=x.length) (c:=c0_0) (kl:=.i64) (kh:=.i64) (km:=.i64) (lo:=(i:Int)) (hi:=(j:Int)) (mx:=(x.length:Int)) (by omega) (by omega) (by omega) (by omega)) .nil) fun a E=>(sq fun K2 hK2=>rr E fun a E=>?_))
 by_cases hij:(i:Int)=(j:Int)
 ·
  replace E:=E.et 16 hij
  refine ct E ?_
  obtain rfl:i=j:=by omega
  obtain rfl:x=r:=by rw [← hr,List.take_append_drop]
  refine rr E fun a E=>(wp_ret (qCn ?_))
  exact rt1 E ⟨_,rfl,F,_,_,rfl,S⟩
 replace E:=E.ef 16 hij
 refine cf E (wp_skip (hK2 _ _ ?_))
 have hE_:=E
 obtain ⟨g,cur,rfl,hsz,hrep,S⟩:=S.unrow (by omega)
 replace E:=hE_
 replace hsz:cur.size=c0_0 * 6:=hsz
 obtain ⟨inner,hin⟩:∃ inner,inner=cur.toList.take (x.length * 6):=⟨_,rfl⟩
 have hil:inner.length=x.length * 6:=by rw [hin]; exact hrep.1
 have hnz:x.length * 6≤c0_0 * 6:=Nat.mul_le_mul_right _ hxc.1
 have hjz:j * 6≤x.length * 6:=Nat.mul_le_mul_right _ (by omega)
 have hiz:i * 6≤j * 6:=Nat.mul_le_mul_right _ (by omega)
 have hidl:(inner.drop (j * 6)).length=(x.length - j) * 6:=by rw [List.length_drop,hil,Nat.sub_mul]
 have hrep2:RepsK qA.k F x inner:=by rw [hin]; exact hrep
 have hione:∀ u ∈ inner.drop (j * 6),u.oneCell'=true:=fun u hu=>hrep2.one u (List.mem_of_mem_drop hu)
 have higet:∀ q u,(inner.drop (j * 6))[q]? = some u→cur[j * 6+q]? = some u:=fun q u hq=>by
  rw [List.getElem?_drop,hin,List.getElem?_take]at hq
  split at hq
  ·
   rwa [Array.getElem?_toList]at hq
  ·
   cases hq
 refine rr E fun a E=>(sq fun K6 hK6=>?_)
 refine drawn 8 ⟨[6],[],fun q=>False⟩ mixed rfl (by kernel_rfl) (fun hst=>?_)
 replace S:=S.drew
 have hbg:=S.ba 0
 refine mny 2 hst E (.r 0 2<|.y 2 (y_hi (e:=104) (z:=6) (g:=g) (n:=x.length) (c:=c0_0) (k:=.i64) (hi:=(i:Int)) ⟨by omega,by omega⟩)<|.r 3 2<|.y 5 (qIh (e:=104) (z:=6) (g:=g) (n:=x.length) (c:=c0_0) (k:=.i64) (lo:=(j:Int)) ⟨by omega,by omega⟩) .nil) (fun a E=>?_)
 refine on1 6 E (.apf (e:=104) (g:=g) (i:=(i:Int).toNat) (m:=x.length - (j:Int).toNat) (c:=c0_0) (sc:=c0_0 - (j:Int).toNat) (z:=6) (bytes:=40) (sa:=if c0_0=(j:Int).toNat then some ⟨g,0,none⟩ else some ⟨g,(j:Int).toNat * 6,none⟩) S (inner.drop (j * 6)) (by rw [hidl,Int.toNat_natCast]) (fun hm=>⟨⟨g,j * 6,none⟩,by
      rw [Int.toNat_natCast]at hm ⊢
      rw [if_neg (by omega)],fun q u hq=>by rw [qDA]; exact qCx hbg (higet q u hq)⟩) hione (by
      rw [Int.toNat_natCast,hidl,hsz,Nat.sub_mul]
      omega) (by rw [Int.toNat_natCast,Int.toNat_natCast]; omega) (by kernel_rfl)) ?_
 rintro _ w1 a ⟨rfl,S,hz⟩ E
 refine ⟨.d,?_⟩
 refine mny 0 hst E (.r 7 1 .nil) (fun a E=>?_)
 refine dn ?_
 simp only [Int.toNat_natCast]at S E
 refine hK6 _ _ ?_
 have hlen:(x.take i++x.drop j++x.drop (i+(x.length - j))).length=x.length:=by
  rw [List.length_append,List.length_append,List.length_take,List.length_drop,List.length_drop]
  omega
 have hrr:=qGQ (d:=qA.k) (F:=F) (xs:=x) (i:=i) (j:=j) (cur:=cur.toList) hrep (by omega) (by omega) (by
    show x.length * 6≤cur.size
    rw [hsz]
    exact hnz)
 have hS2:=S.rerow (d:=qA.k) (c:=c0_0) (x.take i++x.drop j++x.drop (i+(x.length - j))) (by
    show (cur.toList.take (i * 6)++inner.drop (j * 6)++cur.toList.drop (i * 6+(inner.drop (j * 6)).length)).length=c0_0 * 6
    rw [List.length_append,List.length_append,hidl,List.length_take,List.length_drop,show cur.toList.length=c0_0 * 6 from hsz,Nat.sub_mul]
    omega) (by rw [hlen]; exact hxc.1) hxc.2 (by rw [hlen,hin]; exact hrr)
 rw [hlen]at hS2
 refine sq fun K7 hK7=>pl0 (plc E (.r 0 4<|.y 4 (y_mid (e:=104) (z:=6) (g:=g) (n:=i+(x.length - j)) (c:=c0_0) (k:=.i64) (k':=.i64) (lo:=((i+(x.length - j):Nat):Int)) (hi:=(x.length:Int)) (by omega) (by omega) (by omega) (by omega)) .nil) (fun a E=>ple E (.clr (d:=qA.k) (e:=104) (A:=some ⟨g,0,none⟩) (n:=x.length) (c:=c0_0) (c':=c0_0 - ((i+(x.length - j):Nat):Int).toNat) (A':=some ⟨g,((i+(x.length - j):Nat):Int).toNat * 6,none⟩) (lo:=((i+(x.length - j):Nat):Int)) 40 qA.z hS2 ⟨by omega,by omega⟩ (.inr ⟨g,rfl,rfl⟩) (by rw [zr104]; exact rfl)) ?_))
 rintro _ w2 a ⟨rfl,hS3,hz2⟩ E
 refine pld (hK7 _ _ (rr E fun a E=>(wp_ret ?_)))
 have hS4:=hS3.shrink (hi:=((i+(x.length - j):Nat):Int)) ⟨by omega,by omega⟩
 have hl1:(x.take i++x.drop j).length=i+(x.length - j):=by
  rw [List.length_append,List.length_take,List.length_drop]
  omega
 have hcut:∀ t:List qA,cutl ((x.take i++x.drop j++x.drop (i+(x.length - j))).take ((i+(x.length - j):Nat):Int).toNat++t) 0 ((i+(x.length - j):Nat):Int)=r:=by
  intro t
  unfold cutl
  have e1:(x.take i++x.drop j++x.drop (i+(x.length - j))).take (i+(x.length - j))=x.take i++x.drop j:=by
   rw [← hl1,List.take_left']
   rfl
  rw [Int.toNat_natCast,Int.toNat_zero,List.drop_zero,← hr,e1,← hl1,List.take_left']
  rfl
 rw [hcut]at hS4
 have hrl:r.length=i+(x.length - j):=by rw [← hr]; exact hl1
 rw [← hrl]at E
 exact rt1 E ⟨_,rfl,F,_,_,rfl,hS4⟩
mutual
def qBA.j45:Nat→qF→Int→qE→Bool→Option (qF × Int)
 | 0,_,_,_,_=>none
 | k+1,x,y,z,y44=>if y44=true then (if ((nth qA.z x.f4 y).f4)=(z.f0 == 3) then (some (x,7)) else (some ((⟨x.f0,x.f1,x.f2,x.f3,(x.f4.set (y).toNat (⟨(nth qA.z x.f4 y).f0,(nth qA.z x.f4 y).f1,(nth qA.z x.f4 y).f2,(nth qA.z x.f4 y).f3,(z.f0 == 3),(nth qA.z x.f4 y).f5⟩:qA)),x.f5,x.f6⟩:qF),0))) else (if z.f0=5 then (qBA.j64 k x y z true) else (qBA.j64 k x y z (z.f0 == 6)))
def qBA.j64:Nat→qF→Int→qE→Bool→Option (qF × Int)
 | 0,_,_,_,_=>none
 | k+1,x,y,z,y63=>if y63=true then (if ((nth qA.z x.f4 y).f5)=(z.f0 == 6) then (some (x,7)) else (some ((⟨x.f0,x.f1,x.f2,x.f3,(x.f4.set (y).toNat (⟨(nth qA.z x.f4 y).f0,(nth qA.z x.f4 y).f1,(nth qA.z x.f4 y).f2,(nth qA.z x.f4 y).f3,(nth qA.z x.f4 y).f4,(z.f0 == 6)⟩:qA)),x.f5,x.f6⟩:qF),0))) else ((qAG.f k x.f5 z).bind fun t81=>(if ((nth qA.z x.f4 y).f4)=true then (qBA.j103 k x y true) else (if ((nth qA.z x.f4 y).f5)=true then (if (nth qA.z x.f4 y).f3>0 then (qBA.j103 k x y true) else (if t81=true then (qBA.j103 k x y true) else ((qBy.f k x z.f1).bind fun t96=>(qBA.j103 k x y t96)))) else (if t81=true then (qBA.j103 k x y true) else ((qBy.f k x z.f1).bind fun t100=>(qBA.j103 k x y t100))))))
def qBA.j103:Nat→qF→Int→Bool→Option (qF × Int)
 | 0,_,_,_=>none
 | k+1,x,y,y102=>if y102=true then (some (x,11)) else ((qAv.f x.f4 y (w64 (y+1))).bind fun t113=>(some ((⟨x.f0,x.f1,x.f2,x.f3,t113,x.f5,x.f6⟩:qF),0)))
end
theorem qBA.j45_s k x y z y44:type_of% (qBA.j45.eq_2 x y z y44 k):=qBA.j45.eq_2 x y z y44 k
theorem qBA.j64_s k x y z y63:type_of% (qBA.j64.eq_2 x y z y63 k):=qBA.j64.eq_2 x y z y63 k
theorem qBA.j103_s k x y y102:type_of% (qBA.j103.eq_2 x y y102 k):=qBA.j103.eq_2 x y y102 k
def qBA.f(k:Nat)(x:qF)(y:Int)(z:qE):Option (qF × Int):=if 0≤y∧y<(x.f4.length:Int) then (if z.f0=2 then ((qBZ.f z.f4 0 65536).bind fun t22=>(if t22=true then (if (nth qA.z x.f4 y).f3=z.f4 then (some (x,7)) else (some ((⟨x.f0,x.f1,x.f2,x.f3,(x.f4.set (y).toNat (⟨(nth qA.z x.f4 y).f0,(nth qA.z x.f4 y).f1,(nth qA.z x.f4 y).f2,z.f4,(nth qA.z x.f4 y).f4,(nth qA.z x.f4 y).f5⟩:qA)),x.f5,x.f6⟩:qF),0))) else (some (x,1)))) else (if z.f0=3 then (qBA.j45 k x y z true) else (qBA.j45 k x y z (z.f0 == 4)))) else (none)
def qBA.Post(x:qF)(y:Int)(z:qE)(A0_4:OA)(c0_4:Nat)(A0_5:OA)(c0_5:Nat)(A0_6:OA)(c0_6:Nat)(A2_6:OA)(c2_6:Nat)(W F:World)(r:qF × Int)(v:Value)(w':World):Prop:=∃(F':World)(RA0_4:OA)(rc0_4:Nat)(RA0_5:OA)(rc0_5:Nat)(RA0_6:OA)(rc0_6:Nat),v = .tuple #[.agg #[iv r.1.f0,iv r.1.f1,iv r.1.f2,iv r.1.f3,.slice RA0_4 r.1.f4.length rc0_4,.slice RA0_5 r.1.f5.length rc0_5,.slice RA0_6 r.1.f6.length rc0_6],iv r.2]∧St W (mine W [row qA.k 104 (.slice A0_4 x.f4.length c0_4) x.f4]) F w' F' [row qA.k 104 (.slice RA0_4 r.1.f4.length rc0_4) r.1.f4]∧Rd qD.k F' RA0_5 rc0_5 r.1.f5∧Rd qC.k F' RA0_6 rc0_6 r.1.f6
theorem qBA.calls(k:Nat)(x:qF)(y:Int)(z:qE)(A0_4:OA)(c0_4:Nat)(A0_5:OA)(c0_5:Nat)(A0_6:OA)(c0_6:Nat)(A2_6:OA)(c2_6:Nat)(r:qF × Int)(W F:World)(hown:Own W F [row qA.k 104 (.slice A0_4 x.f4.length c0_4) x.f4])(g0_5:Rd qD.k F A0_5 c0_5 x.f5)(g0_6:Rd qC.k F A0_6 c0_6 x.f6)(g2_6:Rd ki F A2_6 c2_6 z.f6)(H:qBA.f k x y z=some r):
    Cr 136 #[.agg #[iv x.f0,iv x.f1,iv x.f2,iv x.f3,.slice A0_4 x.f4.length c0_4,.slice A0_5 x.f5.length c0_5,.slice A0_6 x.f6.length c0_6],iv y,.agg #[iv z.f0,iv z.f1,iv z.f2,iv z.f3,iv z.f4,iv z.f5,.slice A2_6 z.f6.length c2_6]] W (qBA.Post x y z A0_4 c0_4 A0_5 c0_5 A0_6 c0_6 A2_6 c2_6 W F r):=by
 have S:=St.start hown
 obtain ⟨N,hN⟩:∃ N,N=mine W [row qA.k 104 (.slice A0_4 x.f4.length c0_4) x.f4]:=⟨_,rfl⟩
 rw [← hN]at S
 unfold qBA.f at H
 refine ent 98 rfl rfl rfl (fun a E=>?_)
 refine sq fun K1 hK1=>pl0 (plx (t:=26) E S [iv x.f0,iv x.f1,iv x.f2,iv x.f3,.slice A0_4 x.f4.length c0_4,.slice A0_5 x.f5.length c0_5,.slice A0_6 x.f6.length c0_6] fun b2 u3 hb2 S a E=>plx (t:=40) E S [iv z.f0,iv z.f1,iv z.f2,iv z.f3,iv z.f4,iv z.f5,.slice A2_6 z.f6.length c2_6] fun b4 u5 hb4 S a E=>pla (t:=26) E S [iv 0,iv 0,iv 0,iv 0,.slice none 0 0,.slice none 0 0,.slice none 0 0] fun b6 u7 hb6 S a E=>plc E (.r 3 1 .nil) (fun a E=>pld (hK1 _ _ (sq fun K8 hK8=>pl0 ?_))))
 have hb2:=S.ba 2
 obtain ⟨c9,H⟩:=gd H
 have hr10:=S.ra 3
 have hE_:=E
 obtain ⟨b11,rfl⟩:=qCv hr10 c9.1 c9.2
 replace E:=hE_
 have hr_:=S.ra 3
 obtain ⟨cs13,rfl,hc14⟩:=qCs hr_ qA.z y c9.1 c9.2
 refine plc E (.r 0 1<|.b 1 4 hb2<|.r 2 1<|.x 3 c9<|.r 4 1<|.nil) (fun a E=>pld (hK8 _ _ (sq fun K15 hK15=>sq fun K16 hK16=>pl0 ?_)))
 have hb4:=S.ba 1
 refine plc E (.r 0 1<|.b 1 0 hb4<|.nil) (fun a E=>pld (hK16 _ _ (wp_block (rr E fun a E=>(E.ik 16 H (fun c18 E H=>?_) fun c18 E H=>?_)))))
 refine sq fun K19 hK19=>sq fun K20 hK20=>pl0 (plc E (.r 0 1<|.b 1 4 hb4<|.nil) (fun a E=>?_))
 obtain ⟨t22,h23,H⟩:=bd H
 refine plq E S en70 (qBZ.calls z.f4 0 65536 _ _ _ S.own.sub h23) fun u21 S a E=>plc E (.r 3 1 .nil) (fun a E=>pld (hK20 _ _ (E.ibn 21 H (fun c24 E H=>?_) fun c24 E H=>?_)))
 refine wp_skip (hK19 _ _ (sq fun K27 hK27=>sq fun K28 hK28=>?_))
 refine drawn 7 ⟨[],[],fun q=>False⟩ mixed rfl (by kernel_rfl) (fun hst=>?_)
 replace S:=S.drew
 obtain ⟨cs29,rfl,hc30⟩:=qCs (S.row_at (i:=3) rfl) qA.z y c9.1 c9.2
 have hb4:=S.ba 1
 refine mny 0 hst E (.r 0 3<|.c 3 (hc30 3 _ rfl)<|.r 4 1<|.b 5 4 hb4<|.r 6 1<|.nil) (fun a E=>?_)
 refine dn ?_
 refine hK28 _ _ (E.ik 29 H (fun c31 E H=>?_) fun c31 E H=>?_)
 refine sq fun K32 hK32=>pl0 (plc E (.bn 0 0 7 (S.ba 2) .nil) (fun a E=>pls E S [iv x.f0,iv x.f1,iv x.f2,iv x.f3,.slice (pb b11) x.f4.length c0_4,.slice A0_5 x.f5.length c0_5,.slice A0_6 x.f6.length c0_6] fun u33 hb6 S a E=>plc E (.r 2 1 .nil) (fun a E=>pld (hK32 _ _ (wp_ret (qCn (qCo (qCn ?_))))))))
 replace S:=S.pm [] 3
 rw [hN]at S
 obtain rfl:=si H
 exact rtm E (.b hb6 ag26 sz26 (.t .nil)) ⟨_,rfl,_,_,_,_,_,_,_,rfl,S,g0_5,g0_6⟩
 refine wp_skip (hK27 _ _ (sq fun K34 hK34=>pl0 (plc E (.r 0 2<|.b 2 4 hb4<|.r 3 2<|.nil) (fun a E=>?_))))
 replace S:=S.front 3 rfl
 obtain ⟨cs36,rfl,hc37⟩:=qCs (S.row_at (i:=0) rfl) qA.z y c9.1 c9.2
 refine ple E (.set (d:=qA.k) (n:=x.f4.length) (i:=y) (⟨(nth qA.z x.f4 y).f0,(nth qA.z x.f4 y).f1,(nth qA.z x.f4 y).f2,z.f4,(nth qA.z x.f4 y).f4,(nth qA.z x.f4 y).f5⟩:qA) 3 (ea1 _ _ _) S c9 [iv ((nth qA.z x.f4 y).f0),iv ((nth qA.z x.f4 y).f1),iv ((nth qA.z x.f4 y).f2),iv ((nth qA.z x.f4 y).f3),.bool ((nth qA.z x.f4 y).f4),.bool ((nth qA.z x.f4 y).f5)] hc37 [iv ((nth qA.z x.f4 y).f0),iv ((nth qA.z x.f4 y).f1),iv ((nth qA.z x.f4 y).f2),iv z.f4,.bool ((nth qA.z x.f4 y).f4),.bool ((nth qA.z x.f4 y).f5)] rfl) ?_
 rintro _ u35 a ⟨rfl,S,hz⟩ E
 refine pld (hK34 _ _ (sq fun K38 hK38=>pl0 (plc E (.bn 0 0 7 (S.ba 3) .nil) (fun a E=>?_))))
 replace S:=S.front 1 rfl
 refine pls E S [iv x.f0,iv x.f1,iv x.f2,iv x.f3,.slice (pb b11) x.f4.length c0_4,.slice A0_5 x.f5.length c0_5,.slice A0_6 x.f6.length c0_6] fun u39 hb6 S a E=>plc E (.r 2 1 .nil) (fun a E=>pld (hK38 _ _ (wp_ret (qCo (qCn ?_)))))
 have hn40:=(qCr (S.row_at (i:=1) rfl)).1
 replace S:St W N F u39 F [box b6 #[iv x.f0,iv x.f1,iv x.f2,iv x.f3,.slice (pb b11) ((x.f4.set (y).toNat (⟨(nth qA.z x.f4 y).f0,(nth qA.z x.f4 y).f1,(nth qA.z x.f4 y).f2,z.f4,(nth qA.z x.f4 y).f4,(nth qA.z x.f4 y).f5⟩:qA)).length) c0_4,.slice A0_5 x.f5.length c0_5,.slice A0_6 x.f6.length c0_6] 26,row qA.k 104 (.slice (pb b11) ((x.f4.set (y).toNat (⟨(nth qA.z x.f4 y).f0,(nth qA.z x.f4 y).f1,(nth qA.z x.f4 y).f2,z.f4,(nth qA.z x.f4 y).f4,(nth qA.z x.f4 y).f5⟩:qA)).length) c0_4) (x.f4.set (y).toNat (⟨(nth qA.z x.f4 y).f0,(nth qA.z x.f4 y).f1,(nth qA.z x.f4 y).f2,z.f4,(nth qA.z x.f4 y).f4,(nth qA.z x.f4 y).f5⟩:qA)),box b4 #[iv z.f0,iv z.f1,iv z.f2,iv z.f3,iv z.f4,iv z.f5,.slice A2_6 z.f6.length c2_6] 40,box b2 #[iv x.f0,iv x.f1,iv x.f2,iv x.f3,.slice (pb b11) ((x.f4.set (y).toNat (⟨(nth qA.z x.f4 y).f0,(nth qA.z x.f4 y).f1,(nth qA.z x.f4 y).f2,z.f4,(nth qA.z x.f4 y).f4,(nth qA.z x.f4 y).f5⟩:qA)).length) c0_4,.slice A0_5 x.f5.length c0_5,.slice A0_6 x.f6.length c0_6] 26]:=by rw [← hn40]; exact S
 have hb6:=S.ba 0
 replace S:=S.pm [1] 4
 rw [hN]at S
 obtain rfl:=si H
 exact rtm E (.b hb6 ag26 sz26 (.t .nil)) ⟨_,rfl,_,_,_,_,_,_,_,rfl,S,g0_5,g0_6⟩
 refine sq fun K25 hK25=>pl0 (plc E (.bn 0 0 7 (S.ba 2) .nil) (fun a E=>pls E S [iv x.f0,iv x.f1,iv x.f2,iv x.f3,.slice (pb b11) x.f4.length c0_4,.slice A0_5 x.f5.length c0_5,.slice A0_6 x.f6.length c0_6] fun u26 hb6 S a E=>plc E (.r 2 1 .nil) (fun a E=>pld (hK25 _ _ (wp_ret (qCn (qCo (qCn ?_))))))))
 replace S:=S.pm [] 3
 rw [hN]at S
 obtain rfl:=si H
 exact rtm E (.b hb6 ag26 sz26 (.t .nil)) ⟨_,rfl,_,_,_,_,_,_,_,rfl,S,g0_5,g0_6⟩
 refine sq fun K41 hK41=>?_
 have J48:∀ kq46,kq46≤k→∀(G:NV)(y44:Bool)(a:Act)(w':World),Env 98 G a→At G [(1,iv y),(3,.pointer (pb b2)),(5,.pointer (pb b4)),(6,.pointer (pb b6)),(8,.pointer (some ((⟨b11,0,none⟩:Addr).add (y.toNat * 6)))),(15,iv z.f0),(37,.bool y44)]→St W N F w' F [box b6 #[iv 0,iv 0,iv 0,iv 0,.slice none 0 0,.slice none 0 0,.slice none 0 0] 26,box b4 #[iv z.f0,iv z.f1,iv z.f2,iv z.f3,iv z.f4,iv z.f5,.slice A2_6 z.f6.length c2_6] 40,box b2 #[iv x.f0,iv x.f1,iv x.f2,iv x.f3,.slice (pb b11) x.f4.length c0_4,.slice A0_5 x.f5.length c0_5,.slice A0_6 x.f6.length c0_6] 26,row qA.k 104 (.slice (pb b11) x.f4.length c0_4) x.f4]→qBA.j45 kq46 x y z y44=some r→K41 a w':=by
  intro kq46 hkq G y44 a u49 E A S H
  obtain _ | k47:=kq46
  exact zz H
  rw [qBA.j45_s]at H
  obtain ⟨J,E⟩:=E.at A
  refine hK41 _ _ (E.ib 37 H (fun c50 E H=>?_) fun c50 E H=>?_)
  refine sq fun K51 hK51=>?_
  refine drawn 10 ⟨[7,8],[7],fun q=>q=b11⟩ mixed rfl (by kernel_rfl) (fun hst=>?_)
  replace S:=S.drew
  have ne52:¬ (b2=b11):=by intro h; exact S.ne_row (i:=2) (j:=3) rfl rfl (by decide) h
  have hb2:=S.ba 2
  have hb4:=S.ba 1
  refine mny 3 hst E (.bnX 0 0 7 hb2 ne52<|.r 1 4<|.b 5 0 hb4<|.r 6 1<|.nil) (fun a E=>?_)
  replace S:=S.front 3 rfl
  obtain ⟨cs53,rfl,hc54⟩:=qCs (S.row_at (i:=0) rfl) qA.z y c9.1 c9.2
  rcases sp H with ⟨c56,H⟩ | ⟨c56,H⟩
  refine on1 7 E (.cl en180 (qCk.same (z.f0 == 3) _ _ (hc54 4 _ rfl) c56)) ?_
  rintro _ _ a ⟨rfl,rfl⟩ E
  refine ⟨.of (Agr.refl _),?_⟩
  replace S:=S.front 1 rfl
  refine on1 8 E (.sto S [iv x.f0,iv x.f1,iv x.f2,iv x.f3,.slice (pb b11) x.f4.length c0_4,.slice A0_5 x.f5.length c0_5,.slice A0_6 x.f6.length c0_6]) ?_
  rintro _ u57 a ⟨rfl,hb6,S,hz⟩ E
  refine ⟨.d,?_⟩
  refine mny 0 hst E (.r 9 1 .nil) (fun a E=>?_)
  refine dn ?_
  refine hK51 _ _ (wp_ret (qCo (qCn ?_)))
  replace S:=S.pm [1] 4
  rw [hN]at S
  obtain rfl:=si H
  exact rtm E (.b hb6 ag26 sz26 (.t .nil)) ⟨_,rfl,_,_,_,_,_,_,_,rfl,S,g0_5,g0_6⟩
  refine on1 7 E (.cl en180 (qCk.turn (n:=x.f4.length) (i:=y) S (⟨(nth qA.z x.f4 y).f0,(nth qA.z x.f4 y).f1,(nth qA.z x.f4 y).f2,(nth qA.z x.f4 y).f3,(z.f0 == 3),(nth qA.z x.f4 y).f5⟩:qA) 4 c9 [iv ((nth qA.z x.f4 y).f0),iv ((nth qA.z x.f4 y).f1),iv ((nth qA.z x.f4 y).f2),iv ((nth qA.z x.f4 y).f3),.bool ((nth qA.z x.f4 y).f4),.bool ((nth qA.z x.f4 y).f5)] hc54 ((nth qA.z x.f4 y).f4) (z.f0 == 3) [iv ((nth qA.z x.f4 y).f0),iv ((nth qA.z x.f4 y).f1),iv ((nth qA.z x.f4 y).f2),iv ((nth qA.z x.f4 y).f3),.bool (z.f0 == 3),.bool ((nth qA.z x.f4 y).f5)] rfl rfl c56)) ?_
  rintro _ u55 a ⟨rfl,S,hX⟩ E
  refine ⟨.c hX,?_⟩
  replace S:=S.front 1 rfl
  refine on1 8 E (.sto S [iv x.f0,iv x.f1,iv x.f2,iv x.f3,.slice (pb b11) x.f4.length c0_4,.slice A0_5 x.f5.length c0_5,.slice A0_6 x.f6.length c0_6]) ?_
  rintro _ u58 a ⟨rfl,hb6,S,hz⟩ E
  refine ⟨.d,?_⟩
  refine mny 0 hst E (.r 9 1 .nil) (fun a E=>?_)
  refine dn ?_
  refine hK51 _ _ (wp_ret (qCo (qCn ?_)))
  have hn59:=(qCr (S.row_at (i:=1) rfl)).1
  replace S:St W N F u58 F [box b6 #[iv x.f0,iv x.f1,iv x.f2,iv x.f3,.slice (pb b11) ((x.f4.set (y).toNat (⟨(nth qA.z x.f4 y).f0,(nth qA.z x.f4 y).f1,(nth qA.z x.f4 y).f2,(nth qA.z x.f4 y).f3,(z.f0 == 3),(nth qA.z x.f4 y).f5⟩:qA)).length) c0_4,.slice A0_5 x.f5.length c0_5,.slice A0_6 x.f6.length c0_6] 26,row qA.k 104 (.slice (pb b11) ((x.f4.set (y).toNat (⟨(nth qA.z x.f4 y).f0,(nth qA.z x.f4 y).f1,(nth qA.z x.f4 y).f2,(nth qA.z x.f4 y).f3,(z.f0 == 3),(nth qA.z x.f4 y).f5⟩:qA)).length) c0_4) (x.f4.set (y).toNat (⟨(nth qA.z x.f4 y).f0,(nth qA.z x.f4 y).f1,(nth qA.z x.f4 y).f2,(nth qA.z x.f4 y).f3,(z.f0 == 3),(nth qA.z x.f4 y).f5⟩:qA)),box b4 #[iv z.f0,iv z.f1,iv z.f2,iv z.f3,iv z.f4,iv z.f5,.slice A2_6 z.f6.length c2_6] 40,box b2 #[iv x.f0,iv x.f1,iv x.f2,iv x.f3,.slice (pb b11) ((x.f4.set (y).toNat (⟨(nth qA.z x.f4 y).f0,(nth qA.z x.f4 y).f1,(nth qA.z x.f4 y).f2,(nth qA.z x.f4 y).f3,(z.f0 == 3),(nth qA.z x.f4 y).f5⟩:qA)).length) c0_4,.slice A0_5 x.f5.length c0_5,.slice A0_6 x.f6.length c0_6] 26]:=by rw [← hn59]; exact S
  have hb6:=S.ba 0
  replace S:=S.pm [1] 4
  rw [hN]at S
  obtain rfl:=si H
  exact rtm E (.b hb6 ag26 sz26 (.t .nil)) ⟨_,rfl,_,_,_,_,_,_,_,rfl,S,g0_5,g0_6⟩
  refine sq fun K60 hK60=>?_
  have J67:∀ kq65,kq65≤k47→∀(G:NV)(y63:Bool)(a:Act)(w':World),Env 98 G a→At G [(1,iv y),(3,.pointer (pb b2)),(5,.pointer (pb b4)),(6,.pointer (pb b6)),(8,.pointer (some ((⟨b11,0,none⟩:Addr).add (y.toNat * 6)))),(48,.bool y63)]→St W N F w' F [box b6 #[iv 0,iv 0,iv 0,iv 0,.slice none 0 0,.slice none 0 0,.slice none 0 0] 26,box b4 #[iv z.f0,iv z.f1,iv z.f2,iv z.f3,iv z.f4,iv z.f5,.slice A2_6 z.f6.length c2_6] 40,box b2 #[iv x.f0,iv x.f1,iv x.f2,iv x.f3,.slice (pb b11) x.f4.length c0_4,.slice A0_5 x.f5.length c0_5,.slice A0_6 x.f6.length c0_6] 26,row qA.k 104 (.slice (pb b11) x.f4.length c0_4) x.f4]→qBA.j64 kq65 x y z y63=some r→K60 a w':=by
   intro kq65 hkq G y63 a u68 E A S H
   obtain _ | k66:=kq65
   exact zz H
   rw [qBA.j64_s]at H
   obtain ⟨J,E⟩:=E.at A
   refine hK60 _ _ (E.ib 48 H (fun c69 E H=>?_) fun c69 E H=>?_)
   refine sq fun K70 hK70=>?_
   refine drawn 10 ⟨[7,8],[7],fun q=>q=b11⟩ mixed rfl (by kernel_rfl) (fun hst=>?_)
   replace S:=S.drew
   have ne71:¬ (b2=b11):=by intro h; exact S.ne_row (i:=2) (j:=3) rfl rfl (by decide) h
   have hb2:=S.ba 2
   have hb4:=S.ba 1
   refine mny 3 hst E (.bnX 0 0 7 hb2 ne71<|.r 1 4<|.b 5 0 hb4<|.r 6 1<|.nil) (fun a E=>?_)
   replace S:=S.front 3 rfl
   obtain ⟨cs72,rfl,hc73⟩:=qCs (S.row_at (i:=0) rfl) qA.z y c9.1 c9.2
   rcases sp H with ⟨c75,H⟩ | ⟨c75,H⟩
   refine on1 7 E (.cl en180 (qCk.same (z.f0 == 6) _ _ (hc73 5 _ rfl) c75)) ?_
   rintro _ _ a ⟨rfl,rfl⟩ E
   refine ⟨.of (Agr.refl _),?_⟩
   replace S:=S.front 1 rfl
   refine on1 8 E (.sto S [iv x.f0,iv x.f1,iv x.f2,iv x.f3,.slice (pb b11) x.f4.length c0_4,.slice A0_5 x.f5.length c0_5,.slice A0_6 x.f6.length c0_6]) ?_
   rintro _ u76 a ⟨rfl,hb6,S,hz⟩ E
   refine ⟨.d,?_⟩
   refine mny 0 hst E (.r 9 1 .nil) (fun a E=>?_)
   refine dn ?_
   refine hK70 _ _ (wp_ret (qCo (qCn ?_)))
   replace S:=S.pm [1] 4
   rw [hN]at S
   obtain rfl:=si H
   exact rtm E (.b hb6 ag26 sz26 (.t .nil)) ⟨_,rfl,_,_,_,_,_,_,_,rfl,S,g0_5,g0_6⟩
   refine on1 7 E (.cl en180 (qCk.turn (n:=x.f4.length) (i:=y) S (⟨(nth qA.z x.f4 y).f0,(nth qA.z x.f4 y).f1,(nth qA.z x.f4 y).f2,(nth qA.z x.f4 y).f3,(nth qA.z x.f4 y).f4,(z.f0 == 6)⟩:qA) 5 c9 [iv ((nth qA.z x.f4 y).f0),iv ((nth qA.z x.f4 y).f1),iv ((nth qA.z x.f4 y).f2),iv ((nth qA.z x.f4 y).f3),.bool ((nth qA.z x.f4 y).f4),.bool ((nth qA.z x.f4 y).f5)] hc73 ((nth qA.z x.f4 y).f5) (z.f0 == 6) [iv ((nth qA.z x.f4 y).f0),iv ((nth qA.z x.f4 y).f1),iv ((nth qA.z x.f4 y).f2),iv ((nth qA.z x.f4 y).f3),.bool ((nth qA.z x.f4 y).f4),.bool (z.f0 == 6)] rfl rfl c75)) ?_
   rintro _ u74 a ⟨rfl,S,hX⟩ E
   refine ⟨.c hX,?_⟩
   replace S:=S.front 1 rfl
   refine on1 8 E (.sto S [iv x.f0,iv x.f1,iv x.f2,iv x.f3,.slice (pb b11) x.f4.length c0_4,.slice A0_5 x.f5.length c0_5,.slice A0_6 x.f6.length c0_6]) ?_
   rintro _ u77 a ⟨rfl,hb6,S,hz⟩ E
   refine ⟨.d,?_⟩
   refine mny 0 hst E (.r 9 1 .nil) (fun a E=>?_)
   refine dn ?_
   refine hK70 _ _ (wp_ret (qCo (qCn ?_)))
   have hn78:=(qCr (S.row_at (i:=1) rfl)).1
   replace S:St W N F u77 F [box b6 #[iv x.f0,iv x.f1,iv x.f2,iv x.f3,.slice (pb b11) ((x.f4.set (y).toNat (⟨(nth qA.z x.f4 y).f0,(nth qA.z x.f4 y).f1,(nth qA.z x.f4 y).f2,(nth qA.z x.f4 y).f3,(nth qA.z x.f4 y).f4,(z.f0 == 6)⟩:qA)).length) c0_4,.slice A0_5 x.f5.length c0_5,.slice A0_6 x.f6.length c0_6] 26,row qA.k 104 (.slice (pb b11) ((x.f4.set (y).toNat (⟨(nth qA.z x.f4 y).f0,(nth qA.z x.f4 y).f1,(nth qA.z x.f4 y).f2,(nth qA.z x.f4 y).f3,(nth qA.z x.f4 y).f4,(z.f0 == 6)⟩:qA)).length) c0_4) (x.f4.set (y).toNat (⟨(nth qA.z x.f4 y).f0,(nth qA.z x.f4 y).f1,(nth qA.z x.f4 y).f2,(nth qA.z x.f4 y).f3,(nth qA.z x.f4 y).f4,(z.f0 == 6)⟩:qA)),box b4 #[iv z.f0,iv z.f1,iv z.f2,iv z.f3,iv z.f4,iv z.f5,.slice A2_6 z.f6.length c2_6] 40,box b2 #[iv x.f0,iv x.f1,iv x.f2,iv x.f3,.slice (pb b11) ((x.f4.set (y).toNat (⟨(nth qA.z x.f4 y).f0,(nth qA.z x.f4 y).f1,(nth qA.z x.f4 y).f2,(nth qA.z x.f4 y).f3,(nth qA.z x.f4 y).f4,(z.f0 == 6)⟩:qA)).length) c0_4,.slice A0_5 x.f5.length c0_5,.slice A0_6 x.f6.length c0_6] 26]:=by rw [← hn78]; exact S
   have hb6:=S.ba 0
   replace S:=S.pm [1] 4
   rw [hN]at S
   obtain rfl:=si H
   exact rtm E (.b hb6 ag26 sz26 (.t .nil)) ⟨_,rfl,_,_,_,_,_,_,_,rfl,S,g0_5,g0_6⟩
   refine wp_skip ?_
   refine qCp ?_
   refine hK15 _ _ (sq fun K79 hK79=>pl0 ?_)
   have hb2:=S.ba 2
   refine plc E (.r 0 1<|.b 1 5 hb2<|.r 2 1<|.nil) (fun a E=>?_)
   obtain ⟨t81,h82,H⟩:=bd H
   refine plq E S en181 (qAG.calls k66 x.f5 z _ _ _ _ _ _ _ _ (Sub.refl _) (g0_5.mono S.own.sub) (g2_6.mono S.own.sub) (S.ba 1) h82) fun u80 S a E=>plc E (.r 4 1 .nil) (fun a E=>pld (hK79 _ _ (sq fun K83 hK83=>sq fun K84 hK84=>?_)))
   have J106:∀ kq104,kq104≤k66→∀(G:NV)(y102:Bool)(a:Act)(w':World),Env 98 G a→At G [(1,iv y),(3,.pointer (pb b2)),(6,.pointer (pb b6)),(88,.bool y102)]→St W N F w' F [box b6 #[iv 0,iv 0,iv 0,iv 0,.slice none 0 0,.slice none 0 0,.slice none 0 0] 26,box b4 #[iv z.f0,iv z.f1,iv z.f2,iv z.f3,iv z.f4,iv z.f5,.slice A2_6 z.f6.length c2_6] 40,box b2 #[iv x.f0,iv x.f1,iv x.f2,iv x.f3,.slice (pb b11) x.f4.length c0_4,.slice A0_5 x.f5.length c0_5,.slice A0_6 x.f6.length c0_6] 26,row qA.k 104 (.slice (pb b11) x.f4.length c0_4) x.f4]→qBA.j103 kq104 x y y102=some r→K84 a w':=by
    intro kq104 hkq G y102 a u107 E A S H
    obtain _ | k105:=kq104
    exact zz H
    rw [qBA.j103_s]at H
    obtain ⟨J,E⟩:=E.at A
    refine hK84 _ _ (E.ib 88 H (fun c108 E H=>?_) fun c108 E H=>?_)
    refine sq fun K109 hK109=>pl0 (plc E (.bn 0 0 7 (S.ba 2) .nil) (fun a E=>pls E S [iv x.f0,iv x.f1,iv x.f2,iv x.f3,.slice (pb b11) x.f4.length c0_4,.slice A0_5 x.f5.length c0_5,.slice A0_6 x.f6.length c0_6] fun u110 hb6 S a E=>plc E (.r 2 1 .nil) (fun a E=>pld (hK109 _ _ (wp_ret (qCn ?_))))))
    replace S:=S.pm [] 3
    rw [hN]at S
    obtain rfl:=si H
    exact rtm E (.b hb6 ag26 sz26 (.t .nil)) ⟨_,rfl,_,_,_,_,_,_,_,rfl,S,g0_5,g0_6⟩
    refine wp_skip (hK83 _ _ (sq fun K111 hK111=>pl0 (plc E (.r 0 1<|.b 1 4 (S.ba 2)<|.r 2 3<|.nil) (fun a E=>?_))))
    replace S:=S.front 3 rfl
    obtain ⟨t113,h114,H⟩:=bd H
    refine ple E (.cl en184 (qAv.calls x.f4 y (w64 (y+1)) _ _ _ _ _ (Own.left (X:=[row qA.k 104 (.slice (pb b11) x.f4.length c0_4) x.f4]) S.own) h114)) ?_
    rintro _ u112 a ⟨F115,A116,c117,rfl,hC⟩ E
    have hs:=hC.sub
    replace S:=S.called (X:=[row qA.k 104 (.slice (pb b11) x.f4.length c0_4) x.f4]) hC
    replace g2_6:=g2_6.mono hs
    replace g0_5:=g0_5.mono hs
    replace g0_6:=g0_6.mono hs
    refine plc E (.r 6 1 .nil) (fun a E=>?_)
    replace S:=S.front 3 rfl
    refine pls E S [iv x.f0,iv x.f1,iv x.f2,iv x.f3,.slice A116 t113.length c117,.slice A0_5 x.f5.length c0_5,.slice A0_6 x.f6.length c0_6] fun u120 hb2 S a E=>pld (hK111 _ _ (sq fun K121 hK121=>pl0 (plc E (.bn 0 0 7 hb2 .nil) (fun a E=>?_))))
    replace S:=S.front 2 rfl
    refine pls E S [iv x.f0,iv x.f1,iv x.f2,iv x.f3,.slice A116 t113.length c117,.slice A0_5 x.f5.length c0_5,.slice A0_6 x.f6.length c0_6] fun u122 hb6 S a E=>plc E (.r 2 1 .nil) (fun a E=>pld (hK121 _ _ (wp_ret ?_)))
    replace S:=S.pm [2] 4
    rw [hN]at S
    obtain rfl:=si H
    exact rtm E (.b hb6 ag26 sz26 (.t .nil)) ⟨_,rfl,_,_,_,_,_,_,_,rfl,S,g0_5,g0_6⟩
   refine pl0 ?_
   obtain ⟨cs85,rfl,hc86⟩:=qCs (S.row_at (i:=3) rfl) qA.z y c9.1 c9.2
   refine plc E (.r 0 3<|.c 3 (hc86 4 _ rfl)<|.r 4 1<|.nil) (fun a E=>E.fb 67 H (fun c87 E H=>?_) fun c87 E H=>?_)
   refine plc E (.r 5 21 .nil) (fun a E=>pld ?_)
   exact J106 _ (by omega) _ true _ _ E .of S H
   obtain ⟨cs88,rfl,hc89⟩:=qCs (S.row_at (i:=3) rfl) qA.z y c9.1 c9.2
   refine plc E (.r 5 3<|.c 8 (hc89 5 _ rfl)<|.r 9 1<|.nil) (fun a E=>E.fb 72 H (fun c90 E H=>?_) fun c90 E H=>?_)
   obtain ⟨cs91,rfl,hc92⟩:=qCs (S.row_at (i:=3) rfl) qA.z y c9.1 c9.2
   refine plc E (.r 10 3<|.c 13 (hc92 3 _ rfl)<|.r 14 4<|.nil) (fun a E=>E.fk 80 H (fun c93 E H=>?_) fun c93 E H=>?_)
   refine plc E (.r 18 8 .nil) (fun a E=>pld ?_)
   exact J106 _ (by omega) _ true _ _ E .of S H
   refine plc E (.r 18 3 .nil) (fun a E=>E.fb 83 H (fun c94 E H=>?_) fun c94 E H=>?_)
   refine plc E (.r 21 5 .nil) (fun a E=>pld ?_)
   exact J106 _ (by omega) _ true _ _ E .of S H
   refine plc E (.bn 21 0 7 (S.ba 2)<|.r 22 1<|.b 23 1 (S.ba 1)<|.nil) (fun a E=>?_)
   obtain ⟨t96,h97,H⟩:=bd H
   refine plq E S en183 (qBy.calls k66 x z.f1 _ _ _ _ _ _ _ _ _ (Sub.refl _) (S.rd_at (i:=3) rfl) (g0_5.mono S.own.sub) (g0_6.mono S.own.sub) h97) fun u95 S a E=>plc E (.r 25 1 .nil) (fun a E=>pld ?_)
   exact J106 _ (by omega) _ t96 _ _ E .of S H
   refine plc E (.r 10 11 .nil) (fun a E=>E.fb 83 H (fun c98 E H=>?_) fun c98 E H=>?_)
   refine plc E (.r 21 5 .nil) (fun a E=>pld ?_)
   exact J106 _ (by omega) _ true _ _ E .of S H
   refine plc E (.bn 21 0 7 (S.ba 2)<|.r 22 1<|.b 23 1 (S.ba 1)<|.nil) (fun a E=>?_)
   obtain ⟨t100,h101,H⟩:=bd H
   refine plq E S en183 (qBy.calls k66 x z.f1 _ _ _ _ _ _ _ _ _ (Sub.refl _) (S.rd_at (i:=3) rfl) (g0_5.mono S.own.sub) (g0_6.mono S.own.sub) h101) fun u99 S a E=>plc E (.r 25 1 .nil) (fun a E=>pld ?_)
   exact J106 _ (by omega) _ t100 _ _ E .of S H
  refine rr E fun a E=>(E.ik 48 H (fun c62 E H=>?_) fun c62 E H=>?_)
  refine wp_skip ?_
  exact J67 _ (by omega) _ true _ _ E .of S H
  refine pl0 (plc E (.r 0 2 .nil) (fun a E=>pld ?_))
  exact J67 _ (by omega) _ (z.f0 == 6) _ _ E .of S H
 refine rr E fun a E=>(E.ik 37 H (fun c43 E H=>?_) fun c43 E H=>?_)
 refine wp_skip ?_
 exact J48 _ (by omega) _ true _ _ E .of S H
 refine pl0 (plc E (.r 0 2 .nil) (fun a E=>pld ?_))
 exact J48 _ (by omega) _ (z.f0 == 4) _ _ E .of S H
def qCB.f(k:Nat)(x:qF)(y:qE):Option (qF × Int):=if y.f0=1 then ((qCd.f k x y).bind fun t18=>(some (t18.1,t18.2))) else (if y.f0=8 then ((qBB.f k x y).bind fun t42=>(some (t42.1,t42.2))) else (if y.f0=9 then (some (x,0)) else (if y.f0=10 then ((qCP.f x y).bind fun t76=>(some (t76.1,t76.2))) else ((qCg.f k x y.f1).bind fun t94=>(if t94.2=true then ((qBA.f k x t94.1 y).bind fun t113=>(some (t113.1,t113.2))) else (some (x,5)))))))
def qCB.Post(x:qF)(y:qE)(A0_4:OA)(c0_4:Nat)(A0_5:OA)(c0_5:Nat)(A0_6:OA)(c0_6:Nat)(A1_6:OA)(c1_6:Nat)(W F:World)(r:qF × Int)(v:Value)(w':World):Prop:=∃(F':World)(RA0_4:OA)(rc0_4:Nat)(RA0_5:OA)(rc0_5:Nat)(RA0_6:OA)(rc0_6:Nat),v = .tuple #[.agg #[iv r.1.f0,iv r.1.f1,iv r.1.f2,iv r.1.f3,.slice RA0_4 r.1.f4.length rc0_4,.slice RA0_5 r.1.f5.length rc0_5,.slice RA0_6 r.1.f6.length rc0_6],iv r.2]∧St W (mine W [row qA.k 104 (.slice A0_4 x.f4.length c0_4) x.f4,row qD.k 97 (.slice A0_5 x.f5.length c0_5) x.f5,row qC.k 49 (.slice A0_6 x.f6.length c0_6) x.f6]) F w' F' []∧Rd qA.k F' RA0_4 rc0_4 r.1.f4∧Rd qD.k F' RA0_5 rc0_5 r.1.f5∧Rd qC.k F' RA0_6 rc0_6 r.1.f6
theorem qCB.calls(k:Nat)(x:qF)(y:qE)(A0_4:OA)(c0_4:Nat)(A0_5:OA)(c0_5:Nat)(A0_6:OA)(c0_6:Nat)(A1_6:OA)(c1_6:Nat)(r:qF × Int)(W F:World)(hown:Own W F [row qA.k 104 (.slice A0_4 x.f4.length c0_4) x.f4,row qD.k 97 (.slice A0_5 x.f5.length c0_5) x.f5,row qC.k 49 (.slice A0_6 x.f6.length c0_6) x.f6])(g1_6:Rd ki F A1_6 c1_6 y.f6)(H:qCB.f k x y=some r):
    Cr 78 #[.agg #[iv x.f0,iv x.f1,iv x.f2,iv x.f3,.slice A0_4 x.f4.length c0_4,.slice A0_5 x.f5.length c0_5,.slice A0_6 x.f6.length c0_6],.agg #[iv y.f0,iv y.f1,iv y.f2,iv y.f3,iv y.f4,iv y.f5,.slice A1_6 y.f6.length c1_6]] W (qCB.Post x y A0_4 c0_4 A0_5 c0_5 A0_6 c0_6 A1_6 c1_6 W F r):=by
 have S:=St.start hown
 obtain ⟨N,hN⟩:∃ N,N=mine W [row qA.k 104 (.slice A0_4 x.f4.length c0_4) x.f4,row qD.k 97 (.slice A0_5 x.f5.length c0_5) x.f5,row qC.k 49 (.slice A0_6 x.f6.length c0_6) x.f6]:=⟨_,rfl⟩
 rw [← hN]at S
 unfold qCB.f at H
 refine ent 50 rfl rfl rfl (fun a E=>?_)
 refine sq fun K1 hK1=>pl0 (plx (t:=26) E S [iv x.f0,iv x.f1,iv x.f2,iv x.f3,.slice A0_4 x.f4.length c0_4,.slice A0_5 x.f5.length c0_5,.slice A0_6 x.f6.length c0_6] fun b2 u3 hb2 S a E=>plx (t:=40) E S [iv y.f0,iv y.f1,iv y.f2,iv y.f3,iv y.f4,iv y.f5,.slice A1_6 y.f6.length c1_6] fun b4 u5 hb4 S a E=>pla (t:=26) E S [iv 0,iv 0,iv 0,iv 0,.slice none 0 0,.slice none 0 0,.slice none 0 0] fun b6 u7 hb6 S a E=>plc E (.r 3 1 .nil) (fun a E=>pld (hK1 _ _ (sq fun K8 hK8=>sq fun K9 hK9=>pl0 ?_))))
 have hb4:=S.ba 1
 refine plc E (.r 0 1<|.b 1 0 hb4<|.nil) (fun a E=>pld (hK9 _ _ (wp_block (rr E fun a E=>(E.ik 10 H (fun c11 E H=>?_) fun c11 E H=>?_)))))
 refine sq fun K12 hK12=>pl0 (plc E (.bn 0 0 7 (S.ba 2)<|.bn 1 0 7 hb4<|.nil) (fun a E=>?_))
 replace S:=S.front 4 rfl
 obtain ⟨F13,hs,g14,S⟩:=S.give
 replace g1_6:=g1_6.mono hs
 replace S:=S.front 4 rfl
 obtain ⟨F15,hs,g16,S⟩:=S.give
 replace g14:=g14.mono hs
 replace g1_6:=g1_6.mono hs
 replace S:=S.front 3 rfl
 obtain ⟨t18,h19,H⟩:=bd H
 refine ple E (.cl en132 (qCd.calls k x y _ _ _ _ _ _ _ _ _ _ _ (Own.left (X:=[row qA.k 104 (.slice A0_4 x.f4.length c0_4) x.f4]) S.own) g14 g16 g1_6 h19)) ?_
 rintro _ u17 a ⟨F20,A21,c22,A25,c26,A28,c29,rfl,hC,g27,g30⟩ E
 have hs:=hC.sub
 replace S:=S.called (X:=[row qA.k 104 (.slice A0_4 x.f4.length c0_4) x.f4]) hC
 replace g14:=g14.mono hs
 replace g16:=g16.mono hs
 replace g1_6:=g1_6.mono hs
 refine plc E (.r 3 2 .nil) (fun a E=>?_)
 replace S:=S.front 1 rfl
 refine pls E S [iv t18.1.f0,iv t18.1.f1,iv t18.1.f2,iv t18.1.f3,.slice A21 t18.1.f4.length c22,.slice A25 t18.1.f5.length c26,.slice A28 t18.1.f6.length c29] fun u31 hb6 S a E=>plc E (.r 6 1 .nil) (fun a E=>pld (hK12 _ _ (wp_ret (qCo (qCn ?_)))))
 replace S:=S.front 1 rfl
 obtain ⟨F32,hs,g33,S⟩:=S.give
 replace g14:=g14.mono hs
 replace g16:=g16.mono hs
 replace g1_6:=g1_6.mono hs
 replace g27:=g27.mono hs
 replace g30:=g30.mono hs
 replace S:=S.pm [] 3
 rw [hN]at S
 obtain rfl:=si H
 exact rtm E (.b hb6 ag26 sz26 (.t .nil)) ⟨_,rfl,_,_,_,_,_,_,_,rfl,S,g33,g27,g30⟩
 refine rr E fun a E=>(E.ik 17 H (fun c35 E H=>?_) fun c35 E H=>?_)
 refine sq fun K36 hK36=>pl0 (plc E (.bn 0 0 7 (S.ba 2)<|.bn 1 0 7 hb4<|.nil) (fun a E=>?_))
 replace S:=S.front 3 rfl
 obtain ⟨F37,hs,g38,S⟩:=S.give
 replace g1_6:=g1_6.mono hs
 replace S:=S.front 4 rfl
 obtain ⟨F39,hs,g40,S⟩:=S.give
 replace g38:=g38.mono hs
 replace g1_6:=g1_6.mono hs
 replace S:=S.front 3 rfl
 obtain ⟨t42,h43,H⟩:=bd H
 refine ple E (.cl en133 (qBB.calls k x y _ _ _ _ _ _ _ _ _ _ _ (Own.left (X:=[row qD.k 97 (.slice A0_5 x.f5.length c0_5) x.f5]) S.own) g38 g40 g1_6 h43)) ?_
 rintro _ u41 a ⟨F44,A45,c46,A48,c49,A52,c53,rfl,hC,g47,g54⟩ E
 have hs:=hC.sub
 replace S:=S.called (X:=[row qD.k 97 (.slice A0_5 x.f5.length c0_5) x.f5]) hC
 replace g38:=g38.mono hs
 replace g40:=g40.mono hs
 replace g1_6:=g1_6.mono hs
 refine plc E (.r 3 2 .nil) (fun a E=>?_)
 replace S:=S.front 1 rfl
 refine pls E S [iv t42.1.f0,iv t42.1.f1,iv t42.1.f2,iv t42.1.f3,.slice A45 t42.1.f4.length c46,.slice A48 t42.1.f5.length c49,.slice A52 t42.1.f6.length c53] fun u55 hb6 S a E=>plc E (.r 6 1 .nil) (fun a E=>pld (hK36 _ _ (wp_ret (qCo (qCn ?_)))))
 replace S:=S.front 1 rfl
 obtain ⟨F56,hs,g57,S⟩:=S.give
 replace g38:=g38.mono hs
 replace g40:=g40.mono hs
 replace g1_6:=g1_6.mono hs
 replace g47:=g47.mono hs
 replace g54:=g54.mono hs
 replace S:=S.pm [] 3
 rw [hN]at S
 obtain rfl:=si H
 exact rtm E (.b hb6 ag26 sz26 (.t .nil)) ⟨_,rfl,_,_,_,_,_,_,_,rfl,S,g47,g57,g54⟩
 refine rr E fun a E=>(E.ik 24 H (fun c59 E H=>?_) fun c59 E H=>?_)
 refine sq fun K60 hK60=>pl0 (plc E (.bn 0 0 7 (S.ba 2) .nil) (fun a E=>pls E S [iv x.f0,iv x.f1,iv x.f2,iv x.f3,.slice A0_4 x.f4.length c0_4,.slice A0_5 x.f5.length c0_5,.slice A0_6 x.f6.length c0_6] fun u61 hb6 S a E=>plc E (.r 2 1 .nil) (fun a E=>pld (hK60 _ _ (wp_ret (qCo (qCn ?_)))))))
 replace S:=S.front 3 rfl
 obtain ⟨F62,hs,g63,S⟩:=S.give
 replace g1_6:=g1_6.mono hs
 replace S:=S.front 3 rfl
 obtain ⟨F64,hs,g65,S⟩:=S.give
 replace g63:=g63.mono hs
 replace g1_6:=g1_6.mono hs
 replace S:=S.front 3 rfl
 obtain ⟨F66,hs,g67,S⟩:=S.give
 replace g63:=g63.mono hs
 replace g65:=g65.mono hs
 replace g1_6:=g1_6.mono hs
 replace S:=S.pm [] 3
 rw [hN]at S
 obtain rfl:=si H
 exact rtm E (.b hb6 ag26 sz26 (.t .nil)) ⟨_,rfl,_,_,_,_,_,_,_,rfl,S,g63,g65,g67⟩
 refine rr E fun a E=>(E.ik 27 H (fun c69 E H=>?_) fun c69 E H=>?_)
 refine sq fun K70 hK70=>pl0 (plc E (.bn 0 0 7 (S.ba 2)<|.bn 1 0 7 hb4<|.nil) (fun a E=>?_))
 replace S:=S.front 3 rfl
 obtain ⟨F71,hs,g72,S⟩:=S.give
 replace g1_6:=g1_6.mono hs
 replace S:=S.front 3 rfl
 obtain ⟨F73,hs,g74,S⟩:=S.give
 replace g72:=g72.mono hs
 replace g1_6:=g1_6.mono hs
 replace S:=S.front 3 rfl
 obtain ⟨t76,h77,H⟩:=bd H
 refine ple E (.cl en134 (qCP.calls x y _ _ _ _ _ _ _ _ _ _ _ (Own.left (X:=[row qC.k 49 (.slice A0_6 x.f6.length c0_6) x.f6]) S.own) g72 g74 g1_6 h77)) ?_
 rintro _ u75 a ⟨F78,A79,c80,A82,c83,A85,c86,rfl,hC,g81,g84⟩ E
 have hs:=hC.sub
 replace S:=S.called (X:=[row qC.k 49 (.slice A0_6 x.f6.length c0_6) x.f6]) hC
 replace g72:=g72.mono hs
 replace g74:=g74.mono hs
 replace g1_6:=g1_6.mono hs
 refine plc E (.r 3 2 .nil) (fun a E=>?_)
 replace S:=S.front 1 rfl
 refine pls E S [iv t76.1.f0,iv t76.1.f1,iv t76.1.f2,iv t76.1.f3,.slice A79 t76.1.f4.length c80,.slice A82 t76.1.f5.length c83,.slice A85 t76.1.f6.length c86] fun u89 hb6 S a E=>plc E (.r 6 1 .nil) (fun a E=>pld (hK70 _ _ (wp_ret (qCo (qCn ?_)))))
 replace S:=S.front 1 rfl
 obtain ⟨F90,hs,g91,S⟩:=S.give
 replace g72:=g72.mono hs
 replace g74:=g74.mono hs
 replace g1_6:=g1_6.mono hs
 replace g81:=g81.mono hs
 replace g84:=g84.mono hs
 replace S:=S.pm [] 3
 rw [hN]at S
 obtain rfl:=si H
 exact rtm E (.b hb6 ag26 sz26 (.t .nil)) ⟨_,rfl,_,_,_,_,_,_,_,rfl,S,g81,g84,g91⟩
 refine wp_skip ?_
 refine qCp ?_
 refine hK8 _ _ (sq fun K92 hK92=>pl0 ?_)
 have hb2:=S.ba 2
 refine plc E (.bn 0 0 7 hb2<|.r 1 1<|.b 2 1 hb4<|.nil) (fun a E=>?_)
 obtain ⟨t94,h95,H⟩:=bd H
 refine plq E S en135 (qCg.calls k x y.f1 _ _ _ _ _ _ _ _ _ (Sub.refl _) (S.rd_at (i:=3) rfl) (S.rd_at (i:=4) rfl) (S.rd_at (i:=5) rfl) h95) fun u93 S a E=>plc E (.r 4 5 .nil) (fun a E=>pld (hK92 _ _ (sq fun K96 hK96=>rr E fun a E=>(E.ibn 42 H (fun c98 E H=>?_) fun c98 E H=>?_))))
 refine wp_skip (hK96 _ _ (sq fun K107 hK107=>pl0 (plc E (.bn 0 0 7 (S.ba 2)<|.r 1 1<|.bn 2 0 7 (S.ba 1)<|.nil) (fun a E=>?_))))
 replace S:=S.front 4 rfl
 obtain ⟨F108,hs,g109,S⟩:=S.give
 replace g1_6:=g1_6.mono hs
 replace S:=S.front 4 rfl
 obtain ⟨F110,hs,g111,S⟩:=S.give
 replace g109:=g109.mono hs
 replace g1_6:=g1_6.mono hs
 replace S:=S.front 3 rfl
 obtain ⟨t113,h114,H⟩:=bd H
 refine ple E (.cl en136 (qBA.calls k x t94.1 y _ _ _ _ _ _ _ _ _ _ _ (Own.left (X:=[row qA.k 104 (.slice A0_4 x.f4.length c0_4) x.f4]) S.own) g109 g111 g1_6 h114)) ?_
 rintro _ u112 a ⟨F115,A116,c117,A120,c121,A123,c124,rfl,hC,g122,g125⟩ E
 have hs:=hC.sub
 replace S:=S.called (X:=[row qA.k 104 (.slice A0_4 x.f4.length c0_4) x.f4]) hC
 replace g109:=g109.mono hs
 replace g111:=g111.mono hs
 replace g1_6:=g1_6.mono hs
 refine plc E (.r 4 2 .nil) (fun a E=>?_)
 replace S:=S.front 1 rfl
 refine pls E S [iv t113.1.f0,iv t113.1.f1,iv t113.1.f2,iv t113.1.f3,.slice A116 t113.1.f4.length c117,.slice A120 t113.1.f5.length c121,.slice A123 t113.1.f6.length c124] fun u126 hb6 S a E=>plc E (.r 7 1 .nil) (fun a E=>pld (hK107 _ _ (wp_ret ?_)))
 replace S:=S.front 1 rfl
 obtain ⟨F127,hs,g128,S⟩:=S.give
 replace g109:=g109.mono hs
 replace g111:=g111.mono hs
 replace g1_6:=g1_6.mono hs
 replace g122:=g122.mono hs
 replace g125:=g125.mono hs
 replace S:=S.pm [] 3
 rw [hN]at S
 obtain rfl:=si H
 exact rtm E (.b hb6 ag26 sz26 (.t .nil)) ⟨_,rfl,_,_,_,_,_,_,_,rfl,S,g128,g122,g125⟩
 refine sq fun K99 hK99=>pl0 (plc E (.bn 0 0 7 (S.ba 2) .nil) (fun a E=>pls E S [iv x.f0,iv x.f1,iv x.f2,iv x.f3,.slice A0_4 x.f4.length c0_4,.slice A0_5 x.f5.length c0_5,.slice A0_6 x.f6.length c0_6] fun u100 hb6 S a E=>plc E (.r 2 1 .nil) (fun a E=>pld (hK99 _ _ (wp_ret (qCn ?_))))))
 replace S:=S.front 3 rfl
 obtain ⟨F101,hs,g102,S⟩:=S.give
 replace g1_6:=g1_6.mono hs
 replace S:=S.front 3 rfl
 obtain ⟨F103,hs,g104,S⟩:=S.give
 replace g102:=g102.mono hs
 replace g1_6:=g1_6.mono hs
 replace S:=S.front 3 rfl
 obtain ⟨F105,hs,g106,S⟩:=S.give
 replace g102:=g102.mono hs
 replace g104:=g104.mono hs
 replace g1_6:=g1_6.mono hs
 replace S:=S.pm [] 3
 rw [hN]at S
 obtain rfl:=si H
 exact rtm E (.b hb6 ag26 sz26 (.t .nil)) ⟨_,rfl,_,_,_,_,_,_,_,rfl,S,g102,g104,g106⟩
def qBb.j23:Nat→Int→qQ→Bool→Option (Int × Bool)
 | 0,_,_,_=>none
 | k+1,x,y,y22=>if x=(-1) then (some (y.f1,false)) else (if y22=true then (if y.f2≥1 then (some (y.f1,(decide (y.f2≤12)))) else (some (y.f1,false))) else (some (y.f1,false)))
theorem qBb.j23_s k x y y22:type_of% (qBb.j23.eq_2 x y y22 k):=qBb.j23.eq_2 x y y22 k
def qBb.f(k:Nat)(x:Int)(y:qQ):Option (Int × Bool):=if y.f0=1 then (if x=(-1) then (if y.f1=0 then (some (0,(y.f2 == 0))) else (some (0,false))) else (some (0,false))) else (if y.f0=3 then (if x=3 then (if y.f1=0 then (some ((-1),(y.f2 == 0))) else (some ((-1),false))) else (some ((-1),false))) else (if y.f0=2 then (if y.f1>x then (if y.f1≤3 then (if y.f1=2 then (qBb.j23 k x y (x == 1)) else (qBb.j23 k x y true)) else (qBb.j23 k x y false)) else (qBb.j23 k x y false)) else (some ((-1),false))))
def qBb.Post(W F:World)(r:Int × Bool)(v:Value)(w':World):Prop:=∃(F':World),v = .tuple #[iv r.1,.bool r.2]∧Sm W F w' F' []
theorem qBb.calls(k:Nat)(x:Int)(y:qQ)(r:Int × Bool)(W F:World)(hown:Sub F W)(H:qBb.f k x y=some r):
    Cr 224 #[iv x,.agg #[iv y.f0,iv y.f1,iv y.f2]] W (qBb.Post W F r):=by
 have S:=sT hown
 unfold qBb.f at H
 refine ent 74 rfl rfl rfl (fun a E=>?_)
 refine sq fun K1 hK1=>pl0 (plx (t:=175) E S [iv y.f0,iv y.f1,iv y.f2] fun b2 u3 hb2 S a E=>plc E (.r 1 2 .nil) (fun a E=>pld (hK1 _ _ (sq fun K4 hK4=>rg E (.r 0 1<|.b 1 0 hb2<|.nil) fun a E=>(wp_block (rr E fun a E=>(E.ik 9 H (fun c7 E H=>?_) fun c7 E H=>?_)))))))
 refine sq fun K8 hK8=>?_
 refine drawn 14 ⟨[],[],fun q=>False⟩ mixed rfl (by kernel_rfl) (fun hst=>?_)
 replace S:=S.drew
 refine mny 11 hst E (.r 0 3 .nil) (fun a E=>?_)
 refine E.fk 13 H (fun c9 E H=>?_) fun c9 E H=>?_
 have hb2:=S.ba 0
 refine mny 5 hst E (.r 3 1<|.b 4 1 hb2<|.r 5 3<|.r 12 1<|.nil) (fun a E=>?_)
 refine E.fk 18 H (fun c10 E H=>?_) fun c10 E H=>?_
 refine mny 0 hst E (.r 8 1<|.b 9 2 hb2<|.r 10 2<|.r 13 1<|.nil) (fun a E=>?_)
 refine dn ?_
 refine hK8 _ _ (wp_ret (qCo (qCn ?_)))
 replace S:=S.tail
 obtain rfl:=si H
 exact rtN E ⟨_,rfl,_,rfl,S⟩
 refine mny 0 hst E (.r 8 4<|.r 13 1<|.nil) (fun a E=>?_)
 refine dn ?_
 refine hK8 _ _ (wp_ret (qCo (qCn ?_)))
 replace S:=S.tail
 obtain rfl:=si H
 exact rtN E ⟨_,rfl,_,rfl,S⟩
 refine mny 0 hst E (.r 3 11 .nil) (fun a E=>?_)
 refine dn ?_
 refine hK8 _ _ (wp_ret (qCo (qCn ?_)))
 replace S:=S.tail
 obtain rfl:=si H
 exact rtN E ⟨_,rfl,_,rfl,S⟩
 refine rr E fun a E=>(E.ik 23 H (fun c12 E H=>?_) fun c12 E H=>?_)
 refine sq fun K13 hK13=>?_
 refine drawn 14 ⟨[],[],fun q=>False⟩ mixed rfl (by kernel_rfl) (fun hst=>?_)
 replace S:=S.drew
 refine mny 11 hst E (.r 0 3 .nil) (fun a E=>?_)
 refine E.fk 27 H (fun c14 E H=>?_) fun c14 E H=>?_
 have hb2:=S.ba 0
 refine mny 5 hst E (.r 3 1<|.b 4 1 hb2<|.r 5 3<|.r 12 1<|.nil) (fun a E=>?_)
 refine E.fk 32 H (fun c15 E H=>?_) fun c15 E H=>?_
 refine mny 0 hst E (.r 8 1<|.b 9 2 hb2<|.r 10 2<|.r 13 1<|.nil) (fun a E=>?_)
 refine dn ?_
 refine hK13 _ _ (wp_ret (qCo (qCn ?_)))
 replace S:=S.tail
 obtain rfl:=si H
 exact rtN E ⟨_,rfl,_,rfl,S⟩
 refine mny 0 hst E (.r 8 4<|.r 13 1<|.nil) (fun a E=>?_)
 refine dn ?_
 refine hK13 _ _ (wp_ret (qCo (qCn ?_)))
 replace S:=S.tail
 obtain rfl:=si H
 exact rtN E ⟨_,rfl,_,rfl,S⟩
 refine mny 0 hst E (.r 3 11 .nil) (fun a E=>?_)
 refine dn ?_
 refine hK13 _ _ (wp_ret (qCo (qCn ?_)))
 replace S:=S.tail
 obtain rfl:=si H
 exact rtN E ⟨_,rfl,_,rfl,S⟩
 refine rr E fun a E=>(E.ik 37 H (fun c17 E H=>?_) fun c17 E H=>?_)
 refine sq fun K18 hK18=>?_
 have J26:∀ kq24,kq24≤k→∀(G:NV)(y22:Bool)(a:Act)(w':World),Env 74 G a→At G [(0,iv x),(3,.pointer (pb b2)),(6,.bool y22)]→Sm W F w' F [box b2 #[iv y.f0,iv y.f1,iv y.f2] 175]→qBb.j23 kq24 x y y22=some r→K18 a w':=by
  intro kq24 hkq G y22 a u27 E A S H
  obtain _ | k25:=kq24
  exact zz H
  rw [qBb.j23_s]at H
  obtain ⟨J,E⟩:=E.at A
  refine hK18 _ _ (sq fun K28 hK28=>?_)
  refine drawn 19 ⟨[],[],fun q=>False⟩ mixed rfl (by kernel_rfl) (fun hst=>?_)
  replace S:=S.drew
  have hb2:=S.ba 0
  refine mny 14 hst E (.r 0 1<|.b 1 1 hb2<|.r 2 3<|.nil) (fun a E=>?_)
  refine E.fkn 61 H (fun c29 E H=>?_) fun c29 E H=>?_
  refine mny 0 hst E (.r 5 14 .nil) (fun a E=>?_)
  refine dn ?_
  refine hK28 _ _ (wp_ret (qCo (qCn ?_)))
  replace S:=S.tail
  obtain rfl:=si H
  exact rtN E ⟨_,rfl,_,rfl,S⟩
  refine mny 11 hst E (.r 5 3 .nil) (fun a E=>?_)
  refine E.fb 64 H (fun c30 E H=>?_) fun c30 E H=>?_
  refine mny 5 hst E (.r 8 1<|.b 9 2 hb2<|.r 10 3<|.r 17 1<|.nil) (fun a E=>?_)
  refine E.fk 69 H (fun c31 E H=>?_) fun c31 E H=>?_
  refine mny 0 hst E (.r 13 1<|.b 14 2 hb2<|.r 15 2<|.r 18 1<|.nil) (fun a E=>?_)
  refine dn ?_
  refine hK28 _ _ (wp_ret (qCo (qCn ?_)))
  replace S:=S.tail
  obtain rfl:=si H
  exact rtN E ⟨_,rfl,_,rfl,S⟩
  refine mny 0 hst E (.r 13 4<|.r 18 1<|.nil) (fun a E=>?_)
  refine dn ?_
  refine hK28 _ _ (wp_ret (qCo (qCn ?_)))
  replace S:=S.tail
  obtain rfl:=si H
  exact rtN E ⟨_,rfl,_,rfl,S⟩
  refine mny 0 hst E (.r 8 11 .nil) (fun a E=>?_)
  refine dn ?_
  refine hK28 _ _ (wp_ret (qCo (qCn ?_)))
  replace S:=S.tail
  obtain rfl:=si H
  exact rtN E ⟨_,rfl,_,rfl,S⟩
 refine pl0 (plc E (.r 0 1<|.b 1 1 hb2<|.r 2 3<|.nil) (fun a E=>E.fk 43 H (fun c19 E H=>?_) fun c19 E H=>?_))
 refine plc E (.r 5 1<|.b 6 1 hb2<|.r 7 3<|.nil) (fun a E=>E.fk 48 H (fun c20 E H=>?_) fun c20 E H=>?_)
 refine plc E (.r 10 1<|.b 11 1 hb2<|.r 12 2<|.nil) (fun a E=>E.fkn 52 H (fun c21 E H=>?_) fun c21 E H=>?_)
 refine plc E (.r 14 5 .nil) (fun a E=>pld ?_)
 exact J26 _ (by omega) _ (x == 1) _ _ E .of S H
 refine plc E (.r 14 5 .nil) (fun a E=>pld ?_)
 exact J26 _ (by omega) _ true _ _ E .of S H
 refine plc E (.r 10 9 .nil) (fun a E=>pld ?_)
 exact J26 _ (by omega) _ false _ _ E .of S H
 refine plc E (.r 5 14 .nil) (fun a E=>pld ?_)
 exact J26 _ (by omega) _ false _ _ E .of S H
 refine wp_skip ?_
 refine qCp ?_
 refine hK4 _ _ (rr E fun a E=>(wp_ret ?_))
 replace S:=S.tail
 obtain rfl:=si H
 exact rtN E ⟨_,rfl,_,rfl,S⟩
mutual
def qBD.j6:Nat→List qQ→Bool→Option Int
 | 0,_,_=>none
 | k+1,x,y5=>if y5=true then (some 1) else (qBD.l18 k x (-1) 0)
def qBD.l18:Nat→List qQ→Int→Int→Option Int
 | 0,_,_,_=>none
 | k+1,x,x16,x17=>if x17<(x.length:Int) then (if 0≤x17∧x17<(x.length:Int) then ((qBb.f k x16 (nth qQ.z x x17)).bind fun t37=>(if t37.2=true then (qBD.l18 k x t37.1 (w64 (x17+1))) else (some 1))) else (none)) else (some 0)
end
theorem qBD.j6_s k x y5:type_of% (qBD.j6.eq_2 x y5 k):=qBD.j6.eq_2 x y5 k
theorem qBD.l18_s k x x16 x17:type_of% (qBD.l18.eq_2 x x16 x17 k):=qBD.l18.eq_2 x x16 x17 k
def qBD.f(k:Nat)(x:List qQ):Option Int:=if (x.length:Int)=0 then (qBD.j6 k x true) else (qBD.j6 k x (decide ((x.length:Int)>8)))
def qBD.Post(W F:World)(r:Int)(v:Value)(w':World):Prop:=∃(F':World),v=iv r∧Sm W F w' F' []
theorem qBD.calls(k:Nat)(x:List qQ)(A0_0:OA)(c0_0:Nat)(r:Int)(W F:World)(hown:Sub F W)(g0_0:Rd qQ.k F A0_0 c0_0 x)(H:qBD.f k x=some r):
    Cr 203 #[.slice A0_0 x.length c0_0] W (qBD.Post W F r):=by
 have S:=sT hown
 unfold qBD.f at H
 refine ent 32 rfl rfl rfl (fun a E=>?_)
 refine rr E fun a E=>(sq fun K2 hK2=>sq fun K3 hK3=>?_)
 have J9:∀ kq7,kq7≤k→∀(G:NV)(y5:Bool)(a:Act)(w':World),Env 32 G a→At G [(0,.slice A0_0 x.length c0_0),(15,.bool y5)]→Sm W F w' F []→qBD.j6 kq7 x y5=some r→K3 a w':=by
  intro kq7 hkq G y5 a u10 E A S H
  obtain _ | k8:=kq7
  exact zz H
  rw [qBD.j6_s]at H
  obtain ⟨J,E⟩:=E.at A
  refine hK3 _ _ (E.ib 15 H (fun c11 E H=>?_) fun c11 E H=>?_)
  refine rr E fun a E=>(wp_ret (qCn ?_))
  obtain rfl:=si H
  exact rt1 E ⟨_,rfl,_,rfl,S⟩
  refine wp_skip (hK2 _ _ (rr E fun a E=>(sq fun K14 hK14=>rr E fun a E=>(wp_block ?_))))
  refine wp_loop_ghost (fun kq19 a w'=>∃(G:NV)(x16:Int)(x17:Int),kq19≤k8∧Env 32 G a∧At G [(3,iv x16),(16,.slice A0_0 x.length c0_0),(17,iv (x.length:Int)),(18,iv x17)]∧Sm W F w' F []∧qBD.l18 kq19 x x16 x17=some r) k8 ⟨_,(-1),0,Nat.le_refl _,E,.of,S,H⟩ ?_
  rintro kq19 a u21 ⟨G,x16,x17,hkq,E,A,S,H⟩
  obtain _ | k20:=kq19
  exact zz H
  rw [qBD.l18_s]at H
  obtain ⟨J,E⟩:=E.at A
  refine rr E fun a E=>(sq fun K23 hK23=>E.ik 19 H (fun c24 E H=>?_) fun c24 E H=>?_)
  refine wp_skip (hK23 _ _ (sq fun K25 hK25=>wp_block (sq fun K26 hK26=>pl0 ?_)))
  obtain ⟨c27,H⟩:=gd H
  have hE_:=E
  obtain ⟨ad28,rfl⟩:=g0_0.addr c27.1 c27.2
  replace E:=hE_
  obtain ⟨cs30,rfl,hc31⟩:=g0_0.el qQ.z x17 c27.1 c27.2
  refine plc E (.x 0 c27<|.cs 1 (S.fcs hc31)<|.nil) (fun a E=>pla (t:=175) E S [iv 0,iv 0,iv 0] fun b32 u33 hb32 S a E=>pls E S [iv ((nth qQ.z x x17).f0),iv ((nth qQ.z x x17).f1),iv ((nth qQ.z x x17).f2)] fun u34 hb32 S a E=>pld (hK26 _ _ (sq fun K35 hK35=>pl0 (plc E (.r 0 1<|.bn 1 0 3 hb32<|.nil) (fun a E=>?_)))))
  obtain ⟨t37,h38,H⟩:=bd H
  refine plq E S en224 (qBb.calls k20 x16 (nth qQ.z x x17) _ _ _ S.own.sub h38) fun u36 S a E=>plc E (.r 3 5 .nil) (fun a E=>pld (hK35 _ _ (sq fun K39 hK39=>rr E fun a E=>(E.ibn 29 H (fun c41 E H=>?_) fun c41 E H=>?_))))
  refine wp_skip (hK39 _ _ (pl0 (plc E (.r 0 2 .nil) (fun a E=>pld ?_))))
  refine qCp ?_
  refine hK25 _ _ (pl0 (plc E (.r 0 2 .nil) (fun a E=>pld ?_)))
  replace S:=S.tail
  exact qCq ⟨k20,by omega,_,t37.1,(w64 (x17+1)),by omega,E,.of,S,H⟩
  refine rr E fun a E=>(wp_ret (qCn (qCo (qCn (qCn (qCo (qCn ?_)))))))
  replace S:=S.tail
  obtain rfl:=si H
  exact rt1 E ⟨_,rfl,_,rfl,S⟩
  refine wp_exit ?_
  refine hK14 _ _ (rr E fun a E=>(wp_ret ?_))
  obtain rfl:=si H
  exact rt1 E ⟨_,rfl,_,rfl,S⟩
 refine pl0 (plc E (.r 0 4 .nil) (fun a E=>E.fk 11 H (fun c4 E H=>?_) fun c4 E H=>?_))
 refine plc E (.r 4 4 .nil) (fun a E=>pld ?_)
 exact J9 _ (by omega) _ true _ _ E .of S H
 refine plc E (.r 4 4 .nil) (fun a E=>pld ?_)
 exact J9 _ (by omega) _ (decide ((x.length:Int)>8)) _ _ E .of S H
def qBp.f(x:qB)(y:Int):Option Int:=(qBK.f x.f0 y).bind fun t6=>(some t6)
def qBp.Post(W F:World)(r:Int)(v:Value)(w':World):Prop:=∃(F':World),v=iv r∧Sm W F w' F' []
theorem qBp.calls(x:qB)(y:Int)(r:Int)(W F:World)(hown:Sub F W)(H:qBp.f x y=some r):
    Cr 255 #[.agg #[iv x.f0,iv x.f1],iv y] W (qBp.Post W F r):=by
 have S:=sT hown
 unfold qBp.f at H
 refine ent 9 rfl rfl rfl (fun a E=>?_)
 refine sq fun K1 hK1=>pl0 (plx (t:=216) E S [iv x.f0,iv x.f1] fun b2 u3 hb2 S a E=>plc E (.r 1 1 .nil) (fun a E=>pld (hK1 _ _ (sq fun K4 hK4=>pl0 (plc E (.r 0 1<|.b 1 0 hb2<|.r 2 1<|.nil) (fun a E=>?_))))))
 obtain ⟨t6,h7,H⟩:=bd H
 refine plq E S en161 (qBK.calls x.f0 y _ _ _ S.own.sub h7) fun u5 S a E=>plc E (.r 4 1 .nil) (fun a E=>pld (hK4 _ _ (wp_ret ?_)))
 replace S:=S.tail
 obtain rfl:=si H
 exact rt1 E ⟨_,rfl,_,rfl,S⟩
def qCF.f(x:qA):Option Bool:=some true
def qCF.Post(W F:World)(r:Bool)(v:Value)(w':World):Prop:=∃(F':World),v = .bool r∧Sm W F w' F' []
theorem qCF.calls(x:qA)(r:Bool)(W F:World)(hown:Sub F W)(H:qCF.f x=some r):
    Cr 237 #[.agg #[iv x.f0,iv x.f1,iv x.f2,iv x.f3,.bool x.f4,.bool x.f5]] W (qCF.Post W F r):=by
 have S:=sT hown
 unfold qCF.f at H
 refine ent 3 rfl rfl rfl (fun a E=>?_)
 refine sq fun K1 hK1=>pl0 (plx (t:=104) E S [iv x.f0,iv x.f1,iv x.f2,iv x.f3,.bool x.f4,.bool x.f5] fun b2 u3 hb2 S a E=>plc E (.r 1 1 .nil) (fun a E=>pld (hK1 _ _ (rr E fun a E=>(wp_ret ?_)))))
 replace S:=S.tail
 obtain rfl:=si H
 exact rt1 E ⟨_,rfl,_,rfl,S⟩
def qBs.f(x:qA):Option Int:=some x.f1
def qBs.Post(W F:World)(r:Int)(v:Value)(w':World):Prop:=∃(F':World),v=iv r∧Sm W F w' F' []
theorem qBs.calls(x:qA)(r:Int)(W F:World)(hown:Sub F W)(H:qBs.f x=some r):
    Cr 238 #[.agg #[iv x.f0,iv x.f1,iv x.f2,iv x.f3,.bool x.f4,.bool x.f5]] W (qBs.Post W F r):=by
 have S:=sT hown
 unfold qBs.f at H
 refine ent 5 rfl rfl rfl (fun a E=>?_)
 refine sq fun K1 hK1=>pl0 (plx (t:=104) E S [iv x.f0,iv x.f1,iv x.f2,iv x.f3,.bool x.f4,.bool x.f5] fun b2 u3 hb2 S a E=>plc E (.r 1 1 .nil) (fun a E=>pld (hK1 _ _ (rg E (.r 0 1<|.b 1 1 hb2<|.r 2 1<|.nil) fun a E=>(wp_ret ?_)))))
 replace S:=S.tail
 obtain rfl:=si H
 exact rt1 E ⟨_,rfl,_,rfl,S⟩
def qJ.l7:Nat→List qB→Int→Int→Int→Option (Int × Bool)
 | 0,_,_,_,_=>none
 | k+1,x,y,x5,x6=>if x5<x6 then (if 0≤(w64 ((IntKind.u64.wrap (w64 (x5+x6))).fdiv 2))∧(w64 ((IntKind.u64.wrap (w64 (x5+x6))).fdiv 2))<(x.length:Int) then ((qBp.f (nth qB.z x (w64 ((IntKind.u64.wrap (w64 (x5+x6))).fdiv 2))) y).bind fun t22=>(if t22<0 then (qJ.l7 k x y (w64 ((w64 ((IntKind.u64.wrap (w64 (x5+x6))).fdiv 2))+1)) x6) else (qJ.l7 k x y x5 (w64 ((IntKind.u64.wrap (w64 (x5+x6))).fdiv 2))))) else (none)) else (if x5<(x.length:Int) then (if 0≤x5∧x5<(x.length:Int) then ((qBp.f (nth qB.z x x5) y).bind fun t33=>(some (x5,(t33 == 0)))) else (none)) else (some (x5,false)))
theorem qJ.l7_s k x y x5 x6:type_of% (qJ.l7.eq_2 x y x5 x6 k):=qJ.l7.eq_2 x y x5 x6 k
def qJ.f(k:Nat)(x:List qB)(y:Int):Option (Int × Bool):=qJ.l7 k x y 0 (x.length:Int)
def qJ.Post(W F:World)(r:Int × Bool)(v:Value)(w':World):Prop:=∃(F':World),v = .tuple #[iv r.1,.bool r.2]∧Sm W F w' F' []
theorem qJ.calls(k:Nat)(x:List qB)(y:Int)(A0_0:OA)(c0_0:Nat)(r:Int × Bool)(W F:World)(hown:Sub F W)(g0_0:Rd qB.k F A0_0 c0_0 x)(H:qJ.f k x y=some r):
    Cr 254 #[.slice A0_0 x.length c0_0,iv y,.func (.func 255) #[] #[]] W (qJ.Post W F r):=by
 have S:=sT hown
 unfold qJ.f at H
 refine ent 49 rfl rfl rfl (fun a E=>?_)
 refine rr E fun a E=>(rr E fun a E=>(rr E fun a E=>(sq fun K4 hK4=>wp_block ?_)))
 refine wp_loop_ghost (fun kq8 a w'=>∃(G:NV)(x5:Int)(x6:Int),kq8≤k∧Env 49 G a∧At G [(0,.slice A0_0 x.length c0_0),(1,iv y),(2,.func (.func 255) #[] #[]),(8,iv (x.length:Int)),(9,iv x5),(10,iv x6)]∧Sm W F w' F []∧qJ.l7 kq8 x y x5 x6=some r) k ⟨_,0,(x.length:Int),Nat.le_refl _,E,.of,S,H⟩ ?_
 rintro kq8 a u10 ⟨G,x5,x6,hkq,E,A,S,H⟩
 obtain _ | k9:=kq8
 exact zz H
 rw [qJ.l7_s]at H
 obtain ⟨J,E⟩:=E.at A
 refine sq fun K11 hK11=>rr E fun a E=>(E.ik 17 H (fun c13 E H=>?_) fun c13 E H=>?_)
 refine wp_skip (hK11 _ _ (wp_block (rr E fun a E=>(sq fun K15 hK15=>pl0 ?_))))
 obtain ⟨c16,H⟩:=gd H
 have hE_:=E
 obtain ⟨ad17,rfl⟩:=g0_0.addr c16.1 c16.2
 replace E:=hE_
 obtain ⟨cs19,rfl,hc20⟩:=g0_0.el qB.z (w64 ((IntKind.u64.wrap (w64 (x5+x6))).fdiv 2)) c16.1 c16.2
 refine plc E (.r 0 3<|.x 3 c16<|.cs 4 (S.fcs hc20)<|.r 5 1<|.nil) (fun a E=>?_)
 obtain ⟨t22,h23,H⟩:=bd H
 refine plq E S en255 (qBp.calls (nth qB.z x (w64 ((IntKind.u64.wrap (w64 (x5+x6))).fdiv 2))) y _ _ _ S.own.sub h23) fun u21 S a E=>plc E (.r 7 1 .nil) (fun a E=>pld (hK15 _ _ (E.ik 31 H (fun c24 E H=>?_) fun c24 E H=>?_)))
 refine pl0 (plc E (.r 0 3 .nil) (fun a E=>pld ?_))
 refine qCp ?_
 exact qCq ⟨k9,by omega,_,(w64 ((w64 ((IntKind.u64.wrap (w64 (x5+x6))).fdiv 2))+1)),x6,by omega,E,.of,S,H⟩
 refine pl0 (plc E (.r 0 2 .nil) (fun a E=>pld ?_))
 refine qCp ?_
 exact qCq ⟨k9,by omega,_,x5,(w64 ((IntKind.u64.wrap (w64 (x5+x6))).fdiv 2)),by omega,E,.of,S,H⟩
 refine wp_exit ?_
 refine hK4 _ _ (sq fun K25 hK25=>pl0 (plc E (.r 0 5 .nil) (fun a E=>E.fk 39 H (fun c26 E H=>?_) fun c26 E H=>?_)))
 obtain ⟨c27,H⟩:=gd H
 have hE_:=E
 obtain ⟨ad28,rfl⟩:=g0_0.addr c27.1 c27.2
 replace E:=hE_
 obtain ⟨cs30,rfl,hc31⟩:=g0_0.el qB.z x5 c27.1 c27.2
 refine plc E (.r 5 3<|.x 8 c27<|.cs 9 (S.fcs hc31)<|.r 10 1<|.nil) (fun a E=>?_)
 obtain ⟨t33,h34,H⟩:=bd H
 refine plq E S en255 (qBp.calls (nth qB.z x x5) y _ _ _ S.own.sub h34) fun u32 S a E=>plc E (.r 12 4 .nil) (fun a E=>pld (hK25 _ _ (wp_ret ?_)))
 obtain rfl:=si H
 exact rtN E ⟨_,rfl,_,rfl,S⟩
 refine plc E (.r 5 11 .nil) (fun a E=>pld (hK25 _ _ (wp_ret ?_)))
 obtain rfl:=si H
 exact rtN E ⟨_,rfl,_,rfl,S⟩
def qAL.f(p:List qB)(s:Int)(t:List qB):Option (List qB):=match t with
 | [x]=>if 0≤s∧s≤(p.length:Int)∧p.length≤1000000 then some (p.take s.toNat++x :: p.drop s.toNat) else none
 | _=>none
def qAL.Post(p:List qB)(s:Int)(t:List qB)(A0_0:OA)(c0_0:Nat)(A2_0:OA)(c2_0:Nat)(W F:World)(r:List qB)(v:Value)(w':World):Prop:=∃(F':World)(RA0_0:OA)(rc0_0:Nat),v = .slice RA0_0 r.length rc0_0∧St W (mine W [row qB.k 216 (.slice A0_0 p.length c0_0) p,row qB.k 216 (.slice A2_0 t.length c2_0) t]) F w' F' [row qB.k 216 (.slice RA0_0 r.length rc0_0) r]
set_option maxHeartbeats 4000000 in
set_option maxRecDepth 100000 in
theorem qAL.calls(p:List qB)(s:Int)(t:List qB)(A0_0:OA)(c0_0:Nat)(A2_0:OA)(c2_0:Nat)(r:List qB)(W F:World)(hown:Own W F [row qB.k 216 (.slice A0_0 p.length c0_0) p,row qB.k 216 (.slice A2_0 t.length c2_0) t])(H:qAL.f p s t=some r):
    Cr 256 #[.slice A0_0 p.length c0_0,iv s,.slice A2_0 t.length c2_0] W (qAL.Post p s t A0_0 c0_0 A2_0 c2_0 W F r):=by
 have S:=St.start hown
 unfold qAL.f at H
 rcases t with _ | ⟨x,_ | ⟨y,l⟩⟩
 ·
  cases H
 rotate_left
 ·
  cases H
 replace H:(if 0≤s∧s≤(p.length:Int)∧p.length≤1000000 then some (p.take s.toNat++x :: p.drop s.toNat) else none)=some r:=H
 by_cases hc:0≤s∧s≤(p.length:Int)∧p.length≤1000000
 rotate_left
 ·
  rw [if_neg hc]at H; cases H
 rw [if_pos hc]at H
 have hr:=Option.some.inj H
 clear H
 obtain ⟨h0,h1,hm⟩:=hc
 obtain ⟨j,rfl⟩:∃ j:Nat,s=j:=⟨s.toNat,by omega⟩
 simp only [Int.toNat_natCast]at hr
 refine enter (n:=95) rfl rfl rfl (Nat.le_of_ble_eq_true rfl) (fun a E=>?_)
 obtain ⟨A12,c12,hA12,hv12⟩:=y_suf (P:=Tryz.prog) (k:=.i64) (S.row_at (i:=0) rfl) ⟨h0,h1⟩
 refine rr E fun a E=>(rg E (.r 0 2<|.y 2 (hv12 (by kernel_rfl)) .nil) fun a E=>(rr E fun a E=>(sq fun K3 hK3=>rr E fun a E=>(cf E (wp_skip (hK3 _ _ (rr E fun a E=>(sq fun K6 hK6=>rr E fun a E=>?_))))))))
 by_cases hi:(j:Int)=(p.length:Int)
 ·
  replace E:=E.kt 22 hi
  refine ct E ?_
  obtain rfl:j=p.length:=by omega
  obtain rfl:p++[x]=r:=by rw [← hr]; simp
  refine sq fun K8 hK8=>pl0 (plc E (.r 0 2 .nil) (fun a E=>ple E (.ap (d:=qB.k) 16 S (qCy (S.row_at (i:=1) rfl)) (by simp only [List.length_cons,List.length_nil]; omega) c2_0) ?_))
  rintro _ w1 a ⟨A1,c1,rfl,S,hz⟩ E
  refine plc E (.r 3 1 .nil) (fun a E=>pld (hK8 _ _ (wp_ret (qCn ?_))))
  replace S:=S.pm [0] 2
  exact rt1 E ⟨_,rfl,F,_,_,rfl,S⟩
 replace E:=E.kf 22 hi
 refine cf E (wp_skip (hK6 _ _ ?_))
 have hlt:j<p.length:=by omega
 have hxc:p.length≤c0_0∧c0_0≤maxLen:=by
  obtain ⟨_,q1,q2,_⟩:=qCr (S.row_at (i:=0) rfl)
  exact ⟨q1,q2⟩
 have hxc2:[x].length≤c2_0:=(qCr (S.row_at (i:=1) rfl)).2.1
 have hE_:=E
 obtain ⟨g,cur,rfl,hsz,hrep,S⟩:=S.unrow (by omega)
 replace S:=S.front 1 rfl
 obtain ⟨g2,cur2,rfl,hsz2,hrep2,S⟩:=S.unrow (by simp)
 replace E:=hE_
 have hne:g2≠g:=S.ne (i:=0) (j:=1) rfl rfl (by decide)
 obtain ⟨cs,hcs⟩:∃ cs,cs=cur2.toList.take 2:=⟨_,rfl⟩
 have hx:(qB.k).K F x cs:=by
  have h5:=hrep2.2 0 x rfl
  rw [Nat.zero_mul,List.drop_zero,List.take_take]at h5
  rw [hcs]
  exact h5
 have hcl:cs.length=2:=(qB.k).len hx
 have hcget:∀ q u,cs[q]? = some u→cur2[q]? = some u:=fun q u hq=>by
  rw [hcs,List.getElem?_take]at hq
  split at hq
  ·
   rwa [Array.getElem?_toList]at hq
  ·
   cases hq
 have hcone:∀ u ∈ cs,u.oneCell'=true:=(qB.k).one hx
 obtain ⟨inner,hin⟩:∃ inner,inner=cur.toList.take (p.length * 2):=⟨_,rfl⟩
 replace hrep:RepsK qB.k F p inner:=by rw [hin]; exact hrep
 have hil:inner.length=p.length * 2:=hrep.1
 have hione:∀ u ∈ inner.drop (j * 2),u.oneCell'=true:=fun u hu=>hrep.one u (List.mem_of_mem_drop hu)
 have hidl:(inner.drop (j * 2)).length=(p.length - j) * 2:=by rw [List.length_drop,hil,Nat.sub_mul]
 have higet:∀ q u,(inner.drop (j * 2))[q]? = some u→cur[j * 2+q]? = some u:=fun q u hq=>by
  rw [List.getElem?_drop,hin,List.getElem?_take]at hq
  split at hq
  ·
   rwa [Array.getElem?_toList]at hq
  ·
   cases hq
 replace hsz:cur.size=c0_0 * 2:=hsz
 have hw1:w64 ((p.length:Int)+(([x].length:Nat):Int))=((p.length+1:Nat):Int):=by
  simp only [List.length_cons,List.length_nil]
  rw [qCt (by omega) (by omega)]
  omega
 have hw2:w64 ((j:Int)+(([x].length:Nat):Int))=((j+1:Nat):Int):=by
  simp only [List.length_cons,List.length_nil]
  rw [qCt (by omega) (by omega)]
  omega
 refine sq fun K9 hK9=>rg E (.r 0 4<|.y 4 (y_cap (A:=some ⟨g,0,none⟩) (n:=p.length) (c:=c0_0))<|.r 5 1 .nil) fun a E=>?_
 by_cases hroom:w64 ((p.length:Int)+(([x].length:Nat):Int))>(c0_0:Int)
 ·
  replace E:=E.kt 31 hroom
  rw [hw1]at hroom
  refine ct E ?_
  have hw3:w64 (w64 ((p.length:Int)+(([x].length:Nat):Int)) - (j:Int))=((p.length+1 - j:Nat):Int):=by
   rw [hw1,qCt (by omega) (by omega)]
   omega
  refine sq fun K11 hK11=>pl0 (plc E (.r 0 2<|.y 2 (y_hi (e:=216) (z:=2) (g:=g) (n:=p.length) (c:=c0_0) (k:=.i64) (hi:=(j:Int)) ⟨by omega,by omega⟩)<|.r 3 5 .nil) (fun a E=>ple E (.gro (e:=216) (g:=g) (c:=c0_0) (j:=j) (z:=2) (bytes:=16) (k:=w64 (w64 ((p.length:Int)+(([x].length:Nat):Int)) - (j:Int))) S (S.ba 1) (by omega) (by omega) (by rw [hsz]; exact Nat.mul_le_mul_right _ (by omega)) (by rw [hw3]; omega) (by kernel_rfl)) ?_))
  rintro _ w1 a ⟨b,arr,cc,rfl,has,hc1,hc2,hpre,S,hag⟩ E
  rw [hw3]at hc1 E
  have hnb:g2≠b:=S.ne (i:=1) (j:=0) rfl rfl (by decide)
  have hgb:g≠b:=S.ne (i:=2) (j:=0) rfl rfl (by decide)
  have hk3:j+((p.length+1 - j:Nat):Int).toNat=p.length+1:=by rw [Int.toNat_natCast]; omega
  rw [hk3]at hc1 E
  have hpi:arr.toList.take (j * 2)=inner.take (j * 2):=by
   rw [hpre,hin,List.take_take,Nat.min_eq_left (Nat.mul_le_mul_right _ (by omega))]
  obtain ⟨s1,s2,s3⟩:=qDx (sz:=2) (n:=p.length) (i:=j) (cap:=cc) (c0:=arr.toList) (inner:=inner) (cs:=cs) hpi hil hcl (by omega) hc1 (by rw [Array.length_toList]; exact has)
  obtain ⟨C1,hC1⟩:∃ C1,C1=arr.toList.take (j * 2)++cs++arr.toList.drop (j * 2+cs.length):=⟨_,rfl⟩
  rw [← hC1]at s1 s2 s3
  obtain ⟨C2,hC2⟩:∃ C2,C2=C1.take ((j+1) * 2)++inner.drop (j * 2)++C1.drop ((j+1) * 2+(inner.drop (j * 2)).length):=⟨_,rfl⟩
  rw [← hC2]at s1 s2
  refine plc E (.r 9 1 .nil) (fun a E=>pld (hK11 _ _ (sq fun K12 hK12=>pl0 (plc E (.r 0 2<|.y 2 (y_lo (e:=216) (z:=2) (g:=b) (n:=p.length+1) (c:=cc) (k:=.i64) (lo:=(j:Int)) ⟨by omega,by omega⟩ (by omega))<|.r 3 1 .nil) (fun a E=>?_)))))
  have hb2:=S.ba 1
  have hbg:=S.ba 2
  have hmin1:Nat.min [x].length (p.length+1 - (j:Int).toNat)=1:=by
   rw [Int.toNat_natCast]
   simp only [List.length_cons,List.length_nil]
   exact Nat.min_eq_left (by omega)
  refine ple E (.cpy (e:=216) (z:=2) (off:=(j:Int).toNat * 2) (dn:=p.length+1 - (j:Int).toNat) (dc:=cc - (j:Int).toNat) (sn:=[x].length) (sc:=c2_0) (sa:=⟨g2,0,none⟩) S cs (by rw [hmin1,hcl]) (fun q u hq=>by rw [qDA,Nat.zero_add]; exact qCx hb2 (hcget q u hq)) hcone (by
      rw [Int.toNat_natCast,has,hcl]
      have:=Nat.mul_le_mul_right 2 (show j+1≤cc by omega)
      omega) (by kernel_rfl)) ?_
  rintro _ w2 a ⟨rfl,S,hz,hnew,hoth⟩ E
  simp only [Int.toNat_natCast]at S hnew
  rw [← hC1]at S hnew
  refine pld (hK12 _ _ (sq fun K13 hK13=>?_))
  refine drawn 9 ⟨[8],[],fun q=>False⟩ mixed rfl (by kernel_rfl) (fun hst=>?_)
  replace S:=S.drew
  have hbg2:=S.ba 2
  refine mny 1 hst E (.r 0 4<|.y 4 (y_lo (e:=216) (z:=2) (g:=b) (n:=p.length+1) (c:=cc) (k:=.i64) (lo:=w64 ((j:Int)+(([x].length:Nat):Int))) ⟨by omega,by omega⟩ (by omega))<|.r 5 2<|.y 7 (y_lo (e:=216) (z:=2) (g:=g) (n:=p.length) (c:=c0_0) (k:=.i64) (lo:=(j:Int)) ⟨by omega,by omega⟩ (by omega)) .nil) (fun a E=>?_)
  refine on1 8 E (.cpy (e:=216) (z:=2) (off:=(w64 ((j:Int)+(([x].length:Nat):Int))).toNat * 2) (dn:=p.length+1 - (w64 ((j:Int)+(([x].length:Nat):Int))).toNat) (dc:=cc - (w64 ((j:Int)+(([x].length:Nat):Int))).toNat) (sn:=p.length - (j:Int).toNat) (sc:=c0_0 - (j:Int).toNat) (sa:=⟨g,(j:Int).toNat * 2,none⟩) S (inner.drop (j * 2)) (by
      rw [hw2,Int.toNat_natCast,Int.toNat_natCast,hidl,show p.length+1 - (j+1)=p.length - j by omega]
      congr 1
      exact (Nat.min_self _).symm) (fun q u hq=>by rw [qDA,Int.toNat_natCast]; exact qCx hbg2 (higet q u hq)) hione (by
      rw [hw2,Int.toNat_natCast,hidl,List.size_toArray,s3,← Nat.add_mul]
      exact Nat.mul_le_mul_right _ (by omega)) (by kernel_rfl)) ?_
  rintro _ w3 a ⟨rfl,S,hz,hnew,hoth⟩ E
  refine ⟨.d,?_⟩
  refine dn ?_
  rw [hw2,Int.toNat_natCast]at S
  simp only [List.toList_toArray]at S
  rw [← hC2]at S
  refine hK13 _ _ (rr E fun a E=>(wp_ret (qCn ?_)))
  have hrl:r.length=p.length+1:=by rw [← hr]; simp; omega
  have hrr:RepsK qB.k F r (C2.toArray.toList.take (r.length * (qB.k).sz)):=by
   rw [hrl]
   show RepsK qB.k F r (C2.take ((p.length+1) * 2))
   rw [s1,← hr]
   exact qDM hrep hx (by omega) rfl
  have hS2:=S.rerow (c:=cc) r (show C2.toArray.size=cc * 2 by simpa using s2) (by omega) hc2 hrr
  replace hS2:=hS2.front 1 rfl
  replace hS2:=hS2.tail
  replace hS2:=hS2.front 1 rfl
  replace hS2:=hS2.tail
  rw [← hrl]at E
  exact rt1 E ⟨_,rfl,F,_,_,rfl,hS2⟩
 replace E:=E.kf 31 hroom
 rw [hw1]at hroom
 have hrm:p.length+1≤c0_0:=by omega
 refine cf E (wp_skip (hK9 _ _ ?_))
 obtain ⟨s1,s2,s3⟩:=qEQ (sz:=2) (n:=p.length) (i:=j) (cap:=c0_0) (cur:=cur.toList) (inner:=inner) (cs:=cs) hin.symm hcl (by omega) hrm (by rw [Array.length_toList]; exact hsz)
 obtain ⟨C1,hC1⟩:∃ C1,C1=cur.toList.take ((j+1) * 2)++inner.drop (j * 2)++cur.toList.drop ((j+1) * 2+(inner.drop (j * 2)).length):=⟨_,rfl⟩
 rw [← hC1]at s1 s2 s3
 obtain ⟨C2,hC2⟩:∃ C2,C2=C1.take (j * 2)++cs++C1.drop (j * 2+cs.length):=⟨_,rfl⟩
 rw [← hC2]at s1 s2
 refine rg E (.r 0 4<|.y 4 (y_hi (e:=216) (z:=2) (g:=g) (n:=p.length) (c:=c0_0) (k:=.i64) (hi:=w64 ((p.length:Int)+(([x].length:Nat):Int))) ⟨by omega,by omega⟩)<|.r 5 1 .nil) fun a E=>?_
 have hn1:(w64 ((p.length:Int)+(([x].length:Nat):Int))).toNat=p.length+1:=by rw [hw1,Int.toNat_natCast]
 rw [hn1]at E
 refine sq fun K16 hK16=>sq fun K17 hK17=>pl0 (plc E (.r 0 5<|.y 5 (y_lo (e:=216) (z:=2) (g:=g) (n:=p.length+1) (c:=c0_0) (k:=.i64) (lo:=w64 ((j:Int)+(([x].length:Nat):Int))) ⟨by omega,by omega⟩ (by omega)) .nil) (fun a E=>?_))
 have hb2:=S.ba 0
 have hbg:=S.ba 1
 have hcz:cur.size≠0:=by rw [hsz]; exact Nat.mul_ne_zero (by omega) (by decide)
 refine ple E (.ext (f:=261) (args:=[.slice (pb g2) [x].length c2_0,.slice (some ⟨g,(w64 ((j:Int)+(([x].length:Nat):Int))).toNat * 2,none⟩) (p.length+1 - (w64 ((j:Int)+(([x].length:Nat):Int))).toNat) (c0_0 - (w64 ((j:Int)+(([x].length:Nat):Int))).toNat)]) (v:=.bool false) (R:=fun v w'=>v = .bool false∧w'=_) (by
    rw [run_callFunc_extern Tryz.func261 (by kernel_rfl) (by kernel_rfl) (by kernel_rfl) (e:=Extern.SlicesOverlaps.overlaps #[177,177] #[4]) (by kernel_rfl)]
    refine (congrArg (fun r:Result Value=>r.andThen fun v w'=>Result.ok (Next.value v) w') (Lib.run_overlaps_apart _ 177 4 216 Tryz.underlying177 2 (fun _=>by kernel_rfl) ⟨g2,0,none⟩ ⟨g,(w64 ((j:Int)+(([x].length:Nat):Int))).toNat * 2,none⟩ [x].length c2_0 _ _ hne 216 216 cur2.size cur.size (by simp [World.shape?,hb2]) (by simp [World.shape?,hbg]) hcz (by simp [World.frozen?,hb2]) (by simp [World.frozen?,hb2]))).trans rfl) ⟨rfl,rfl⟩) ?_
 rintro _ _ a ⟨rfl,rfl⟩ E
 refine plc E (.r 7 1 .nil) (fun a E=>pld (hK17 _ _ (ct E (sq fun K18 hK18=>?_))))
 refine drawn 9 ⟨[8],[],fun q=>False⟩ mixed rfl (by kernel_rfl) (fun hst=>?_)
 replace S:=S.drew
 replace S:=S.front 1 rfl
 have hbg2:=S.ba 0
 refine mny 1 hst E (.r 0 4<|.y 4 (y_lo (e:=216) (z:=2) (g:=g) (n:=p.length+1) (c:=c0_0) (k:=.i64) (lo:=w64 ((j:Int)+(([x].length:Nat):Int))) ⟨by omega,by omega⟩ (by omega))<|.r 5 2<|.y 7 (y_lo (e:=216) (z:=2) (g:=g) (n:=p.length+1) (c:=c0_0) (k:=.i64) (lo:=(j:Int)) ⟨by omega,by omega⟩ (by omega)) .nil) (fun a E=>?_)
 refine on1 8 E (.cpy (e:=216) (z:=2) (off:=(w64 ((j:Int)+(([x].length:Nat):Int))).toNat * 2) (dn:=p.length+1 - (w64 ((j:Int)+(([x].length:Nat):Int))).toNat) (dc:=c0_0 - (w64 ((j:Int)+(([x].length:Nat):Int))).toNat) (sn:=p.length+1 - (j:Int).toNat) (sc:=c0_0 - (j:Int).toNat) (sa:=⟨g,(j:Int).toNat * 2,none⟩) S (inner.drop (j * 2)) (by
    rw [hw2,Int.toNat_natCast,Int.toNat_natCast,hidl,show p.length+1 - (j+1)=p.length - j by omega]
    congr 1
    exact (Nat.min_eq_right (by omega)).symm) (fun q u hq=>by rw [qDA,Int.toNat_natCast]; exact qCx hbg2 (higet q u hq)) hione (by
    rw [hw2,Int.toNat_natCast,hidl,hsz,← Nat.add_mul]
    exact Nat.mul_le_mul_right _ (by omega)) (by kernel_rfl)) ?_
 rintro _ w2 a ⟨rfl,S,hz,hnew,hoth⟩ E
 refine ⟨.d,?_⟩
 refine dn ?_
 rw [hw2,Int.toNat_natCast,← hC1]at S
 refine hK18 _ _ (sq fun K19 hK19=>pl0 ?_)
 have hb3:=S.ba 1
 refine plc E (.r 0 2<|.y 2 (y_lo (e:=216) (z:=2) (g:=g) (n:=p.length+1) (c:=c0_0) (k:=.i64) (lo:=(j:Int)) ⟨by omega,by omega⟩ (by omega))<|.r 3 1 .nil) (fun a E=>?_)
 have hmin1:Nat.min [x].length (p.length+1 - (j:Int).toNat)=1:=by
  rw [Int.toNat_natCast]
  simp only [List.length_cons,List.length_nil]
  exact Nat.min_eq_left (by omega)
 refine ple E (.cpy (e:=216) (z:=2) (off:=(j:Int).toNat * 2) (dn:=p.length+1 - (j:Int).toNat) (dc:=c0_0 - (j:Int).toNat) (sn:=[x].length) (sc:=c2_0) (sa:=⟨g2,0,none⟩) S cs (by rw [hmin1,hcl]) (fun q u hq=>by rw [qDA,Nat.zero_add]; exact qCx hb3 (hcget q u hq)) hcone (by
    rw [Int.toNat_natCast,List.size_toArray,s3,hcl]
    have:=Nat.mul_le_mul_right 2 (show j+1≤c0_0 by omega)
    omega) (by kernel_rfl)) ?_
 rintro _ w3 a ⟨rfl,S,hz,hnew,hoth⟩ E
 simp only [Int.toNat_natCast,List.toList_toArray]at S
 rw [← hC2]at S
 refine pld (hK19 _ _ (rr E fun a E=>(wp_ret (qCn ?_))))
 have hrl:r.length=p.length+1:=by rw [← hr]; simp; omega
 have hrr:RepsK qB.k F r (C2.toArray.toList.take (r.length * (qB.k).sz)):=by
  rw [hrl]
  show RepsK qB.k F r (C2.take ((p.length+1) * 2))
  rw [s1,← hr]
  exact qDM hrep hx (by omega) rfl
 have hS2:=S.rerow (c:=c0_0) r (show C2.toArray.size=c0_0 * 2 by simpa using s2) (by omega) hxc.2 hrr
 replace hS2:=hS2.front 1 rfl
 replace hS2:=hS2.tail
 rw [← hrl]at E
 exact rt1 E ⟨_,rfl,F,_,_,rfl,hS2⟩
end Go.Proofs.YtpohepinmjmbkaaGreat.PJ
