import Derived.Test.YtpohepinmjmbkaaGreatPP1
namespace Go.Proofs.YtpohepinmjmbkaaGreat.PP
open Go Go.RowKit Go.Proofs.YtpohepinmjmbkaaGreat.Sl
set_option linter.unusedVariables false
set_option linter.unusedSimpArgs false
set_option maxHeartbeats 4000000
set_option maxRecDepth 100000
def qAY.l12:Nat→List qA→List Int→Int→Option (List qB)
 | 0,_,_,_=>none
 | k+1,x,l10,x11=>if x11<(x.length:Int) then (if 0≤x11∧x11<(x.length:Int) then (if 0≤x11∧x11<((List.replicate ((x.length:Int)).toNat (0:Int)).length:Int) then (qAY.l12 k x (l10.set (x11).toNat ((nth qA.z x x11).f1)) (w64 (x11+1))) else (none)) else (none)) else ((qn.f k x l10).bind fun t40=>(some t40))
theorem qAY.l12_s k x l10 x11:type_of% (qAY.l12.eq_2 x l10 x11 k):=qAY.l12.eq_2 x l10 x11 k
def qAY.f(k:Nat)(x:List qA):Option (List qB):=if 0≤(x.length:Int)∧(x.length:Int) * 8≤140737488355328 then (qAY.l12 k x (List.replicate ((x.length:Int)).toNat (0:Int)) 0) else (none)
def qAY.Post(W F:World)(r:List qB)(v:Value)(w':World):Prop:=∃(F':World)(RA0_0:OA)(rc0_0:Nat),v = .slice RA0_0 r.length rc0_0∧Sm W F w' F' [row qB.k 216 (.slice RA0_0 r.length rc0_0) r]
theorem qAY.calls(k:Nat)(x:List qA)(A0_0:OA)(c0_0:Nat)(r:List qB)(W F:World)(hown:Sub F W)(g0_0:Rd qA.k F A0_0 c0_0 x)(H:qAY.f k x=some r):
    Cr 169 #[.slice A0_0 x.length c0_0] W (qAY.Post W F r):=by
 have S:=St.start (Own.nil hown)
 unfold qAY.f at H
 refine ent 25 rfl rfl rfl (fun a E=>?_)
 refine rr E fun a E=>(sq fun K2 hK2=>pl0 (plc E (.r 0 2 .nil) (fun a E=>?_)))
 obtain ⟨c3,H⟩:=gd H
 refine ple E (.mk (d:=ki) (e:=3) 8 0 S c3 (by rw [zr3]; exact rfl)) ?_
 rintro _ u6 a ⟨A4,c5,rfl,S,hg⟩ E
 refine plc E (.r 3 1 .nil) (fun a E=>pld (hK2 _ _ (sq fun K8 hK8=>rr E fun a E=>(wp_block ?_))))
 refine wp_loop_ghost (fun kq13 a w'=>∃(G:NV)(l10:List Int)(x11:Int),kq13≤k∧Env 25 G a∧At G [(0,.slice A0_0 x.length c0_0),(3,.slice A4 ((List.replicate ((x.length:Int)).toNat (0:Int)).length) c5),(4,iv x11)]∧Sm W F w' F [row ki 3 (.slice A4 ((List.replicate ((x.length:Int)).toNat (0:Int)).length) c5) l10]∧qAY.l12 kq13 x l10 x11=some r) k ⟨_,(List.replicate ((x.length:Int)).toNat (0:Int)),0,Nat.le_refl _,E,.of,S,H⟩ ?_
 rintro kq13 a u15 ⟨G,l10,x11,hkq,E,A,S,H⟩
 obtain _ | k14:=kq13
 exact zz H
 rw [qAY.l12_s]at H
 obtain ⟨J,E⟩:=E.at A
 refine sq fun K16 hK16=>rr E fun a E=>(E.ik 11 H (fun c18 E H=>?_) fun c18 E H=>?_)
 refine wp_skip (hK16 _ _ (sq fun K19 hK19=>wp_block (pl0 ?_)))
 obtain ⟨c20,H⟩:=gd H
 have hE_:=E
 obtain ⟨ad21,rfl⟩:=g0_0.addr c20.1 c20.2
 replace E:=hE_
 obtain ⟨cs23,rfl,hc24⟩:=g0_0.el qA.z x11 c20.1 c20.2
 obtain ⟨c25,H⟩:=gd H
 have hr26:=S.ra 0
 have c27:0≤x11∧x11<(l10.length:Int):=by rw [← (qCZ hr26).1]; exact c25
 have hE_:=E
 obtain ⟨b28,rfl⟩:=qCc hr26 c27.1 c27.2
 replace E:=hE_
 have hr_:=S.ra 0
 obtain ⟨cs30,rfl,hc31⟩:=qCa hr_ 0 x11 c27.1 c27.2
 refine plc E (.r 0 4<|.x 4 c20<|.r 5 1<|.c 6 (S.fc hc24 1)<|.x 7 c25<|.nil) (fun a E=>?_)
 obtain ⟨cs33,rfl,hc34⟩:=qCa (S.row_at (i:=0) rfl) 0 x11 c27.1 c27.2
 refine ple E (.set (d:=ki) (n:=(List.replicate ((x.length:Int)).toNat (0:Int)).length) (i:=x11) ((nth qA.z x x11).f1) (0) (ea0 _ _) S c27 [iv (nth 0 l10 x11)] hc34 [iv ((nth qA.z x x11).f1)] rfl) ?_
 rintro _ u32 a ⟨rfl,S,hz⟩ E
 refine pld ?_
 refine qCX ?_
 refine hK19 _ _ (pl0 (plc E (.r 0 3 .nil) (fun a E=>pld ?_)))
 exact qCY ⟨k14,by omega,_,(l10.set (x11).toNat ((nth qA.z x x11).f1)),(w64 (x11+1)),by omega,E,.of,S,H⟩
 refine wp_exit ?_
 refine hK8 _ _ (sq fun K35 hK35=>pl0 (plc E (.r 0 2 .nil) (fun a E=>?_)))
 have hn36:=(qCZ (S.row_at (i:=0) rfl)).1
 replace E:=E.set (d:=3) (v:=.slice A4 l10.length c5) (Eq.trans (b:=.slice A4 ((List.replicate ((x.length:Int)).toNat (0:Int)).length) c5) (by kernel_rfl) (by rw [← hn36]))
 replace E:=E.set (d:=23) (v:=.slice A4 l10.length c5) (Eq.trans (b:=.slice A4 ((List.replicate ((x.length:Int)).toNat (0:Int)).length) c5) (by kernel_rfl) (by rw [← hn36]))
 replace S:Sm W F u15 F [row ki 3 (.slice A4 l10.length c5) l10]:=by rw [← hn36]; exact S
 obtain ⟨F37,hs,g38,S⟩:=S.give
 replace g0_0:=g0_0.mono hs
 obtain ⟨t40,h41,H⟩:=bd H
 refine ple E (.cl en206 (qn.calls k14 x l10 _ _ _ _ _ _ _ S.own.sub g0_0 g38 h41)) ?_
 rintro _ u39 a ⟨F42,A43,c44,rfl,hC⟩ E
 have hs:=hC.sub
 replace S:=S.called (X:=[]) hC
 replace g0_0:=g0_0.mono hs
 replace g38:=g38.mono hs
 refine plc E (.r 3 1 .nil) (fun a E=>pld (hK35 _ _ (wp_ret ?_)))
 obtain rfl:=si H
 exact rt1 E ⟨_,rfl,_,_,_,rfl,S⟩
def qAW.l12:Nat→List qA→Int→List Int→Int→Option (List qB)
 | 0,_,_,_,_=>none
 | k+1,x,y,l10,x11=>if x11<(x.length:Int) then (if 0≤x11∧x11<(x.length:Int) then (if (nth qA.z x x11).f1=y then (if 0≤x11∧x11<((List.replicate ((x.length:Int)).toNat (0:Int)).length:Int) then (qAW.l12 k x y (l10.set (x11).toNat ((nth qA.z x x11).f2)) (w64 (x11+1))) else (none)) else (qAW.l12 k x y l10 (w64 (x11+1)))) else (none)) else ((qn.f k x l10).bind fun t45=>(some t45))
theorem qAW.l12_s k x y l10 x11:type_of% (qAW.l12.eq_2 x y l10 x11 k):=qAW.l12.eq_2 x y l10 x11 k
def qAW.f(k:Nat)(x:List qA)(y:Int):Option (List qB):=if 0≤(x.length:Int)∧(x.length:Int) * 8≤140737488355328 then (qAW.l12 k x y (List.replicate ((x.length:Int)).toNat (0:Int)) 0) else (none)
def qAW.Post(W F:World)(r:List qB)(v:Value)(w':World):Prop:=∃(F':World)(RA0_0:OA)(rc0_0:Nat),v = .slice RA0_0 r.length rc0_0∧Sm W F w' F' [row qB.k 216 (.slice RA0_0 r.length rc0_0) r]
theorem qAW.calls(k:Nat)(x:List qA)(y:Int)(A0_0:OA)(c0_0:Nat)(r:List qB)(W F:World)(hown:Sub F W)(g0_0:Rd qA.k F A0_0 c0_0 x)(H:qAW.f k x y=some r):
    Cr 170 #[.slice A0_0 x.length c0_0,iv y] W (qAW.Post W F r):=by
 have S:=St.start (Own.nil hown)
 unfold qAW.f at H
 refine ent 34 rfl rfl rfl (fun a E=>?_)
 refine rr E fun a E=>(sq fun K2 hK2=>pl0 (plc E (.r 0 2 .nil) (fun a E=>?_)))
 obtain ⟨c3,H⟩:=gd H
 refine ple E (.mk (d:=ki) (e:=3) 8 0 S c3 (by rw [zr3]; exact rfl)) ?_
 rintro _ u6 a ⟨A4,c5,rfl,S,hg⟩ E
 refine plc E (.r 3 1 .nil) (fun a E=>pld (hK2 _ _ (sq fun K8 hK8=>rr E fun a E=>(wp_block ?_))))
 refine wp_loop_ghost (fun kq13 a w'=>∃(G:NV)(l10:List Int)(x11:Int),kq13≤k∧Env 34 G a∧At G [(0,.slice A0_0 x.length c0_0),(1,iv y),(5,.slice A4 ((List.replicate ((x.length:Int)).toNat (0:Int)).length) c5),(6,iv x11)]∧Sm W F w' F [row ki 3 (.slice A4 ((List.replicate ((x.length:Int)).toNat (0:Int)).length) c5) l10]∧qAW.l12 kq13 x y l10 x11=some r) k ⟨_,(List.replicate ((x.length:Int)).toNat (0:Int)),0,Nat.le_refl _,E,.of,S,H⟩ ?_
 rintro kq13 a u15 ⟨G,l10,x11,hkq,E,A,S,H⟩
 obtain _ | k14:=kq13
 exact zz H
 rw [qAW.l12_s]at H
 obtain ⟨J,E⟩:=E.at A
 refine sq fun K16 hK16=>rr E fun a E=>(E.ik 13 H (fun c18 E H=>?_) fun c18 E H=>?_)
 refine wp_skip (hK16 _ _ (sq fun K19 hK19=>wp_block (sq fun K20 hK20=>pl0 ?_)))
 obtain ⟨c21,H⟩:=gd H
 have hE_:=E
 obtain ⟨ad22,rfl⟩:=g0_0.addr c21.1 c21.2
 replace E:=hE_
 obtain ⟨cs24,rfl,hc25⟩:=g0_0.el qA.z x11 c21.1 c21.2
 refine plc E (.r 0 2<|.x 2 c21<|.r 3 1<|.c 4 (S.fc hc25 1)<|.r 5 2<|.nil) (fun a E=>pld (hK20 _ _ (E.ik 22 H (fun c26 E H=>?_) fun c26 E H=>?_)))
 refine pl0 ?_
 obtain ⟨c30,H⟩:=gd H
 have hr31:=S.ra 0
 have c32:0≤x11∧x11<(l10.length:Int):=by rw [← (qCZ hr31).1]; exact c30
 have hE_:=E
 obtain ⟨b33,rfl⟩:=qCc hr31 c32.1 c32.2
 replace E:=hE_
 have hr_:=S.ra 0
 obtain ⟨cs35,rfl,hc36⟩:=qCa hr_ 0 x11 c32.1 c32.2
 refine plc E (.r 0 4<|.x 4 c21<|.r 5 1<|.c 6 (S.fc hc25 2)<|.x 7 c30<|.nil) (fun a E=>?_)
 obtain ⟨cs38,rfl,hc39⟩:=qCa (S.row_at (i:=0) rfl) 0 x11 c32.1 c32.2
 refine ple E (.set (d:=ki) (n:=(List.replicate ((x.length:Int)).toNat (0:Int)).length) (i:=x11) ((nth qA.z x x11).f2) (0) (ea0 _ _) S c32 [iv (nth 0 l10 x11)] hc39 [iv ((nth qA.z x x11).f2)] rfl) ?_
 rintro _ u37 a ⟨rfl,S,hz⟩ E
 refine pld ?_
 refine qCX ?_
 refine hK19 _ _ (pl0 (plc E (.r 0 3 .nil) (fun a E=>pld ?_)))
 exact qCY ⟨k14,by omega,_,(l10.set (x11).toNat ((nth qA.z x x11).f2)),(w64 (x11+1)),by omega,E,.of,S,H⟩
 refine wp_skip ?_
 refine qCX ?_
 refine hK19 _ _ (pl0 (plc E (.r 0 3 .nil) (fun a E=>pld ?_)))
 exact qCY ⟨k14,by omega,_,l10,(w64 (x11+1)),by omega,E,.of,S,H⟩
 refine wp_exit ?_
 refine hK8 _ _ (sq fun K40 hK40=>pl0 (plc E (.r 0 2 .nil) (fun a E=>?_)))
 have hn41:=(qCZ (S.row_at (i:=0) rfl)).1
 replace E:=E.set (d:=5) (v:=.slice A4 l10.length c5) (Eq.trans (b:=.slice A4 ((List.replicate ((x.length:Int)).toNat (0:Int)).length) c5) (by kernel_rfl) (by rw [← hn41]))
 replace E:=E.set (d:=32) (v:=.slice A4 l10.length c5) (Eq.trans (b:=.slice A4 ((List.replicate ((x.length:Int)).toNat (0:Int)).length) c5) (by kernel_rfl) (by rw [← hn41]))
 replace S:Sm W F u15 F [row ki 3 (.slice A4 l10.length c5) l10]:=by rw [← hn41]; exact S
 obtain ⟨F42,hs,g43,S⟩:=S.give
 replace g0_0:=g0_0.mono hs
 obtain ⟨t45,h46,H⟩:=bd H
 refine ple E (.cl en206 (qn.calls k14 x l10 _ _ _ _ _ _ _ S.own.sub g0_0 g43 h46)) ?_
 rintro _ u44 a ⟨F47,A48,c49,rfl,hC⟩ E
 have hs:=hC.sub
 replace S:=S.called (X:=[]) hC
 replace g0_0:=g0_0.mono hs
 replace g43:=g43.mono hs
 refine plc E (.r 3 1 .nil) (fun a E=>pld (hK40 _ _ (wp_ret ?_)))
 obtain rfl:=si H
 exact rt1 E ⟨_,rfl,_,_,_,rfl,S⟩
def qBA.f(x:Int):Option Int:=some (IntKind.u64.wrap ((IntKind.u64.wrap ((IntKind.u64.wrap (x.tdiv 4294967296)) * 4294967296))+(IntKind.u64.wrap (((BitVec.ofInt 64 (x.tmod 4294967296) ^^^ BitVec.ofInt 64 (IntKind.u64.wrap (x.tdiv 4294967296))).toNat:Int)))))
def qBA.Post(W F:World)(r:Int)(v:Value)(w':World):Prop:=∃(F':World),v = .int .u64 r∧Sm W F w' F' []
theorem qBA.calls(x:Int)(r:Int)(W F:World)(hown:Sub F W)(H:qBA.f x=some r):
    Cr 231 #[.int .u64 x] W (qBA.Post W F r):=by
 have S:=St.start (Own.nil hown)
 unfold qBA.f at H
 refine ent 15 rfl rfl rfl (fun a E=>?_)
 refine rr E fun a E=>(rr E fun a E=>(rr E fun a E=>(wp_ret ?_)))
 obtain rfl:=si H
 exact rt1 E ⟨_,rfl,_,rfl,S⟩
def qBL.f(x:Int):Option Int:=(qBA.f x).bind fun t4=>((qBA.f (IntKind.u64.wrap (t4 * 15485907386658061715))).bind fun t8=>((qBA.f (IntKind.u64.wrap (t8 * 15485907386658061715))).bind fun t12=>(some t12)))
def qBL.Post(W F:World)(r:Int)(v:Value)(w':World):Prop:=∃(F':World),v = .int .u64 r∧Sm W F w' F' []
theorem qBL.calls(x:Int)(r:Int)(W F:World)(hown:Sub F W)(H:qBL.f x=some r):
    Cr 209 #[.int .u64 x] W (qBL.Post W F r):=by
 have S:=St.start (Own.nil hown)
 unfold qBL.f at H
 refine ent 11 rfl rfl rfl (fun a E=>?_)
 refine rr E fun a E=>(sq fun K2 hK2=>pl0 (plc E (.r 0 1 .nil) (fun a E=>?_)))
 obtain ⟨t4,h5,H⟩:=bd H
 refine plq E S en231 (qBA.calls x _ _ _ S.own.sub h5) fun u3 S a E=>plc E (.r 2 2 .nil) (fun a E=>pld (hK2 _ _ (sq fun K6 hK6=>pl0 (plc E (.r 0 1 .nil) (fun a E=>?_)))))
 obtain ⟨t8,h9,H⟩:=bd H
 refine plq E S en231 (qBA.calls (IntKind.u64.wrap (t4 * 15485907386658061715)) _ _ _ S.own.sub h9) fun u7 S a E=>plc E (.r 2 2 .nil) (fun a E=>pld (hK6 _ _ (sq fun K10 hK10=>pl0 (plc E (.r 0 1 .nil) (fun a E=>?_)))))
 obtain ⟨t12,h13,H⟩:=bd H
 refine plq E S en231 (qBA.calls (IntKind.u64.wrap (t8 * 15485907386658061715)) _ _ _ S.own.sub h13) fun u11 S a E=>plc E (.r 2 1 .nil) (fun a E=>pld (hK10 _ _ (wp_ret ?_)))
 obtain rfl:=si H
 exact rt1 E ⟨_,rfl,_,rfl,S⟩
def qAR.l10:Nat→List Int→Int→Int→Option Int
 | 0,_,_,_=>none
 | k+1,y,x8,x9=>if x9<(y.length:Int) then (if 0≤x9∧x9<(y.length:Int) then ((qBL.f (IntKind.u64.wrap ((IntKind.u64.wrap (((BitVec.ofInt 64 x8 ^^^ BitVec.ofInt 64 (nth 0 y x9)).toNat:Int)))+11400714819323198485))).bind fun t24=>(qAR.l10 k y t24 (w64 (x9+1)))) else (none)) else (some x8)
theorem qAR.l10_s k y x8 x9:type_of% (qAR.l10.eq_2 y x8 x9 k):=qAR.l10.eq_2 y x8 x9 k
def qAR.f(k:Nat)(x:Int)(y:List Int):Option Int:=(qBL.f x).bind fun t4=>(qAR.l10 k y t4 0)
def qAR.Post(W F:World)(r:Int)(v:Value)(w':World):Prop:=∃(F':World),v = .int .u64 r∧Sm W F w' F' []
theorem qAR.calls(k:Nat)(x:Int)(y:List Int)(A1_0:OA)(c1_0:Nat)(r:Int)(W F:World)(hown:Sub F W)(g1_0:Rd (Kn.int .u64) F A1_0 c1_0 y)(H:qAR.f k x y=some r):
    Cr 172 #[.int .u64 x,.slice A1_0 y.length c1_0] W (qAR.Post W F r):=by
 have S:=St.start (Own.nil hown)
 unfold qAR.f at H
 refine ent 24 rfl rfl rfl (fun a E=>?_)
 refine rr E fun a E=>(sq fun K2 hK2=>pl0 (plc E (.r 0 1 .nil) (fun a E=>?_)))
 obtain ⟨t4,h5,H⟩:=bd H
 refine plq E S en209 (qBL.calls x _ _ _ S.own.sub h5) fun u3 S a E=>plc E (.r 2 1 .nil) (fun a E=>pld (hK2 _ _ (sq fun K6 hK6=>rr E fun a E=>(wp_block ?_))))
 refine wp_loop_ghost (fun kq11 a w'=>∃(G:NV)(x8:Int)(x9:Int),kq11≤k∧Env 24 G a∧At G [(1,.slice A1_0 y.length c1_0),(5,.int .u64 x8),(6,iv x9)]∧Sm W F w' F []∧qAR.l10 kq11 y x8 x9=some r) k ⟨_,t4,0,Nat.le_refl _,E,.of,S,H⟩ ?_
 rintro kq11 a u13 ⟨G,x8,x9,hkq,E,A,S,H⟩
 obtain _ | k12:=kq11
 exact zz H
 rw [qAR.l10_s]at H
 obtain ⟨J,E⟩:=E.at A
 refine sq fun K14 hK14=>rr E fun a E=>(E.ik 12 H (fun c16 E H=>?_) fun c16 E H=>?_)
 refine wp_skip (hK14 _ _ (sq fun K17 hK17=>wp_block (pl0 ?_)))
 obtain ⟨c18,H⟩:=gd H
 have hE_:=E
 obtain ⟨ad19,rfl⟩:=g1_0.addr c18.1 c18.2
 replace E:=hE_
 obtain ⟨cs21,rfl,hc22⟩:=g1_0.el 0 x9 c18.1 c18.2
 refine plc E (.r 0 3<|.x 3 c18<|.c 4 (S.fc hc22 0)<|.r 5 2<|.nil) (fun a E=>?_)
 obtain ⟨t24,h25,H⟩:=bd H
 refine plq E S en209 (qBL.calls (IntKind.u64.wrap ((IntKind.u64.wrap (((BitVec.ofInt 64 x8 ^^^ BitVec.ofInt 64 (nth 0 y x9)).toNat:Int)))+11400714819323198485)) _ _ _ S.own.sub h25) fun u23 S a E=>plc E (.r 8 1 .nil) (fun a E=>pld ?_)
 refine qCX ?_
 refine hK17 _ _ (pl0 (plc E (.r 0 3 .nil) (fun a E=>pld ?_)))
 exact qCY ⟨k12,by omega,_,t24,(w64 (x9+1)),by omega,E,.of,S,H⟩
 refine wp_exit ?_
 refine hK6 _ _ (rr E fun a E=>(wp_ret ?_))
 obtain rfl:=si H
 exact rt1 E ⟨_,rfl,_,rfl,S⟩
mutual
def qm.j6:Nat→Int→Bool→Option Int
 | 0,_,_=>none
 | k+1,x,y5=>if y5=true then (some 0) else (if x≤32768 then ((qm.f k (w64 (2 * x))).bind fun t18=>(some (w64 (65536+t18)))) else (qm.l27 k (IntKind.u64.wrap ((IntKind.u64.wrap x) * 32768)) 0 0))
def qm.l27:Nat→Int→Int→Int→Option Int
 | 0,_,_,_=>none
 | k+1,x24,x25,x26=>if x26<16 then (if (IntKind.u64.wrap ((IntKind.u64.wrap (x24 * x24)).tdiv 2147483648))≤1073741824 then (qm.l27 k (IntKind.u64.wrap (2 * (IntKind.u64.wrap ((IntKind.u64.wrap (x24 * x24)).tdiv 2147483648)))) (w64 ((w64 (2 * x25))+1)) (w64 (x26+1))) else (qm.l27 k (IntKind.u64.wrap ((IntKind.u64.wrap (x24 * x24)).tdiv 2147483648)) (w64 (2 * x25)) (w64 (x26+1)))) else (some x25)
def qm.f:Nat→Int→Option Int
 | 0,_=>none
 | k+1,x=>if x<1 then (qm.j6 k x true) else (qm.j6 k x (decide (x>65536)))
end
theorem qm.j6_s k x y5:type_of% (qm.j6.eq_2 x y5 k):=qm.j6.eq_2 x y5 k
theorem qm.l27_s k x24 x25 x26:type_of% (qm.l27.eq_2 x24 x25 x26 k):=qm.l27.eq_2 x24 x25 x26 k
theorem qm.f_s k x:type_of% (qm.f.eq_2 x k):=qm.f.eq_2 x k
def qm.Post(W F:World)(r:Int)(v:Value)(w':World):Prop:=∃(F':World),v=iv r∧Sm W F w' F' []
theorem qm.calls:∀(k:Nat)(x:Int)(r:Int)(W F:World)(hown:Sub F W)(H:qm.f k x=some r),
    Cr 251 #[iv x] W (qm.Post W F r):=by
 intro k
 induction k using Nat.strongRecOn
 rename_i k ih
 intro x r W F hown H
 obtain _ | k1:=k
 exact zz H
 have S:=St.start (Own.nil hown)
 rw [qm.f_s]at H
 refine ent 38 rfl rfl rfl (fun a E=>?_)
 refine rr E fun a E=>(sq fun K2 hK2=>sq fun K3 hK3=>?_)
 have J9:∀ kq7,kq7≤k1→∀(G:NV)(y5:Bool)(a:Act)(w':World),Env 38 G a→At G [(0,iv x),(11,.bool y5)]→Sm W F w' F []→qm.j6 kq7 x y5=some r→K3 a w':=by
  intro kq7 hkq G y5 a u10 E A S H
  obtain _ | k8:=kq7
  exact zz H
  rw [qm.j6_s]at H
  obtain ⟨J,E⟩:=E.at A
  refine hK3 _ _ (E.ib 11 H (fun c11 E H=>?_) fun c11 E H=>?_)
  refine rr E fun a E=>(wp_ret (qCV ?_))
  obtain rfl:=si H
  exact rt1 E ⟨_,rfl,_,rfl,S⟩
  refine wp_skip (hK2 _ _ (sq fun K13 hK13=>rr E fun a E=>(E.ik 13 H (fun c15 E H=>?_) fun c15 E H=>?_)))
  refine sq fun K16 hK16=>pl0 (plc E (.r 0 2 .nil) (fun a E=>?_))
  obtain ⟨t18,h19,H⟩:=bd H
  refine plq E S en251 (ih k8 (by omega) (w64 (2 * x)) _ _ _ S.own.sub h19) fun u17 S a E=>plc E (.r 3 2 .nil) (fun a E=>pld (hK16 _ _ (wp_ret (qCV ?_))))
  obtain rfl:=si H
  exact rt1 E ⟨_,rfl,_,rfl,S⟩
  refine wp_skip (hK13 _ _ (rr E fun a E=>(rr E fun a E=>(sq fun K22 hK22=>rr E fun a E=>(wp_block ?_)))))
  refine wp_loop_ghost (fun kq28 a w'=>∃(G:NV)(x24:Int)(x25:Int)(x26:Int),kq28≤k8∧Env 38 G a∧At G [(3,.int .u64 x24),(4,iv x25),(5,iv x26)]∧Sm W F w' F []∧qm.l27 kq28 x24 x25 x26=some r) k8 ⟨_,(IntKind.u64.wrap ((IntKind.u64.wrap x) * 32768)),0,0,Nat.le_refl _,E,.of,S,H⟩ ?_
  rintro kq28 a u30 ⟨G,x24,x25,x26,hkq,E,A,S,H⟩
  obtain _ | k29:=kq28
  exact zz H
  rw [qm.l27_s]at H
  obtain ⟨J,E⟩:=E.at A
  refine sq fun K31 hK31=>rr E fun a E=>(E.ik 22 H (fun c33 E H=>?_) fun c33 E H=>?_)
  refine wp_skip (hK31 _ _ (sq fun K34 hK34=>wp_block (rr E fun a E=>(rr E fun a E=>(rr E fun a E=>(E.ik 32 H (fun c38 E H=>?_) fun c38 E H=>?_))))))
  refine rr E fun a E=>(pl0 (plc E (.r 0 3 .nil) (fun a E=>pld ?_)))
  refine qCX ?_
  refine hK34 _ _ (pl0 (plc E (.r 0 3 .nil) (fun a E=>pld ?_)))
  exact qCY ⟨k29,by omega,_,(IntKind.u64.wrap (2 * (IntKind.u64.wrap ((IntKind.u64.wrap (x24 * x24)).tdiv 2147483648)))),(w64 ((w64 (2 * x25))+1)),(w64 (x26+1)),by omega,E,.of,S,H⟩
  refine wp_skip ?_
  refine qCX ?_
  refine hK34 _ _ (pl0 (plc E (.r 0 3 .nil) (fun a E=>pld ?_)))
  exact qCY ⟨k29,by omega,_,(IntKind.u64.wrap ((IntKind.u64.wrap (x24 * x24)).tdiv 2147483648)),(w64 (2 * x25)),(w64 (x26+1)),by omega,E,.of,S,H⟩
  refine wp_exit ?_
  refine hK22 _ _ (rr E fun a E=>(wp_ret ?_))
  obtain rfl:=si H
  exact rt1 E ⟨_,rfl,_,rfl,S⟩
 refine pl0 (plc E (.r 0 3 .nil) (fun a E=>E.fk 8 H (fun c4 E H=>?_) fun c4 E H=>?_))
 refine plc E (.r 3 3 .nil) (fun a E=>pld ?_)
 exact J9 _ (by omega) _ true _ _ E .of S H
 refine plc E (.r 3 3 .nil) (fun a E=>pld ?_)
 exact J9 _ (by omega) _ (decide (x>65536)) _ _ E .of S H
def qBI.f(k:Nat)(x:Int)(y:Int):Option Int:=(qAR.f k x [(IntKind.u64.wrap y)]).bind fun t8=>((qm.f k (w64 (1+(w64 (IntKind.u64.wrap (t8.tdiv 281474976710656)))))).bind fun t11=>(some t11))
def qBI.Post(W F:World)(r:Int)(v:Value)(w':World):Prop:=∃(F':World),v=iv r∧Sm W F w' F' []
theorem qBI.calls(k:Nat)(x:Int)(y:Int)(r:Int)(W F:World)(hown:Sub F W)(H:qBI.f k x y=some r):
    Cr 230 #[.int .u64 x,iv y] W (qBI.Post W F r):=by
 have S:=St.start (Own.nil hown)
 unfold qBI.f at H
 refine ent 14 rfl rfl rfl (fun a E=>?_)
 refine rr E fun a E=>(sq fun K2 hK2=>pl0 (plc E (.r 0 3 .nil) (fun a E=>ple E (.lit (d:=(Kn.int .u64)) (e:=182) S [(IntKind.u64.wrap y)] (.cons rfl .nil)) ?_)))
 rintro _ u3 a ⟨A4,c5,rfl,S,hg⟩ E
 obtain ⟨t8,h9,H⟩:=bd H
 refine plq E S en172 (qAR.calls k x [(IntKind.u64.wrap y)] _ _ _ _ _ (Sub.refl _) (S.rd_at (i:=0) rfl) h9) fun u7 S a E=>plc E (.r 5 3 .nil) (fun a E=>?_)
 obtain ⟨t11,h12,H⟩:=bd H
 refine plq E S en251 (qm.calls k (w64 (1+(w64 (IntKind.u64.wrap (t8.tdiv 281474976710656))))) _ _ _ S.own.sub h12) fun u10 S a E=>plc E (.r 9 1 .nil) (fun a E=>pld (hK2 _ _ (wp_ret ?_)))
 replace S:=S.tail
 obtain rfl:=si H
 exact rt1 E ⟨_,rfl,_,rfl,S⟩
mutual
def qAE.l7:Nat→Int→List qB→Int→Int→Option (Int × Bool)
 | 0,_,_,_,_=>none
 | k+1,x,y,x5,x6=>if x6<(y.length:Int) then (if 0≤x6∧x6<(y.length:Int) then (if (nth qB.z y x6).f1=0 then (qAE.l7 k x y x5 (w64 (x6+1))) else (if x5<0 then (qAE.j45 k x y x5 x6 true) else (if 0≤x5∧x5<(y.length:Int) then ((qBI.f k x ((nth qB.z y x6).f0)).bind fun t39=>((qBI.f k x ((nth qB.z y x5).f0)).bind fun t42=>(qAE.j45 k x y x5 x6 (decide ((w64 (t39 * (nth qB.z y x5).f1))<(w64 (t42 * (nth qB.z y x6).f1))))))) else (none)))) else (none)) else (if x5<0 then (some (0,false)) else (if 0≤x5∧x5<(y.length:Int) then (some ((nth qB.z y x5).f0,true)) else (none)))
def qAE.j45:Nat→Int→List qB→Int→Int→Bool→Option (Int × Bool)
 | 0,_,_,_,_,_=>none
 | k+1,x,y,x5,x6,y44=>if y44=true then (qAE.l7 k x y x6 (w64 (x6+1))) else (qAE.l7 k x y x5 (w64 (x6+1)))
end
theorem qAE.l7_s k x y x5 x6:type_of% (qAE.l7.eq_2 x y x5 x6 k):=qAE.l7.eq_2 x y x5 x6 k
theorem qAE.j45_s k x y x5 x6 y44:type_of% (qAE.j45.eq_2 x y x5 x6 y44 k):=qAE.j45.eq_2 x y x5 x6 y44 k
def qAE.f(k:Nat)(x:Int)(y:List qB):Option (Int × Bool):=qAE.l7 k x y (-1) 0
def qAE.Post(W F:World)(r:Int × Bool)(v:Value)(w':World):Prop:=∃(F':World),v = .tuple #[iv r.1,.bool r.2]∧Sm W F w' F' []
theorem qAE.calls(k:Nat)(x:Int)(y:List qB)(A1_0:OA)(c1_0:Nat)(r:Int × Bool)(W F:World)(hown:Sub F W)(g1_0:Rd qB.k F A1_0 c1_0 y)(H:qAE.f k x y=some r):
    Cr 207 #[.int .u64 x,.slice A1_0 y.length c1_0] W (qAE.Post W F r):=by
 have S:=St.start (Own.nil hown)
 unfold qAE.f at H
 refine ent 59 rfl rfl rfl (fun a E=>?_)
 refine rr E fun a E=>(rr E fun a E=>(sq fun K3 hK3=>rr E fun a E=>(wp_block ?_)))
 refine wp_loop_ghost (fun kq8 a w'=>∃(G:NV)(x5:Int)(x6:Int),kq8≤k∧Env 59 G a∧At G [(0,.int .u64 x),(1,.slice A1_0 y.length c1_0),(6,iv x5),(7,iv x6)]∧Sm W F w' F []∧qAE.l7 kq8 x y x5 x6=some r) k ⟨_,(-1),0,Nat.le_refl _,E,.of,S,H⟩ ?_
 rintro kq8 a u10 ⟨G,x5,x6,hkq,E,A,S,H⟩
 obtain _ | k9:=kq8
 exact zz H
 rw [qAE.l7_s]at H
 obtain ⟨J,E⟩:=E.at A
 refine sq fun K11 hK11=>rr E fun a E=>(E.ik 11 H (fun c13 E H=>?_) fun c13 E H=>?_)
 refine wp_skip (hK11 _ _ (sq fun K14 hK14=>wp_block (sq fun K15 hK15=>sq fun K16 hK16=>pl0 ?_)))
 obtain ⟨c17,H⟩:=gd H
 have hE_:=E
 obtain ⟨ad18,rfl⟩:=g1_0.addr c17.1 c17.2
 replace E:=hE_
 obtain ⟨cs20,rfl,hc21⟩:=g1_0.el qB.z x6 c17.1 c17.2
 refine plc E (.r 0 2<|.x 2 c17<|.r 3 1<|.c 4 (S.fc hc21 1)<|.r 5 1<|.nil) (fun a E=>pld (hK16 _ _ (E.ik 19 H (fun c22 E H=>?_) fun c22 E H=>?_)))
 refine wp_exit ?_
 refine hK14 _ _ (pl0 (plc E (.r 0 3 .nil) (fun a E=>pld ?_)))
 exact qCY ⟨k9,by omega,_,x5,(w64 (x6+1)),by omega,E,.of,S,H⟩
 refine wp_skip (hK15 _ _ (sq fun K23 hK23=>?_))
 have J48:∀ kq46,kq46≤k9→∀(G:NV)(y44:Bool)(a:Act)(w':World),Env 59 G a→At G [(0,.int .u64 x),(1,.slice (some ad18) y.length c1_0),(6,iv x5),(7,iv x6),(50,.bool y44)]→Sm W F w' F []→qAE.j45 kq46 x y x5 x6 y44=some r→K23 a w':=by
  intro kq46 hkq G y44 a u49 E A S H
  obtain _ | k47:=kq46
  exact zz H
  rw [qAE.j45_s]at H
  obtain ⟨J,E⟩:=E.at A
  refine hK23 _ _ (E.ib 50 H (fun c50 E H=>?_) fun c50 E H=>?_)
  refine pl0 (plc E (.r 0 2 .nil) (fun a E=>pld ?_))
  refine qCX ?_
  refine hK14 _ _ (pl0 (plc E (.r 0 3 .nil) (fun a E=>pld ?_)))
  exact qCY ⟨k47,by omega,_,x6,(w64 (x6+1)),by omega,E,.of,S,H⟩
  refine wp_skip ?_
  refine qCX ?_
  refine hK14 _ _ (pl0 (plc E (.r 0 3 .nil) (fun a E=>pld ?_)))
  exact qCY ⟨k47,by omega,_,x5,(w64 (x6+1)),by omega,E,.of,S,H⟩
 refine drawn 31 ⟨[],[],fun q=>False⟩ mixed rfl (by kernel_rfl) (fun hst=>?_)
 replace S:=S.drew
 refine mny 28 hst E (.r 0 3 .nil) (fun a E=>?_)
 refine E.fk 22 H (fun c24 E H=>?_) fun c24 E H=>?_
 refine mny 0 hst E (.r 3 28 .nil) (fun a E=>?_)
 refine dn ?_
 exact J48 _ (by omega) _ true _ _ E .of S H
 obtain ⟨c28,H⟩:=gd H
 obtain ⟨cs30,rfl,hc31⟩:=g1_0.el qB.z x5 c28.1 c28.2
 refine mny 6 hst E (.r 3 3<|.x 6 c17<|.r 7 1<|.c 8 (S.fc hc21 0)<|.r 10 2<|.x 12 c28<|.r 13 1<|.c 14 (S.fc hc31 1)<|.r 16 3<|.x 19 c28<|.r 20 1<|.c 21 (S.fc hc31 0)<|.r 23 2<|.x 25 c17<|.r 26 1<|.c 27 (S.fc hc21 1)<|.nil) (fun a E=>?_)
 obtain ⟨t39,h40,H⟩:=bd H
 refine on1 9 E (.cl en230 (qBI.calls k9 x ((nth qB.z y x6).f0) _ _ _ S.own.sub h40)) ?_
 rintro _ u38 a ⟨_,rfl,hC⟩ E
 refine ⟨.of hC.agr,?_⟩
 replace S:=S.lent hC
 refine mny 4 hst E (.r 15 1 .nil) (fun a E=>?_)
 obtain ⟨t42,h43,H⟩:=bd H
 refine on1 22 E (.cl en230 (qBI.calls k9 x ((nth qB.z y x5).f0) _ _ _ S.own.sub h43)) ?_
 rintro _ u41 a ⟨_,rfl,hC⟩ E
 refine ⟨.of hC.agr,?_⟩
 replace S:=S.lent hC
 refine mny 0 hst E (.r 28 3 .nil) (fun a E=>?_)
 refine dn ?_
 exact J48 _ (by omega) _ (decide ((w64 (t39 * (nth qB.z y x5).f1))<(w64 (t42 * (nth qB.z y x6).f1)))) _ _ E .of S H
 refine wp_exit ?_
 refine hK3 _ _ (sq fun K51 hK51=>rr E fun a E=>(E.ik 53 H (fun c53 E H=>?_) fun c53 E H=>?_))
 refine rr E fun a E=>(wp_ret (qCV ?_))
 obtain rfl:=si H
 exact rtN E ⟨_,rfl,_,rfl,S⟩
 refine wp_skip (hK51 _ _ (sq fun K55 hK55=>pl0 ?_))
 obtain ⟨c56,H⟩:=gd H
 have hE_:=E
 obtain ⟨ad57,rfl⟩:=g1_0.addr c56.1 c56.2
 replace E:=hE_
 obtain ⟨cs59,rfl,hc60⟩:=g1_0.el qB.z x5 c56.1 c56.2
 refine plc E (.r 0 2<|.x 2 c56<|.r 3 1<|.c 4 (S.fc hc60 0)<|.r 5 2<|.nil) (fun a E=>pld (hK55 _ _ (wp_ret ?_)))
 obtain rfl:=si H
 exact rtN E ⟨_,rfl,_,rfl,S⟩
def qAP.l14:Nat→List qB→Int→List qB→Int→Option (List qB)
 | 0,_,_,_,_=>none
 | k+1,x,y,l12,x13=>if x13<(x.length:Int) then (if 0≤x13∧x13<(x.length:Int) then (if (nth qB.z x x13).f0=y then (qAP.l14 k x y l12 (w64 (x13+1))) else (if ((l12.length:Int)+((1:Nat):Int)) * 16≤140737488355328 then (qAP.l14 k x y (l12++[(nth qB.z x x13)]) (w64 (x13+1))) else (none))) else (none)) else (some l12)
theorem qAP.l14_s k x y l12 x13:type_of% (qAP.l14.eq_2 x y l12 x13 k):=qAP.l14.eq_2 x y l12 x13 k
def qAP.f(k:Nat)(x:List qB)(y:Int):Option (List qB):=qAP.l14 k x y ([]:List qB) 0
def qAP.Post(W F:World)(r:List qB)(v:Value)(w':World):Prop:=∃(F':World)(RA0_0:OA)(rc0_0:Nat),v = .slice RA0_0 r.length rc0_0∧Sm W F w' F' [row qB.k 216 (.slice RA0_0 r.length rc0_0) r]
theorem qAP.calls(k:Nat)(x:List qB)(y:Int)(A0_0:OA)(c0_0:Nat)(r:List qB)(W F:World)(hown:Sub F W)(g0_0:Rd qB.k F A0_0 c0_0 x)(H:qAP.f k x y=some r):
    Cr 208 #[.slice A0_0 x.length c0_0,iv y] W (qAP.Post W F r):=by
 have S:=St.start (Own.nil hown)
 unfold qAP.f at H
 refine ent 29 rfl rfl rfl (fun a E=>?_)
 refine rr E fun a E=>(sq fun K2 hK2=>pl0 (ple E (.lit (d:=qB.k) (e:=216) S ([]:List qB) (.nil)) ?_))
 rintro _ u3 a ⟨A4,c5,rfl,S,hg⟩ E
 refine plc E (.r 1 1 .nil) (fun a E=>pld (hK2 _ _ (sq fun K7 hK7=>rr E fun a E=>(wp_block ?_))))
 refine wp_loop_ghost (fun kq15 a w'=>∃(G:NV)(A10:OA)(c11:Nat)(l12:List qB)(x13:Int),kq15≤k∧Env 29 G a∧At G [(0,.slice A0_0 x.length c0_0),(1,iv y),(5,.slice A10 l12.length c11),(6,iv x13)]∧Sm W F w' F [row qB.k 216 (.slice A10 l12.length c11) l12]∧qAP.l14 kq15 x y l12 x13=some r) k ⟨_,A4,c5,([]:List qB),0,Nat.le_refl _,E,.of,S,H⟩ ?_
 rintro kq15 a u17 ⟨G,A10,c11,l12,x13,hkq,E,A,S,H⟩
 obtain _ | k16:=kq15
 exact zz H
 rw [qAP.l14_s]at H
 obtain ⟨J,E⟩:=E.at A
 refine sq fun K18 hK18=>rr E fun a E=>(E.ik 11 H (fun c20 E H=>?_) fun c20 E H=>?_)
 refine wp_skip (hK18 _ _ (sq fun K21 hK21=>wp_block (sq fun K22 hK22=>pl0 ?_)))
 obtain ⟨c23,H⟩:=gd H
 have hE_:=E
 obtain ⟨ad24,rfl⟩:=g0_0.addr c23.1 c23.2
 replace E:=hE_
 obtain ⟨cs26,rfl,hc27⟩:=g0_0.el qB.z x13 c23.1 c23.2
 refine plc E (.r 0 2<|.x 2 c23<|.r 3 1<|.c 4 (S.fc hc27 0)<|.r 5 2<|.nil) (fun a E=>pld (hK22 _ _ (E.ikn 20 H (fun c28 E H=>?_) fun c28 E H=>?_)))
 refine wp_skip ?_
 refine qCX ?_
 refine hK21 _ _ (pl0 (plc E (.r 0 3 .nil) (fun a E=>pld ?_)))
 exact qCY ⟨k16,by omega,_,A10,c11,l12,(w64 (x13+1)),by omega,E,.of,S,H⟩
 refine pl0 (plc E (.r 0 3<|.x 3 c23<|.cs 4 (S.fcs hc27)<|.nil) (fun a E=>ple E (.lit (d:=qB.k) (e:=216) S [(nth qB.z x x13)] (.cons rfl .nil)) ?_))
 rintro _ u32 a ⟨A33,c34,rfl,S,hg⟩ E
 obtain ⟨c36,H⟩:=gd H
 replace S:=S.front 1 rfl
 refine ple E (.ap (d:=qB.k) 16 S (qCf (S.row_at (i:=1) rfl)) c36 c34) ?_
 rintro _ u39 a ⟨A37,c38,rfl,S,hz⟩ E
 refine plc E (.r 7 1 .nil) (fun a E=>pld ?_)
 refine qCX ?_
 refine hK21 _ _ (pl0 (plc E (.r 0 3 .nil) (fun a E=>pld ?_)))
 replace S:=S.pm [0] 2
 exact qCY ⟨k16,by omega,_,A37,c38,(l12++[(nth qB.z x x13)]),(w64 (x13+1)),by omega,E,.of,S,H⟩
 refine wp_exit ?_
 refine hK7 _ _ (rr E fun a E=>(wp_ret ?_))
 obtain rfl:=si H
 exact rt1 E ⟨_,rfl,_,_,_,rfl,S⟩
def qAc.l20:Nat→Int→List qB→List qB→List Int→Int→Option (List Int)
 | 0,_,_,_,_,_=>none
 | k+1,x,y,l13,l17,x18=>if x18<(y.length:Int) then ((qAE.f k x l13).bind fun t30=>(if t30.2=true then (if ((l17.length:Int)+((1:Nat):Int)) * 8≤140737488355328 then ((qAP.f k l13 t30.1).bind fun t46=>(qAc.l20 k x y t46 (l17++[t30.1]) (w64 (x18+1)))) else (none)) else (some l17))) else (some l17)
theorem qAc.l20_s k x y l13 l17 x18:type_of% (qAc.l20.eq_2 x y l13 l17 x18 k):=qAc.l20.eq_2 x y l13 l17 x18 k
def qAc.f(k:Nat)(x:Int)(y:List qB):Option (List Int):=qAc.l20 k x y y ([]:List Int) 0
def qAc.Post(W F:World)(r:List Int)(v:Value)(w':World):Prop:=∃(F':World)(RA0_0:OA)(rc0_0:Nat),v = .slice RA0_0 r.length rc0_0∧Sm W F w' F' [row ki 3 (.slice RA0_0 r.length rc0_0) r]
theorem qAc.calls(k:Nat)(x:Int)(y:List qB)(A1_0:OA)(c1_0:Nat)(r:List Int)(W F:World)(hown:Sub F W)(g1_0:Rd qB.k F A1_0 c1_0 y)(H:qAc.f k x y=some r):
    Cr 171 #[.int .u64 x,.slice A1_0 y.length c1_0] W (qAc.Post W F r):=by
 have S:=St.start (Own.nil hown)
 unfold qAc.f at H
 refine ent 35 rfl rfl rfl (fun a E=>?_)
 refine rr E fun a E=>(sq fun K2 hK2=>pl0 (ple E (.lit (d:=ki) (e:=3) S ([]:List Int) (.nil)) ?_))
 rintro _ u3 a ⟨A4,c5,rfl,S,hg⟩ E
 refine plc E (.r 1 1 .nil) (fun a E=>pld (hK2 _ _ (rr E fun a E=>(sq fun K8 hK8=>rr E fun a E=>(wp_block ?_)))))
 refine wp_loop_ghost (fun kq21 a w'=>∃(G:NV)(A11:OA)(c12:Nat)(l13:List qB)(A15:OA)(c16:Nat)(l17:List Int)(x18:Int)(F19:World),kq21≤k∧Env 35 G a∧At G [(0,.int .u64 x),(1,.slice A11 l13.length c12),(5,.slice A15 l17.length c16),(6,iv (y.length:Int)),(7,iv x18)]∧Sm W F w' F19 [row ki 3 (.slice A15 l17.length c16) l17]∧Rd qB.k F19 A11 c12 l13∧qAc.l20 kq21 x y l13 l17 x18=some r) k ⟨_,A1_0,c1_0,y,A4,c5,([]:List Int),0,F,Nat.le_refl _,E,.of,S,g1_0,H⟩ ?_
 rintro kq21 a u23 ⟨G,A11,c12,l13,A15,c16,l17,x18,F19,hkq,E,A,S,g14,H⟩
 obtain _ | k22:=kq21
 exact zz H
 rw [qAc.l20_s]at H
 obtain ⟨J,E⟩:=E.at A
 refine sq fun K24 hK24=>rr E fun a E=>(E.ik 15 H (fun c26 E H=>?_) fun c26 E H=>?_)
 refine wp_skip (hK24 _ _ (sq fun K27 hK27=>wp_block (sq fun K28 hK28=>pl0 (plc E (.r 0 2 .nil) (fun a E=>?_)))))
 obtain ⟨t30,h31,H⟩:=bd H
 refine plq E S en207 (qAE.calls k22 x l13 _ _ _ _ _ S.own.sub g14 h31) fun u29 S a E=>plc E (.r 3 5 .nil) (fun a E=>pld (hK28 _ _ (sq fun K32 hK32=>rr E fun a E=>(E.ibn 25 H (fun c34 E H=>?_) fun c34 E H=>?_))))
 refine wp_skip (hK32 _ _ (sq fun K36 hK36=>pl0 (plc E (.r 0 2 .nil) (fun a E=>ple E (.lit (d:=ki) (e:=3) S [t30.1] (.cons rfl .nil)) ?_))))
 rintro _ u37 a ⟨A38,c39,rfl,S,hg⟩ E
 obtain ⟨c41,H⟩:=gd H
 replace S:=S.front 1 rfl
 refine ple E (.ap (d:=ki) 8 S (qCf (S.row_at (i:=1) rfl)) c41 c39) ?_
 rintro _ u44 a ⟨A42,c43,rfl,S,hz⟩ E
 refine plc E (.r 4 1 .nil) (fun a E=>pld (hK36 _ _ (pl0 (plc E (.r 0 2 .nil) (fun a E=>?_)))))
 obtain ⟨t46,h47,H⟩:=bd H
 refine ple E (.cl en208 (qAP.calls k22 l13 t30.1 _ _ _ _ _ S.own.sub g14 h47)) ?_
 rintro _ u45 a ⟨F48,A49,c50,rfl,hC⟩ E
 have hs:=hC.sub
 replace S:=S.called (X:=[]) hC
 replace g14:=g14.mono hs
 refine plc E (.r 3 1 .nil) (fun a E=>pld ?_)
 refine qCX ?_
 refine hK27 _ _ (pl0 (plc E (.r 0 3 .nil) (fun a E=>pld ?_)))
 obtain ⟨F53,hs,g54,S⟩:=S.give
 replace g14:=g14.mono hs
 replace S:=S.pm [0] 2
 exact qCY ⟨k22,by omega,_,A49,c50,t46,A42,c43,(l17++[t30.1]),(w64 (x18+1)),F53,by omega,E,.of,S,g54,H⟩
 refine rr E fun a E=>(wp_ret (qCV (qCW (qCV (qCV (qCW (qCV ?_)))))))
 obtain rfl:=si H
 exact rt1 E ⟨_,rfl,_,_,_,rfl,S⟩
 refine wp_exit ?_
 refine hK8 _ _ (rr E fun a E=>(wp_ret ?_))
 obtain rfl:=si H
 exact rt1 E ⟨_,rfl,_,_,_,rfl,S⟩
mutual
def qI.l24:Nat→List qA→List qN→Int→Int→List Ar3_i64→List Int→Int→Option (List Int)
 | 0,_,_,_,_,_,_,_=>none
 | k+1,x,y,z,p,l18,l21,x22=>if x22<(y.length:Int) then (if 0≤x22∧x22<(y.length:Int) then (if (nth qN.z y x22).f0=1 then (if ((([]:List Ar3_i64).length:Int)+((1:Nat):Int)) * 24≤140737488355328 then (qI.j61 k x y z p l18 l21 x22 (([]:List Ar3_i64)++[(⟨0,0,0⟩:Ar3_i64)])) else (none)) else (qI.j61 k x y z p l18 l21 x22 ([]:List Ar3_i64))) else (none)) else (some l21)
def qI.j61:Nat→List qA→List qN→Int→Int→List Ar3_i64→List Int→Int→List Ar3_i64→Option (List Int)
 | 0,_,_,_,_,_,_,_,_=>none
 | k+1,x,y,z,p,l18,l21,x22,l60=>qI.l78 k x y z p l18 x22 l21 l60 0
def qI.l78:Nat→List qA→List qN→Int→Int→List Ar3_i64→Int→List Int→List Ar3_i64→Int→Option (List Int)
 | 0,_,_,_,_,_,_,_,_,_=>none
 | k+1,x,y,z,p,l18,x22,l72,l75,x76=>if x76<(l18.length:Int) then (if 0≤x76∧x76<(l18.length:Int) then (if (nth qN.z y x22).f0=3 then (qI.l104 k x y z p l18 x22 l72 l75 x76 false 0) else ((qr.f k x ((nth Ar3_i64.z l18 x76).f0) ((nth Ar3_i64.z l18 x76).f1)).bind fun t139=>(if (nth qN.z y x22).f1=1 then ((qAY.f k x).bind fun t150=>(qI.j162 k x y z p l18 x22 l72 l75 x76 t150)) else (qI.j162 k x y z p l18 x22 l72 l75 x76 t139)))) else (none)) else (qI.l24 k x y z p l75 l72 (w64 (x22+1)))
def qI.l104:Nat→List qA→List qN→Int→Int→List Ar3_i64→Int→List Int→List Ar3_i64→Int→Bool→Int→Option (List Int)
 | 0,_,_,_,_,_,_,_,_,_,_,_=>none
 | k+1,x,y,z,p,l18,x22,l72,l75,x76,y102,x103=>if x103<(l72.length:Int) then (if y102=true then (qI.l104 k x y z p l18 x22 l72 l75 x76 true (w64 (x103+1))) else (if 0≤x103∧x103<(l72.length:Int) then (qI.l104 k x y z p l18 x22 l72 l75 x76 ((nth 0 l72 x103) == (nth Ar3_i64.z l18 x76).f2) (w64 (x103+1))) else (none))) else (if y102=true then (qI.j123 k x y z p l18 x22 l72 l75 x76 false) else (qI.j123 k x y z p l18 x22 l72 l75 x76 (decide ((l72.length:Int)<p))))
def qI.j123:Nat→List qA→List qN→Int→Int→List Ar3_i64→Int→List Int→List Ar3_i64→Int→Bool→Option (List Int)
 | 0,_,_,_,_,_,_,_,_,_,_=>none
 | k+1,x,y,z,p,l18,x22,l72,l75,x76,y122=>if y122=true then (if ((l72.length:Int)+((1:Nat):Int)) * 8≤140737488355328 then (qI.l78 k x y z p l18 x22 (l72++[(nth Ar3_i64.z l18 x76).f2]) l75 (w64 (x76+1))) else (none)) else (qI.l78 k x y z p l18 x22 l72 l75 (w64 (x76+1)))
def qI.j162:Nat→List qA→List qN→Int→Int→List Ar3_i64→Int→List Int→List Ar3_i64→Int→List qB→Option (List Int)
 | 0,_,_,_,_,_,_,_,_,_,_=>none
 | k+1,x,y,z,p,l18,x22,l72,l75,x76,l160=>if (nth qN.z y x22).f1=2 then ((qAW.f k x ((nth Ar3_i64.z l18 x76).f0)).bind fun t171=>(qI.j183 k x y z p l18 x22 l72 l75 x76 t171)) else (qI.j183 k x y z p l18 x22 l72 l75 x76 l160)
def qI.j183:Nat→List qA→List qN→Int→Int→List Ar3_i64→Int→List Int→List Ar3_i64→Int→List qB→Option (List Int)
 | 0,_,_,_,_,_,_,_,_,_,_=>none
 | k+1,x,y,z,p,l18,x22,l72,l75,x76,l181=>(qAR.f k (IntKind.u64.wrap z) [(IntKind.u64.wrap (nth qN.z y x22).f1),(IntKind.u64.wrap (nth Ar3_i64.z l18 x76).f0),(IntKind.u64.wrap (nth Ar3_i64.z l18 x76).f1)]).bind fun t194=>((qAc.f k t194 l181).bind fun t199=>(qI.l212 k x y z p l18 x22 l72 x76 t199 l75 0))
def qI.l212:Nat→List qA→List qN→Int→Int→List Ar3_i64→Int→List Int→Int→List Int→List Ar3_i64→Int→Option (List Int)
 | 0,_,_,_,_,_,_,_,_,_,_,_=>none
 | k+1,x,y,z,p,l18,x22,l72,x76,t199,l210,x211=>if x211<(t199.length:Int) then (qI.j220 k x y z p l18 x22 l72 x76 t199 l210 x211 (decide (x211<(nth qN.z y x22).f2))) else (qI.j220 k x y z p l18 x22 l72 x76 t199 l210 x211 false)
def qI.j220:Nat→List qA→List qN→Int→Int→List Ar3_i64→Int→List Int→Int→List Int→List Ar3_i64→Int→Bool→Option (List Int)
 | 0,_,_,_,_,_,_,_,_,_,_,_,_=>none
 | k+1,x,y,z,p,l18,x22,l72,x76,t199,l210,x211,y219=>if y219=true then (if 0≤x211∧x211<(t199.length:Int) then (if (w64 ((nth qN.z y x22).f1 - 1))=0 then (qI.j247 k x y z p l18 x22 l72 x76 t199 l210 x211 (nth 0 t199 x211) ((nth Ar3_i64.z l18 x76).f1) ((nth Ar3_i64.z l18 x76).f2)) else (if (w64 ((nth qN.z y x22).f1 - 1))=1 then (qI.j247 k x y z p l18 x22 l72 x76 t199 l210 x211 ((nth Ar3_i64.z l18 x76).f0) (nth 0 t199 x211) ((nth Ar3_i64.z l18 x76).f2)) else (if (w64 ((nth qN.z y x22).f1 - 1))=2 then (qI.j247 k x y z p l18 x22 l72 x76 t199 l210 x211 ((nth Ar3_i64.z l18 x76).f0) ((nth Ar3_i64.z l18 x76).f1) (nth 0 t199 x211)) else (none)))) else (none)) else (qI.l78 k x y z p l18 x22 l72 l210 (w64 (x76+1)))
def qI.j247:Nat→List qA→List qN→Int→Int→List Ar3_i64→Int→List Int→Int→List Int→List Ar3_i64→Int→Int→Int→Int→Option (List Int)
 | 0,_,_,_,_,_,_,_,_,_,_,_,_,_,_=>none
 | k+1,x,y,z,p,l18,x22,l72,x76,t199,l210,x211,x244,x245,x246=>if ((l210.length:Int)+((1:Nat):Int)) * 24≤140737488355328 then (qI.l212 k x y z p l18 x22 l72 x76 t199 (l210++[(⟨x244,x245,x246⟩:Ar3_i64)]) (w64 (x211+1))) else (none)
end
theorem qI.l24_s k x y z p l18 l21 x22:type_of% (qI.l24.eq_2 x y z p l18 l21 x22 k):=qI.l24.eq_2 x y z p l18 l21 x22 k
theorem qI.j61_s k x y z p l18 l21 x22 l60:type_of% (qI.j61.eq_2 x y z p l18 l21 x22 l60 k):=qI.j61.eq_2 x y z p l18 l21 x22 l60 k
theorem qI.l78_s k x y z p l18 x22 l72 l75 x76:type_of% (qI.l78.eq_2 x y z p l18 x22 l72 l75 x76 k):=qI.l78.eq_2 x y z p l18 x22 l72 l75 x76 k
theorem qI.l104_s k x y z p l18 x22 l72 l75 x76 y102 x103:type_of% (qI.l104.eq_2 x y z p l18 x22 l72 l75 x76 y102 x103 k):=qI.l104.eq_2 x y z p l18 x22 l72 l75 x76 y102 x103 k
theorem qI.j123_s k x y z p l18 x22 l72 l75 x76 y122:type_of% (qI.j123.eq_2 x y z p l18 x22 l72 l75 x76 y122 k):=qI.j123.eq_2 x y z p l18 x22 l72 l75 x76 y122 k
theorem qI.j162_s k x y z p l18 x22 l72 l75 x76 l160:type_of% (qI.j162.eq_2 x y z p l18 x22 l72 l75 x76 l160 k):=qI.j162.eq_2 x y z p l18 x22 l72 l75 x76 l160 k
theorem qI.j183_s k x y z p l18 x22 l72 l75 x76 l181:type_of% (qI.j183.eq_2 x y z p l18 x22 l72 l75 x76 l181 k):=qI.j183.eq_2 x y z p l18 x22 l72 l75 x76 l181 k
theorem qI.l212_s k x y z p l18 x22 l72 x76 t199 l210 x211:type_of% (qI.l212.eq_2 x y z p l18 x22 l72 x76 t199 l210 x211 k):=qI.l212.eq_2 x y z p l18 x22 l72 x76 t199 l210 x211 k
theorem qI.j220_s k x y z p l18 x22 l72 x76 t199 l210 x211 y219:type_of% (qI.j220.eq_2 x y z p l18 x22 l72 x76 t199 l210 x211 y219 k):=qI.j220.eq_2 x y z p l18 x22 l72 x76 t199 l210 x211 y219 k
theorem qI.j247_s(k:Nat)(x:List qA)(y:List qN)(z:Int)(p:Int)(l18:List Ar3_i64)(x22:Int)(l72:List Int)(x76:Int)(t199:List Int)(l210:List Ar3_i64)(x211:Int)(x244:Int)(x245:Int)(x246:Int):qI.j247 (k+1) x y z p l18 x22 l72 x76 t199 l210 x211 x244 x245 x246=(if ((l210.length:Int)+((1:Nat):Int)) * 24≤140737488355328 then (qI.l212 k x y z p l18 x22 l72 x76 t199 (l210++[(⟨x244,x245,x246⟩:Ar3_i64)]) (w64 (x211+1))) else (none)):=by kernel_rfl
def qI.f(k:Nat)(x:List qA)(y:List qN)(z:Int)(p:Int):Option (List Int):=qI.l24 k x y z p ([]:List Ar3_i64) ([]:List Int) 0
def qI.Post(W F:World)(r:List Int)(v:Value)(w':World):Prop:=∃(F':World)(RA0_0:OA)(rc0_0:Nat),v = .slice RA0_0 r.length rc0_0∧Sm W F w' F' [row ki 3 (.slice RA0_0 r.length rc0_0) r]
theorem qI.calls(k:Nat)(x:List qA)(y:List qN)(z:Int)(p:Int)(A0_0:OA)(c0_0:Nat)(A1_0:OA)(c1_0:Nat)(r:List Int)(W F:World)(hown:Sub F W)(g0_0:Rd qA.k F A0_0 c0_0 x)(g1_0:Rd qN.k F A1_0 c1_0 y)(H:qI.f k x y z p=some r):
    Cr 123 #[.slice A0_0 x.length c0_0,.slice A1_0 y.length c1_0,iv z,iv p] W (qI.Post W F r):=by
 have S:=St.start (Own.nil hown)
 unfold qI.f at H
 refine ent 144 rfl rfl rfl (fun a E=>?_)
 refine rr E fun a E=>(sq fun K2 hK2=>pl0 (ple E (.lit (d:=Ar3_i64.k) (e:=176) S ([]:List Ar3_i64) (.nil)) ?_))
 rintro _ u3 a ⟨A4,c5,rfl,S,hg⟩ E
 refine plc E (.r 1 1 .nil) (fun a E=>pld (hK2 _ _ (sq fun K7 hK7=>pl0 (ple E (.lit (d:=ki) (e:=3) S ([]:List Int) (.nil)) ?_))))
 rintro _ u8 a ⟨A9,c10,rfl,S,hg⟩ E
 refine plc E (.r 1 1 .nil) (fun a E=>pld (hK7 _ _ (sq fun K12 hK12=>rr E fun a E=>(wp_block ?_))))
 replace S:=S.front 1 rfl
 refine wp_loop_ghost (fun kq25 a w'=>∃(G:NV)(A16:OA)(c17:Nat)(l18:List Ar3_i64)(A19:OA)(c20:Nat)(l21:List Int)(x22:Int)(F23:World),kq25≤k∧Env 144 G a∧At G [(0,.slice A0_0 x.length c0_0),(1,.slice A1_0 y.length c1_0),(2,iv z),(3,iv p),(9,.slice A16 l18.length c17),(10,.slice A19 l21.length c20),(11,iv x22)]∧Sm W F w' F23 [row Ar3_i64.k 176 (.slice A16 l18.length c17) l18,row ki 3 (.slice A19 l21.length c20) l21]∧Rd qA.k F23 A0_0 c0_0 x∧Rd qN.k F23 A1_0 c1_0 y∧qI.l24 kq25 x y z p l18 l21 x22=some r) k ⟨_,A4,c5,([]:List Ar3_i64),A9,c10,([]:List Int),0,F,Nat.le_refl _,E,.of,S,g0_0,g1_0,H⟩ ?_
 rintro kq25 a u27 ⟨G,A16,c17,l18,A19,c20,l21,x22,F23,hkq,E,A,S,g0_0,g1_0,H⟩
 obtain _ | k26:=kq25
 exact zz H
 rw [qI.l24_s]at H
 obtain ⟨J,E⟩:=E.at A
 refine sq fun K28 hK28=>rr E fun a E=>(E.ik 27 H (fun c30 E H=>?_) fun c30 E H=>?_)
 refine wp_skip (hK28 _ _ (sq fun K31 hK31=>wp_block (sq fun K32 hK32=>pl0 ?_)))
 obtain ⟨c33,H⟩:=gd H
 have hE_:=E
 obtain ⟨ad34,rfl⟩:=g1_0.addr c33.1 c33.2
 replace E:=hE_
 obtain ⟨cs36,rfl,hc37⟩:=g1_0.el qN.z x22 c33.1 c33.2
 refine plc E (.r 0 2<|.x 2 c33<|.cs 3 (S.fcs hc37)<|.nil) (fun a E=>pla (t:=175) E S [iv 0,iv 0,iv 0] fun b38 u39 hb38 S a E=>pls E S [iv ((nth qN.z y x22).f0),iv ((nth qN.z y x22).f1),iv ((nth qN.z y x22).f2)] fun u40 hb38 S a E=>pld (hK32 _ _ (sq fun K41 hK41=>pl0 (ple E (.lit (d:=Ar3_i64.k) (e:=176) S ([]:List Ar3_i64) (.nil)) ?_))))
 rintro _ u42 a ⟨A43,c44,rfl,S,hg⟩ E
 refine plc E (.r 1 1 .nil) (fun a E=>pld (hK41 _ _ (sq fun K46 hK46=>?_)))
 have J64:∀ kq62,kq62≤k26→∀(G:NV)(A58:OA)(c59:Nat)(l60:List Ar3_i64)(a:Act)(w':World),Env 144 G a→At G [(0,.slice A0_0 x.length c0_0),(1,.slice (some ad34) y.length c1_0),(2,iv z),(3,iv p),(9,.slice A16 l18.length c17),(10,.slice A19 l21.length c20),(11,iv x22),(12,.pointer (pb b38)),(13,.slice A58 l60.length c59)]→Sm W F w' F23 [box b38 #[iv ((nth qN.z y x22).f0),iv ((nth qN.z y x22).f1),iv ((nth qN.z y x22).f2)] 175,row Ar3_i64.k 176 (.slice A16 l18.length c17) l18,row ki 3 (.slice A19 l21.length c20) l21,row Ar3_i64.k 176 (.slice A58 l60.length c59) l60]→qI.j61 kq62 x y z p l18 l21 x22 l60=some r→K46 a w':=by
  intro kq62 hkq G A58 c59 l60 a u65 E A S H
  obtain _ | k63:=kq62
  exact zz H
  rw [qI.j61_s]at H
  obtain ⟨J,E⟩:=E.at A
  refine hK46 _ _ (sq fun K66 hK66=>rr E fun a E=>(wp_block ?_))
  refine wp_loop_ghost (fun kq79 a w'=>∃(G:NV)(A70:OA)(c71:Nat)(l72:List Int)(A73:OA)(c74:Nat)(l75:List Ar3_i64)(x76:Int)(F77:World),kq79≤k63∧Env 144 G a∧At G [(0,.slice A0_0 x.length c0_0),(1,.slice (some ad34) y.length c1_0),(2,iv z),(3,iv p),(9,.slice A16 l18.length c17),(10,.slice A70 l72.length c71),(11,iv x22),(12,.pointer (pb b38)),(13,.slice A73 l75.length c74),(14,iv x76)]∧Sm W F w' F77 [box b38 #[iv ((nth qN.z y x22).f0),iv ((nth qN.z y x22).f1),iv ((nth qN.z y x22).f2)] 175,row Ar3_i64.k 176 (.slice A16 l18.length c17) l18,row ki 3 (.slice A70 l72.length c71) l72,row Ar3_i64.k 176 (.slice A73 l75.length c74) l75]∧Rd qA.k F77 A0_0 c0_0 x∧Rd qN.k F77 (some ad34) c1_0 y∧qI.l78 kq79 x y z p l18 x22 l72 l75 x76=some r) k63 ⟨_,A19,c20,l21,A58,c59,l60,0,F23,Nat.le_refl _,E,.of,S,g0_0,g1_0,H⟩ ?_
  rintro kq79 a u81 ⟨G,A70,c71,l72,A73,c74,l75,x76,F77,hkq,E,A,S,g0_0,g1_0,H⟩
  obtain _ | k80:=kq79
  exact zz H
  rw [qI.l78_s]at H
  obtain ⟨J,E⟩:=E.at A
  refine sq fun K82 hK82=>rr E fun a E=>(E.ik 45 H (fun c84 E H=>?_) fun c84 E H=>?_)
  refine wp_skip (hK82 _ _ (sq fun K85 hK85=>wp_block (sq fun K86 hK86=>pl0 ?_)))
  obtain ⟨c87,H⟩:=gd H
  have hr88:=S.ra 1
  have hE_:=E
  obtain ⟨b89,rfl⟩:=qCc hr88 c87.1 c87.2
  replace E:=hE_
  have hr_:=S.ra 1
  obtain ⟨cs91,rfl,hc92⟩:=qCa hr_ Ar3_i64.z x76 c87.1 c87.2
  refine plc E (.r 0 2<|.x 2 c87<|.cs 3 hc92<|.nil) (fun a E=>pla (t:=176) E S [iv 0,iv 0,iv 0] fun b93 u94 hb93 S a E=>pls E S [iv ((nth Ar3_i64.z l18 x76).f0),iv ((nth Ar3_i64.z l18 x76).f1),iv ((nth Ar3_i64.z l18 x76).f2)] fun u95 hb93 S a E=>pld (hK86 _ _ (sq fun K96 hK96=>sq fun K97 hK97=>pl0 ?_)))
  have hb38:=S.ba 1
  refine plc E (.r 0 1<|.b 1 0 hb38<|.r 2 1<|.nil) (fun a E=>pld (hK97 _ _ (E.ik 54 H (fun c98 E H=>?_) fun c98 E H=>?_)))
  refine rr E fun a E=>(sq fun K100 hK100=>rr E fun a E=>(wp_block ?_))
  refine wp_loop_ghost (fun kq105 a w'=>∃(G:NV)(y102:Bool)(x103:Int),kq105≤k80∧Env 144 G a∧At G [(0,.slice A0_0 x.length c0_0),(1,.slice (some ad34) y.length c1_0),(2,iv z),(3,iv p),(9,.slice (pb b89) l18.length c17),(10,.slice A70 l72.length c71),(11,iv x22),(12,.pointer (pb b38)),(13,.slice A73 l75.length c74),(14,iv x76),(15,.pointer (pb b93)),(16,.bool y102),(17,iv x103)]∧Sm W F w' F77 [box b93 #[iv ((nth Ar3_i64.z l18 x76).f0),iv ((nth Ar3_i64.z l18 x76).f1),iv ((nth Ar3_i64.z l18 x76).f2)] 176,box b38 #[iv ((nth qN.z y x22).f0),iv ((nth qN.z y x22).f1),iv ((nth qN.z y x22).f2)] 175,row Ar3_i64.k 176 (.slice (pb b89) l18.length c17) l18,row ki 3 (.slice A70 l72.length c71) l72,row Ar3_i64.k 176 (.slice A73 l75.length c74) l75]∧qI.l104 kq105 x y z p l18 x22 l72 l75 x76 y102 x103=some r) k80 ⟨_,false,0,Nat.le_refl _,E,.of,S,H⟩ ?_
  rintro kq105 a u107 ⟨G,y102,x103,hkq,E,A,S,H⟩
  obtain _ | k106:=kq105
  exact zz H
  rw [qI.l104_s]at H
  obtain ⟨J,E⟩:=E.at A
  refine sq fun K108 hK108=>rr E fun a E=>(E.ik 58 H (fun c110 E H=>?_) fun c110 E H=>?_)
  refine wp_skip (hK108 _ _ (sq fun K111 hK111=>wp_block ?_))
  refine drawn 11 ⟨[],[],fun q=>False⟩ mixed rfl (by kernel_rfl) (fun hst=>?_)
  replace S:=S.drew
  refine mny 9 hst E (.r 0 2 .nil) (fun a E=>?_)
  refine E.fb 16 H (fun c112 E H=>?_) fun c112 E H=>?_
  replace E:=E.bt 62 c112
  refine mny 0 hst E (.r 2 9 .nil) (fun a E=>?_)
  refine dn ?_
  refine qCX ?_
  refine hK111 _ _ (pl0 (plc E (.r 0 3 .nil) (fun a E=>pld ?_)))
  exact qCY ⟨k106,by omega,_,true,(w64 (x103+1)),by omega,E,.of,S,H⟩
  replace E:=E.bf 62 c112
  obtain ⟨c113,H⟩:=gd H
  have hr114:=S.ra 3
  have hE_:=E
  obtain ⟨b115,rfl⟩:=qCc hr114 c113.1 c113.2
  replace E:=hE_
  have hr_:=S.ra 3
  obtain ⟨cs117,rfl,hc118⟩:=qCa hr_ 0 x103 c113.1 c113.2
  have hb93:=S.ba 0
  refine mny 0 hst E (.r 2 2<|.x 4 c113<|.c 5 (hc118 0 _ rfl)<|.r 6 1<|.b 7 2 hb93<|.r 8 3<|.nil) (fun a E=>?_)
  refine dn ?_
  refine qCX ?_
  refine hK111 _ _ (pl0 (plc E (.r 0 3 .nil) (fun a E=>pld ?_)))
  exact qCY ⟨k106,by omega,_,((nth 0 l72 x103) == (nth Ar3_i64.z l18 x76).f2),(w64 (x103+1)),by omega,E,.of,S,H⟩
  refine wp_exit ?_
  refine hK100 _ _ (sq fun K119 hK119=>sq fun K120 hK120=>?_)
  have J126:∀ kq124,kq124≤k106→∀(G:NV)(y122:Bool)(a:Act)(w':World),Env 144 G a→At G [(0,.slice A0_0 x.length c0_0),(1,.slice (some ad34) y.length c1_0),(2,iv z),(3,iv p),(9,.slice (pb b89) l18.length c17),(10,.slice A70 l72.length c71),(11,iv x22),(12,.pointer (pb b38)),(13,.slice A73 l75.length c74),(14,iv x76),(15,.pointer (pb b93)),(78,.bool y122)]→Sm W F w' F77 [box b93 #[iv ((nth Ar3_i64.z l18 x76).f0),iv ((nth Ar3_i64.z l18 x76).f1),iv ((nth Ar3_i64.z l18 x76).f2)] 176,box b38 #[iv ((nth qN.z y x22).f0),iv ((nth qN.z y x22).f1),iv ((nth qN.z y x22).f2)] 175,row Ar3_i64.k 176 (.slice (pb b89) l18.length c17) l18,row ki 3 (.slice A70 l72.length c71) l72,row Ar3_i64.k 176 (.slice A73 l75.length c74) l75]→qI.j123 kq124 x y z p l18 x22 l72 l75 x76 y122=some r→K120 a w':=by
   intro kq124 hkq G y122 a u127 E A S H
   obtain _ | k125:=kq124
   exact zz H
   rw [qI.j123_s]at H
   obtain ⟨J,E⟩:=E.at A
   refine hK120 _ _ (E.ib 78 H (fun c128 E H=>?_) fun c128 E H=>?_)
   refine pl0 (plc E (.r 0 2<|.b 2 2 (S.ba 0)<|.nil) (fun a E=>ple E (.lit (d:=ki) (e:=3) S [(nth Ar3_i64.z l18 x76).f2] (.cons rfl .nil)) ?_))
   rintro _ u129 a ⟨A130,c131,rfl,S,hg⟩ E
   obtain ⟨c133,H⟩:=gd H
   replace S:=S.front 4 rfl
   refine ple E (.ap (d:=ki) 8 S (qCf (S.row_at (i:=1) rfl)) c133 c131) ?_
   rintro _ u136 a ⟨A134,c135,rfl,S,hz⟩ E
   refine plc E (.r 5 1 .nil) (fun a E=>pld (hK119 _ _ ?_))
   refine wp_exit ?_
   refine hK85 _ _ (pl0 (plc E (.r 0 3 .nil) (fun a E=>pld ?_)))
   replace S:=S.pm [3,4,0] 5
   exact qCY ⟨k125,by omega,_,A134,c135,(l72++[(nth Ar3_i64.z l18 x76).f2]),A73,c74,l75,(w64 (x76+1)),F77,by omega,E,.of,S,g0_0,g1_0,H⟩
   refine wp_skip (hK119 _ _ ?_)
   refine wp_exit ?_
   refine hK85 _ _ (pl0 (plc E (.r 0 3 .nil) (fun a E=>pld ?_)))
   replace S:=S.tail
   exact qCY ⟨k125,by omega,_,A70,c71,l72,A73,c74,l75,(w64 (x76+1)),F77,by omega,E,.of,S,g0_0,g1_0,H⟩
  refine pl0 (plc E (.r 0 3 .nil) (fun a E=>E.fbn 73 H (fun c121 E H=>?_) fun c121 E H=>?_))
  refine plc E (.r 3 5 .nil) (fun a E=>pld ?_)
  exact J126 _ (by omega) _ false _ _ E .of S H
  refine plc E (.r 3 5 .nil) (fun a E=>pld ?_)
  exact J126 _ (by omega) _ (decide ((l72.length:Int)<p)) _ _ E .of S H
  refine wp_skip (hK96 _ _ (sq fun K137 hK137=>pl0 (plc E (.r 0 2<|.b 2 0 hb93<|.r 3 1<|.b 4 1 hb93<|.nil) (fun a E=>?_))))
  obtain ⟨t139,h140,H⟩:=bd H
  refine ple E (.cl en168 (qr.calls k80 x ((nth Ar3_i64.z l18 x76).f0) ((nth Ar3_i64.z l18 x76).f1) _ _ _ _ _ S.own.sub g0_0 h140)) ?_
  rintro _ u138 a ⟨F141,A142,c143,rfl,hC⟩ E
  have hs:=hC.sub
  replace S:=S.called (X:=[]) hC
  replace g0_0:=g0_0.mono hs
  replace g1_0:=g1_0.mono hs
  refine plc E (.r 6 1 .nil) (fun a E=>pld (hK137 _ _ (sq fun K146 hK146=>?_)))
  have J165:∀ kq163,kq163≤k80→∀(G:NV)(A158:OA)(c159:Nat)(l160:List qB)(F161:World)(a:Act)(w':World),Env 144 G a→At G [(0,.slice A0_0 x.length c0_0),(1,.slice (some ad34) y.length c1_0),(2,iv z),(3,iv p),(9,.slice (pb b89) l18.length c17),(10,.slice A70 l72.length c71),(11,iv x22),(12,.pointer (pb b38)),(13,.slice A73 l75.length c74),(14,iv x76),(15,.pointer (pb b93)),(18,.slice A158 l160.length c159)]→Sm W F w' F161 [box b93 #[iv ((nth Ar3_i64.z l18 x76).f0),iv ((nth Ar3_i64.z l18 x76).f1),iv ((nth Ar3_i64.z l18 x76).f2)] 176,box b38 #[iv ((nth qN.z y x22).f0),iv ((nth qN.z y x22).f1),iv ((nth qN.z y x22).f2)] 175,row Ar3_i64.k 176 (.slice (pb b89) l18.length c17) l18,row ki 3 (.slice A70 l72.length c71) l72,row Ar3_i64.k 176 (.slice A73 l75.length c74) l75,row qB.k 216 (.slice A158 l160.length c159) l160]→Rd qA.k F161 A0_0 c0_0 x→Rd qN.k F161 (some ad34) c1_0 y→qI.j162 kq163 x y z p l18 x22 l72 l75 x76 l160=some r→K146 a w':=by
   intro kq163 hkq G A158 c159 l160 F161 a u166 E A S g0_0 g1_0 H
   obtain _ | k164:=kq163
   exact zz H
   rw [qI.j162_s]at H
   obtain ⟨J,E⟩:=E.at A
   refine hK146 _ _ (sq fun K167 hK167=>?_)
   have J186:∀ kq184,kq184≤k164→∀(G:NV)(A179:OA)(c180:Nat)(l181:List qB)(F182:World)(a:Act)(w':World),Env 144 G a→At G [(0,.slice A0_0 x.length c0_0),(1,.slice (some ad34) y.length c1_0),(2,iv z),(3,iv p),(9,.slice (pb b89) l18.length c17),(10,.slice A70 l72.length c71),(11,iv x22),(12,.pointer (pb b38)),(13,.slice A73 l75.length c74),(14,iv x76),(15,.pointer (pb b93)),(18,.slice A179 l181.length c180)]→Sm W F w' F182 [box b93 #[iv ((nth Ar3_i64.z l18 x76).f0),iv ((nth Ar3_i64.z l18 x76).f1),iv ((nth Ar3_i64.z l18 x76).f2)] 176,box b38 #[iv ((nth qN.z y x22).f0),iv ((nth qN.z y x22).f1),iv ((nth qN.z y x22).f2)] 175,row Ar3_i64.k 176 (.slice (pb b89) l18.length c17) l18,row ki 3 (.slice A70 l72.length c71) l72,row Ar3_i64.k 176 (.slice A73 l75.length c74) l75,row qB.k 216 (.slice A179 l181.length c180) l181]→Rd qA.k F182 A0_0 c0_0 x→Rd qN.k F182 (some ad34) c1_0 y→qI.j183 kq184 x y z p l18 x22 l72 l75 x76 l181=some r→K167 a w':=by
    intro kq184 hkq G A179 c180 l181 F182 a u187 E A S g0_0 g1_0 H
    obtain _ | k185:=kq184
    exact zz H
    rw [qI.j183_s]at H
    obtain ⟨J,E⟩:=E.at A
    refine hK167 _ _ (sq fun K188 hK188=>pl0 ?_)
    have hb38:=S.ba 1
    have hb93:=S.ba 0
    refine plc E (.r 0 3<|.b 3 1 hb38<|.r 4 2<|.b 6 0 hb93<|.r 7 2<|.b 9 1 hb93<|.r 10 1<|.nil) (fun a E=>ple E (.lit (d:=(Kn.int .u64)) (e:=182) S [(IntKind.u64.wrap (nth qN.z y x22).f1),(IntKind.u64.wrap (nth Ar3_i64.z l18 x76).f0),(IntKind.u64.wrap (nth Ar3_i64.z l18 x76).f1)] (.cons rfl<|.cons rfl<|.cons rfl .nil)) ?_)
    rintro _ u189 a ⟨A190,c191,rfl,S,hg⟩ E
    obtain ⟨t194,h195,H⟩:=bd H
    refine plq E S en172 (qAR.calls k185 (IntKind.u64.wrap z) [(IntKind.u64.wrap (nth qN.z y x22).f1),(IntKind.u64.wrap (nth Ar3_i64.z l18 x76).f0),(IntKind.u64.wrap (nth Ar3_i64.z l18 x76).f1)] _ _ _ _ _ (Sub.refl _) (S.rd_at (i:=0) rfl) h195) fun u193 S a E=>plc E (.r 13 1 .nil) (fun a E=>?_)
    replace S:=S.front 6 rfl
    obtain ⟨F196,hs,g197,S⟩:=S.give
    replace g0_0:=g0_0.mono hs
    replace g1_0:=g1_0.mono hs
    obtain ⟨t199,h200,H⟩:=bd H
    refine ple E (.cl en171 (qAc.calls k185 t194 l181 _ _ _ _ _ S.own.sub g197 h200)) ?_
    rintro _ u198 a ⟨F201,A202,c203,rfl,hC⟩ E
    have hs:=hC.sub
    replace S:=S.called (X:=[]) hC
    replace g0_0:=g0_0.mono hs
    replace g1_0:=g1_0.mono hs
    replace g197:=g197.mono hs
    refine plc E (.r 15 1 .nil) (fun a E=>pld (hK188 _ _ (rr E fun a E=>(wp_block ?_))))
    replace S:=S.pm [2,3,0] 4
    refine wp_loop_ghost (fun kq213 a w'=>∃(G:NV)(A208:OA)(c209:Nat)(l210:List Ar3_i64)(x211:Int),kq213≤k185∧Env 144 G a∧At G [(0,.slice A0_0 x.length c0_0),(1,.slice (some ad34) y.length c1_0),(2,iv z),(3,iv p),(9,.slice (pb b89) l18.length c17),(10,.slice A70 l72.length c71),(11,iv x22),(12,.pointer (pb b38)),(13,.slice A208 l210.length c209),(14,iv x76),(15,.pointer (pb b93)),(19,.slice A202 t199.length c203),(20,iv x211)]∧Sm W F w' F201 [box b93 #[iv ((nth Ar3_i64.z l18 x76).f0),iv ((nth Ar3_i64.z l18 x76).f1),iv ((nth Ar3_i64.z l18 x76).f2)] 176,box b38 #[iv ((nth qN.z y x22).f0),iv ((nth qN.z y x22).f1),iv ((nth qN.z y x22).f2)] 175,row ki 3 (.slice A202 t199.length c203) t199,row Ar3_i64.k 176 (.slice (pb b89) l18.length c17) l18,row ki 3 (.slice A70 l72.length c71) l72,row Ar3_i64.k 176 (.slice A208 l210.length c209) l210]∧qI.l212 kq213 x y z p l18 x22 l72 x76 t199 l210 x211=some r) k185 ⟨_,A73,c74,l75,0,Nat.le_refl _,E,.of,S,H⟩ ?_
    rintro kq213 a u215 ⟨G,A208,c209,l210,x211,hkq,E,A,S,H⟩
    obtain _ | k214:=kq213
    exact zz H
    rw [qI.l212_s]at H
    obtain ⟨J,E⟩:=E.at A
    refine sq fun K216 hK216=>sq fun K217 hK217=>?_
    have J223:∀ kq221,kq221≤k214→∀(G:NV)(y219:Bool)(a:Act)(w':World),Env 144 G a→At G [(0,.slice A0_0 x.length c0_0),(1,.slice (some ad34) y.length c1_0),(2,iv z),(3,iv p),(9,.slice (pb b89) l18.length c17),(10,.slice A70 l72.length c71),(11,iv x22),(12,.pointer (pb b38)),(13,.slice A208 l210.length c209),(14,iv x76),(15,.pointer (pb b93)),(19,.slice A202 t199.length c203),(20,iv x211),(126,.bool y219)]→Sm W F w' F201 [box b93 #[iv ((nth Ar3_i64.z l18 x76).f0),iv ((nth Ar3_i64.z l18 x76).f1),iv ((nth Ar3_i64.z l18 x76).f2)] 176,box b38 #[iv ((nth qN.z y x22).f0),iv ((nth qN.z y x22).f1),iv ((nth qN.z y x22).f2)] 175,row ki 3 (.slice A202 t199.length c203) t199,row Ar3_i64.k 176 (.slice (pb b89) l18.length c17) l18,row ki 3 (.slice A70 l72.length c71) l72,row Ar3_i64.k 176 (.slice A208 l210.length c209) l210]→qI.j220 kq221 x y z p l18 x22 l72 x76 t199 l210 x211 y219=some r→K217 a w':=by
     intro kq221 hkq G y219 a u224 E A S H
     obtain _ | k222:=kq221
     exact zz H
     rw [qI.j220_s]at H
     obtain ⟨J,E⟩:=E.at A
     refine hK217 _ _ (E.ib 126 H (fun c225 E H=>?_) fun c225 E H=>?_)
     refine wp_skip (hK216 _ _ (sq fun K226 hK226=>wp_block (sq fun K227 hK227=>pl0 (plc E (.bn 0 0 3 (S.ba 0) .nil) (fun a E=>pla (t:=176) E S [iv 0,iv 0,iv 0] fun b228 u229 hb228 S a E=>pls E S [iv ((nth Ar3_i64.z l18 x76).f0),iv ((nth Ar3_i64.z l18 x76).f1),iv ((nth Ar3_i64.z l18 x76).f2)] fun u230 hb228 S a E=>pld (hK227 _ _ (sq fun K231 hK231=>?_)))))))
     have J250:∀ kq248,kq248≤k222→∀(G:NV)(x244:Int)(x245:Int)(x246:Int)(a:Act)(w':World),Env 144 G a→At G [(0,.slice A0_0 x.length c0_0),(1,.slice (some ad34) y.length c1_0),(2,iv z),(3,iv p),(9,.slice (pb b89) l18.length c17),(10,.slice A70 l72.length c71),(11,iv x22),(12,.pointer (pb b38)),(13,.slice A208 l210.length c209),(14,iv x76),(15,.pointer (pb b93)),(19,.slice A202 t199.length c203),(20,iv x211),(21,.pointer (pb b228))]→Sm W F w' F201 [box b228 #[iv x244,iv x245,iv x246] 176,box b93 #[iv ((nth Ar3_i64.z l18 x76).f0),iv ((nth Ar3_i64.z l18 x76).f1),iv ((nth Ar3_i64.z l18 x76).f2)] 176,box b38 #[iv ((nth qN.z y x22).f0),iv ((nth qN.z y x22).f1),iv ((nth qN.z y x22).f2)] 175,row ki 3 (.slice A202 t199.length c203) t199,row Ar3_i64.k 176 (.slice (pb b89) l18.length c17) l18,row ki 3 (.slice A70 l72.length c71) l72,row Ar3_i64.k 176 (.slice A208 l210.length c209) l210]→qI.j247 kq248 x y z p l18 x22 l72 x76 t199 l210 x211 x244 x245 x246=some r→K231 a w':=by
      intro kq248 hkq G x244 x245 x246 a u251 E A S H
      obtain _ | k249:=kq248
      exact zz H
      rw [qI.j247_s]at H
      obtain ⟨J,E⟩:=E.at A
      refine hK231 _ _ (pl0 (plc E (.r 0 1<|.bn 1 0 3 (S.ba 0)<|.nil) (fun a E=>ple E (.lit (d:=Ar3_i64.k) (e:=176) S [(⟨x244,x245,x246⟩:Ar3_i64)] (.cons rfl .nil)) ?_)))
      rintro _ u252 a ⟨A253,c254,rfl,S,hg⟩ E
      obtain ⟨c256,H⟩:=gd H
      replace S:=S.front 7 rfl
      refine ple E (.ap (d:=Ar3_i64.k) 24 S (qCf (S.row_at (i:=1) rfl)) c256 c254) ?_
      rintro _ u259 a ⟨A257,c258,rfl,S,hz⟩ E
      refine plc E (.r 4 1 .nil) (fun a E=>pld ?_)
      refine qCX ?_
      refine hK226 _ _ (pl0 (plc E (.r 0 3 .nil) (fun a E=>pld ?_)))
      replace S:=S.pm [3,4,5,6,7,0] 8
      exact qCY ⟨k249,by omega,_,A257,c258,(l210++[(⟨x244,x245,x246⟩:Ar3_i64)]),(w64 (x211+1)),by omega,E,.of,S,H⟩
     refine drawn 9 ⟨[8],[],fun q=>False⟩ mixed rfl (by kernel_rfl) (fun hst=>?_)
     replace S:=S.drew
     have hb38:=S.ba 2
     obtain ⟨c232,H⟩:=gd H
     have hr233:=S.ra 3
     have hE_:=E
     obtain ⟨b234,rfl⟩:=qCc hr233 c232.1 c232.2
     replace E:=hE_
     have hr_:=S.ra 3
     obtain ⟨cs236,rfl,hc237⟩:=qCa hr_ 0 x211 c232.1 c232.2
     refine mny 2 hst E (.r 0 1<|.b 1 1 hb38<|.r 2 3<|.x 5 c232<|.c 6 (hc237 0 _ rfl)<|.nil) (fun a E=>?_)
     rcases sp H with ⟨c238,H⟩ | ⟨c238,H⟩
     replace E:=E.set (d:=132) (v:=iv 0) (Eq.trans (b:=iv (w64 ((nth qN.z y x22).f1 - 1))) (by kernel_rfl) (congrArg _ c238))
     refine mny 1 hst E (.r 7 1 .nil) (fun a E=>?_)
     refine on1 8 E (.sto S [iv (nth 0 t199 x211),iv ((nth Ar3_i64.z l18 x76).f1),iv ((nth Ar3_i64.z l18 x76).f2)]) ?_
     rintro _ u239 a ⟨rfl,hb228,S,hz⟩ E
     refine ⟨.d,?_⟩
     refine dn ?_
     exact J250 _ (by omega) _ (nth 0 t199 x211) ((nth Ar3_i64.z l18 x76).f1) ((nth Ar3_i64.z l18 x76).f2) _ _ E .of S H
     rcases sp H with ⟨c240,H⟩ | ⟨c240,H⟩
     replace E:=E.set (d:=132) (v:=iv 1) (Eq.trans (b:=iv (w64 ((nth qN.z y x22).f1 - 1))) (by kernel_rfl) (congrArg _ c240))
     refine mny 1 hst E (.r 7 1 .nil) (fun a E=>?_)
     refine on1 8 E (.sto S [iv ((nth Ar3_i64.z l18 x76).f0),iv (nth 0 t199 x211),iv ((nth Ar3_i64.z l18 x76).f2)]) ?_
     rintro _ u241 a ⟨rfl,hb228,S,hz⟩ E
     refine ⟨.d,?_⟩
     refine dn ?_
     exact J250 _ (by omega) _ ((nth Ar3_i64.z l18 x76).f0) (nth 0 t199 x211) ((nth Ar3_i64.z l18 x76).f2) _ _ E .of S H
     rcases sp H with ⟨c242,H⟩ | ⟨c242,H⟩
     replace E:=E.set (d:=132) (v:=iv 2) (Eq.trans (b:=iv (w64 ((nth qN.z y x22).f1 - 1))) (by kernel_rfl) (congrArg _ c242))
     refine mny 1 hst E (.r 7 1 .nil) (fun a E=>?_)
     refine on1 8 E (.sto S [iv ((nth Ar3_i64.z l18 x76).f0),iv ((nth Ar3_i64.z l18 x76).f1),iv (nth 0 t199 x211)]) ?_
     rintro _ u243 a ⟨rfl,hb228,S,hz⟩ E
     refine ⟨.d,?_⟩
     refine dn ?_
     exact J250 _ (by omega) _ ((nth Ar3_i64.z l18 x76).f0) ((nth Ar3_i64.z l18 x76).f1) (nth 0 t199 x211) _ _ E .of S H
     cases (show none=some r from H)
     refine wp_exit ?_
     refine hK85 _ _ (pl0 (plc E (.r 0 3 .nil) (fun a E=>pld ?_)))
     replace S:=S.pm [1] 3
     exact qCY ⟨k222,by omega,_,A70,c71,l72,A208,c209,l210,(w64 (x76+1)),F201,by omega,E,.of,S,g0_0,g1_0,H⟩
    refine pl0 (plc E (.r 0 5 .nil) (fun a E=>E.fk 121 H (fun c218 E H=>?_) fun c218 E H=>?_))
    refine plc E (.r 5 2<|.b 7 2 (S.ba 1)<|.r 8 2<|.nil) (fun a E=>pld ?_)
    exact J223 _ (by omega) _ (decide (x211<(nth qN.z y x22).f2)) _ _ E .of S H
    refine plc E (.r 5 5 .nil) (fun a E=>pld ?_)
    exact J223 _ (by omega) _ false _ _ E .of S H
   refine rg E (.r 0 1<|.b 1 1 (S.ba 1)<|.r 2 1<|.nil) fun a E=>(E.ik 97 H (fun c169 E H=>?_) fun c169 E H=>?_)
   refine pl0 (plc E (.r 0 2<|.b 2 0 (S.ba 0)<|.nil) (fun a E=>?_))
   obtain ⟨t171,h172,H⟩:=bd H
   refine ple E (.cl en170 (qAW.calls k164 x ((nth Ar3_i64.z l18 x76).f0) _ _ _ _ _ S.own.sub g0_0 h172)) ?_
   rintro _ u170 a ⟨F173,A174,c175,rfl,hC⟩ E
   have hs:=hC.sub
   replace S:=S.called (X:=[]) hC
   replace g0_0:=g0_0.mono hs
   replace g1_0:=g1_0.mono hs
   refine plc E (.r 4 1 .nil) (fun a E=>pld ?_)
   replace S:=S.pm [1,2,3,4,5,0] 7
   exact J186 _ (by omega) _ A174 c175 t171 F173 _ _ E .of S g0_0 g1_0 H
   refine wp_skip ?_
   exact J186 _ (by omega) _ A158 c159 l160 F161 _ _ E .of S g0_0 g1_0 H
  refine rg E (.r 0 1<|.b 1 1 (S.ba 2)<|.r 2 1<|.nil) fun a E=>(E.ik 92 H (fun c148 E H=>?_) fun c148 E H=>?_)
  refine pl0 (plc E (.r 0 1 .nil) (fun a E=>?_))
  obtain ⟨t150,h151,H⟩:=bd H
  refine ple E (.cl en169 (qAY.calls k80 x _ _ _ _ _ S.own.sub g0_0 h151)) ?_
  rintro _ u149 a ⟨F152,A153,c154,rfl,hC⟩ E
  have hs:=hC.sub
  replace S:=S.called (X:=[]) hC
  replace g0_0:=g0_0.mono hs
  replace g1_0:=g1_0.mono hs
  refine plc E (.r 2 1 .nil) (fun a E=>pld ?_)
  replace S:=S.pm [2,3,4,5,6,0] 7
  exact J165 _ (by omega) _ A153 c154 t150 F152 _ _ E .of S g0_0 g1_0 H
  refine wp_skip ?_
  replace S:=S.pm [1,2,3,4,5,0] 6
  exact J165 _ (by omega) _ A142 c143 t139 F141 _ _ E .of S g0_0 g1_0 H
  refine wp_exit ?_
  refine hK66 _ _ (pl0 (plc E (.r 0 2 .nil) (fun a E=>pld ?_)))
  refine qCX ?_
  refine hK31 _ _ (pl0 (plc E (.r 0 3 .nil) (fun a E=>pld ?_)))
  replace S:=S.pm [3,2] 4
  exact qCY ⟨k80,by omega,_,A73,c74,l75,A70,c71,l72,(w64 (x22+1)),F77,by omega,E,.of,S,g0_0,g1_0,H⟩
 refine rg E (.r 0 1<|.b 1 0 (S.ba 1)<|.r 2 1<|.nil) fun a E=>(E.ik 37 H (fun c48 E H=>?_) fun c48 E H=>?_)
 refine pl0 (plc E (.r 0 2 .nil) (fun a E=>ple E (.lit (d:=Ar3_i64.k) (e:=176) S [(⟨0,0,0⟩:Ar3_i64)] (.cons rfl .nil)) ?_))
 rintro _ u49 a ⟨A50,c51,rfl,S,hg⟩ E
 obtain ⟨c53,H⟩:=gd H
 replace S:=S.front 1 rfl
 refine ple E (.ap (d:=Ar3_i64.k) 24 S (qCf (S.row_at (i:=1) rfl)) c53 c51) ?_
 rintro _ u56 a ⟨A54,c55,rfl,S,hz⟩ E
 refine plc E (.r 4 1 .nil) (fun a E=>pld ?_)
 replace S:=S.pm [2,3,4,0] 5
 exact J64 _ (by omega) _ A54 c55 (([]:List Ar3_i64)++[(⟨0,0,0⟩:Ar3_i64)]) _ _ E .of S H
 refine wp_skip ?_
 replace S:=S.pm [1,2,3,0] 4
 exact J64 _ (by omega) _ A43 c44 ([]:List Ar3_i64) _ _ E .of S H
 refine wp_exit ?_
 refine hK12 _ _ (rr E fun a E=>(wp_ret ?_))
 replace S:=S.tail
 obtain rfl:=si H
 exact rt1 E ⟨_,rfl,_,_,_,rfl,S⟩
def qBO.f(x:Int):Option (List qN):=some [(⟨1,0,0⟩:qN),(⟨2,1,x⟩:qN),(⟨2,2,1⟩:qN),(⟨2,3,1⟩:qN),(⟨3,0,0⟩:qN)]
def qBO.Post(W F:World)(r:List qN)(v:Value)(w':World):Prop:=∃(F':World)(RA0_0:OA)(rc0_0:Nat),v = .slice RA0_0 r.length rc0_0∧Sm W F w' F' [row qN.k 175 (.slice RA0_0 r.length rc0_0) r]
theorem qBO.calls(x:Int)(r:List qN)(W F:World)(hown:Sub F W)(H:qBO.f x=some r):
    Cr 124 #[iv x] W (qBO.Post W F r):=by
 have S:=St.start (Own.nil hown)
 unfold qBO.f at H
 refine ent 10 rfl rfl rfl (fun a E=>?_)
 refine rr E fun a E=>(sq fun K2 hK2=>pl0 (plc E (.r 0 6 .nil) (fun a E=>ple E (.lit (d:=qN.k) (e:=175) S [(⟨1,0,0⟩:qN),(⟨2,1,x⟩:qN),(⟨2,2,1⟩:qN),(⟨2,3,1⟩:qN),(⟨3,0,0⟩:qN)] (.cons rfl<|.cons rfl<|.cons rfl<|.cons rfl<|.cons rfl .nil)) ?_)))
 rintro _ u3 a ⟨A4,c5,rfl,S,hg⟩ E
 refine plc E (.r 7 1 .nil) (fun a E=>pld (hK2 _ _ (wp_ret ?_)))
 obtain rfl:=si H
 exact rt1 E ⟨_,rfl,_,_,_,rfl,S⟩
def qAg.j12:Nat→List qA→Int→Int→Bool→Option (List Int)
 | 0,_,_,_,_=>none
 | k+1,x,y,z,y11=>if y11=true then (some []) else ((qBO.f z).bind fun t22=>((qI.f k x t22 y z).bind fun t32=>(some t32)))
theorem qAg.j12_s k x y z y11:type_of% (qAg.j12.eq_2 x y z y11 k):=qAg.j12.eq_2 x y z y11 k
def qAg.f(k:Nat)(x:List qA)(y:Int)(z:Int):Option (List Int):=(qo.f k x).bind fun t5=>(if t5=true then (if y<0 then (qAg.j12 k x y z true) else (if y>7 then (qAg.j12 k x y z true) else (if z<1 then (qAg.j12 k x y z true) else (qAg.j12 k x y z (decide (z>3)))))) else (qAg.j12 k x y z true))
def qAg.Post(W F:World)(r:List Int)(v:Value)(w':World):Prop:=∃(F':World)(RA0_0:OA)(rc0_0:Nat),v = .slice RA0_0 r.length rc0_0∧Sm W F w' F' [row ki 3 (.slice RA0_0 r.length rc0_0) r]
theorem qAg.calls(k:Nat)(x:List qA)(y:Int)(z:Int)(A0_0:OA)(c0_0:Nat)(r:List Int)(W F:World)(hown:Sub F W)(g0_0:Rd qA.k F A0_0 c0_0 x)(H:qAg.f k x y z=some r):
    Cr 73 #[.slice A0_0 x.length c0_0,iv y,iv z] W (qAg.Post W F r):=by
 have S:=St.start (Own.nil hown)
 unfold qAg.f at H
 refine ent 32 rfl rfl rfl (fun a E=>?_)
 refine rr E fun a E=>(sq fun K2 hK2=>sq fun K3 hK3=>?_)
 have J15:∀ kq13,kq13≤k→∀(G:NV)(y11:Bool)(a:Act)(w':World),Env 32 G a→At G [(0,.slice A0_0 x.length c0_0),(1,iv y),(2,iv z),(25,.bool y11)]→Sm W F w' F []→qAg.j12 kq13 x y z y11=some r→K3 a w':=by
  intro kq13 hkq G y11 a u16 E A S H
  obtain _ | k14:=kq13
  exact zz H
  rw [qAg.j12_s]at H
  obtain ⟨J,E⟩:=E.at A
  refine hK3 _ _ (E.ib 25 H (fun c17 E H=>?_) fun c17 E H=>?_)
  refine rr E fun a E=>(wp_ret (qCV ?_))
  replace S:=S.nilrow ki 3
  obtain rfl:=si H
  exact rt1 E ⟨_,rfl,_,_,_,rfl,S⟩
  refine wp_skip (hK2 _ _ (sq fun K20 hK20=>pl0 (plc E (.r 0 2 .nil) (fun a E=>?_))))
  obtain ⟨t22,h23,H⟩:=bd H
  refine ple E (.cl en124 (qBO.calls z _ _ _ S.own.sub h23)) ?_
  rintro _ u21 a ⟨F24,A25,c26,rfl,hC⟩ E
  have hs:=hC.sub
  replace S:=S.called (X:=[]) hC
  replace g0_0:=g0_0.mono hs
  refine plc E (.r 3 2 .nil) (fun a E=>?_)
  obtain ⟨F29,hs,g30,S⟩:=S.give
  replace g0_0:=g0_0.mono hs
  obtain ⟨t32,h33,H⟩:=bd H
  refine ple E (.cl en123 (qI.calls k14 x t22 y z _ _ _ _ _ _ _ S.own.sub g0_0 g30 h33)) ?_
  rintro _ u31 a ⟨F34,A35,c36,rfl,hC⟩ E
  have hs:=hC.sub
  replace S:=S.called (X:=[]) hC
  replace g0_0:=g0_0.mono hs
  replace g30:=g30.mono hs
  refine plc E (.r 6 1 .nil) (fun a E=>pld (hK20 _ _ (wp_ret ?_)))
  obtain rfl:=si H
  exact rt1 E ⟨_,rfl,_,_,_,rfl,S⟩
 refine pl0 (plc E (.r 0 1 .nil) (fun a E=>?_))
 obtain ⟨t5,h6,H⟩:=bd H
 refine plq E S en67 (qo.calls k x _ _ _ _ _ S.own.sub g0_0 h6) fun u4 S a E=>plc E (.r 2 2 .nil) (fun a E=>E.fbn 10 H (fun c7 E H=>?_) fun c7 E H=>?_)
 refine plc E (.r 4 4 .nil) (fun a E=>E.fk 14 H (fun c8 E H=>?_) fun c8 E H=>?_)
 refine plc E (.r 8 11 .nil) (fun a E=>pld ?_)
 exact J15 _ (by omega) _ true _ _ E .of S H
 refine plc E (.r 8 4 .nil) (fun a E=>E.fk 18 H (fun c9 E H=>?_) fun c9 E H=>?_)
 refine plc E (.r 12 7 .nil) (fun a E=>pld ?_)
 exact J15 _ (by omega) _ true _ _ E .of S H
 refine plc E (.r 12 4 .nil) (fun a E=>E.fk 22 H (fun c10 E H=>?_) fun c10 E H=>?_)
 refine plc E (.r 16 3 .nil) (fun a E=>pld ?_)
 exact J15 _ (by omega) _ true _ _ E .of S H
 refine plc E (.r 16 3 .nil) (fun a E=>pld ?_)
 exact J15 _ (by omega) _ (decide (z>3)) _ _ E .of S H
 refine plc E (.r 4 15 .nil) (fun a E=>pld ?_)
 exact J15 _ (by omega) _ true _ _ E .of S H
def qAh.j12:Nat→qF→Int→Bool→Option (List Int)
 | 0,_,_,_=>none
 | k+1,x,y,y11=>if y11=true then (some []) else ((qAN.f k x y).bind fun t22=>(if (t22.length:Int)>0 then (some t22) else ((qAg.f k x.f4 y x.f1).bind fun t33=>(some t33))))
theorem qAh.j12_s k x y y11:type_of% (qAh.j12.eq_2 x y y11 k):=qAh.j12.eq_2 x y y11 k
def qAh.f(k:Nat)(x:qF)(y:Int):Option (List Int):=(qf.f k x).bind fun t7=>(if t7=true then (if y<0 then (qAh.j12 k x y true) else (qAh.j12 k x y (decide (y≥x.f3)))) else (qAh.j12 k x y true))
def qAh.Post(W F:World)(r:List Int)(v:Value)(w':World):Prop:=∃(F':World)(RA0_0:OA)(rc0_0:Nat),v = .slice RA0_0 r.length rc0_0∧Sm W F w' F' []∧Rd ki F' RA0_0 rc0_0 r
theorem qAh.calls(k:Nat)(x:qF)(y:Int)(A0_4:OA)(c0_4:Nat)(A0_5:OA)(c0_5:Nat)(A0_6:OA)(c0_6:Nat)(r:List Int)(W F:World)(hown:Sub F W)(g0_4:Rd qA.k F A0_4 c0_4 x.f4)(g0_5:Rd qD.k F A0_5 c0_5 x.f5)(g0_6:Rd qC.k F A0_6 c0_6 x.f6)(H:qAh.f k x y=some r):
    Cr 23 #[.agg #[iv x.f0,iv x.f1,iv x.f2,iv x.f3,.slice A0_4 x.f4.length c0_4,.slice A0_5 x.f5.length c0_5,.slice A0_6 x.f6.length c0_6],iv y] W (qAh.Post W F r):=by
 have S:=St.start (Own.nil hown)
 unfold qAh.f at H
 refine ent 32 rfl rfl rfl (fun a E=>?_)
 refine sq fun K1 hK1=>pl0 (plx (t:=26) E S [iv x.f0,iv x.f1,iv x.f2,iv x.f3,.slice A0_4 x.f4.length c0_4,.slice A0_5 x.f5.length c0_5,.slice A0_6 x.f6.length c0_6] fun b2 u3 hb2 S a E=>plc E (.r 1 1 .nil) (fun a E=>pld (hK1 _ _ (sq fun K4 hK4=>sq fun K5 hK5=>?_))))
 have J15:∀ kq13,kq13≤k→∀(G:NV)(y11:Bool)(a:Act)(w':World),Env 32 G a→At G [(1,iv y),(2,.pointer (pb b2)),(18,.bool y11)]→Sm W F w' F [box b2 #[iv x.f0,iv x.f1,iv x.f2,iv x.f3,.slice A0_4 x.f4.length c0_4,.slice A0_5 x.f5.length c0_5,.slice A0_6 x.f6.length c0_6] 26]→qAh.j12 kq13 x y y11=some r→K5 a w':=by
  intro kq13 hkq G y11 a u16 E A S H
  obtain _ | k14:=kq13
  exact zz H
  rw [qAh.j12_s]at H
  obtain ⟨J,E⟩:=E.at A
  refine hK5 _ _ (E.ib 18 H (fun c17 E H=>?_) fun c17 E H=>?_)
  refine rr E fun a E=>(wp_ret (qCV ?_))
  replace S:=S.tail
  obtain rfl:=si H
  exact rt1 E ⟨_,rfl,_,_,_,rfl,S,(Rd.nil _ _)⟩
  refine wp_skip (hK4 _ _ (sq fun K19 hK19=>sq fun K20 hK20=>pl0 (plc E (.bn 0 0 7 (S.ba 0)<|.r 1 1<|.nil) (fun a E=>?_))))
  obtain ⟨t22,h23,H⟩:=bd H
  refine ple E (.cl en72 (qAN.calls k14 x y _ _ _ _ _ _ _ _ _ S.own.sub g0_4 g0_5 g0_6 h23)) ?_
  rintro _ u21 a ⟨F24,A25,c26,rfl,hC,g27⟩ E
  have hs:=hC.sub
  replace S:=S.called (X:=[]) hC
  replace g0_4:=g0_4.mono hs
  replace g0_5:=g0_5.mono hs
  replace g0_6:=g0_6.mono hs
  refine plc E (.r 3 1 .nil) (fun a E=>pld (hK20 _ _ (rr E fun a E=>(E.ik 24 H (fun c29 E H=>?_) fun c29 E H=>?_))))
  refine rr E fun a E=>(wp_ret (qCV ?_))
  replace S:=S.tail
  obtain rfl:=si H
  exact rt1 E ⟨_,rfl,_,_,_,rfl,S,g27⟩
  refine wp_skip (hK19 _ _ (sq fun K31 hK31=>pl0 ?_))
  have hb2:=S.ba 0
  refine plc E (.r 0 1<|.b 1 4 hb2<|.r 2 2<|.b 4 1 hb2<|.nil) (fun a E=>?_)
  obtain ⟨t33,h34,H⟩:=bd H
  refine ple E (.cl en73 (qAg.calls k14 x.f4 y x.f1 _ _ _ _ _ S.own.sub g0_4 h34)) ?_
  rintro _ u32 a ⟨F35,A36,c37,rfl,hC⟩ E
  have hs:=hC.sub
  replace S:=S.called (X:=[]) hC
  replace g27:=g27.mono hs
  replace g0_4:=g0_4.mono hs
  replace g0_5:=g0_5.mono hs
  replace g0_6:=g0_6.mono hs
  refine plc E (.r 6 1 .nil) (fun a E=>pld (hK31 _ _ (wp_ret ?_)))
  obtain ⟨F40,hs,g41,S⟩:=S.give
  replace g27:=g27.mono hs
  replace g0_4:=g0_4.mono hs
  replace g0_5:=g0_5.mono hs
  replace g0_6:=g0_6.mono hs
  replace S:=S.tail
  obtain rfl:=si H
  exact rt1 E ⟨_,rfl,_,_,_,rfl,S,g41⟩
 refine pl0 (plc E (.bn 0 0 7 hb2 .nil) (fun a E=>?_))
 obtain ⟨t7,h8,H⟩:=bd H
 refine plq E S en19 (qf.calls k x _ _ _ _ _ _ _ _ _ S.own.sub g0_4 g0_5 g0_6 h8) fun u6 S a E=>plc E (.r 2 2 .nil) (fun a E=>E.fbn 9 H (fun c9 E H=>?_) fun c9 E H=>?_)
 refine plc E (.r 4 4 .nil) (fun a E=>E.fk 13 H (fun c10 E H=>?_) fun c10 E H=>?_)
 refine plc E (.r 8 5 .nil) (fun a E=>pld ?_)
 exact J15 _ (by omega) _ true _ _ E .of S H
 refine plc E (.r 8 2<|.b 10 3 (S.ba 0)<|.r 11 2<|.nil) (fun a E=>pld ?_)
 exact J15 _ (by omega) _ (decide (y≥x.f3)) _ _ E .of S H
 refine plc E (.r 4 9 .nil) (fun a E=>pld ?_)
 exact J15 _ (by omega) _ true _ _ E .of S H
def qAK.l24:Nat→qF→List Int→List Int→Int→Option (List Int)
 | 0,_,_,_,_=>none
 | k+1,x,t6,l22,x23=>if x23<(t6.length:Int) then (if 0≤x23∧x23<(t6.length:Int) then ((qAJ.f k x.f4 (nth 0 t6 x23)).bind fun t38=>(if t38.1.f4=true then (if ((l22.length:Int)+((1:Nat):Int)) * 8≤140737488355328 then (qAK.l24 k x t6 (l22++[(nth 0 t6 x23)]) (w64 (x23+1))) else (none)) else (qAK.l24 k x t6 l22 (w64 (x23+1))))) else (none)) else (some l22)
theorem qAK.l24_s k x t6 l22 x23:type_of% (qAK.l24.eq_2 x t6 l22 x23 k):=qAK.l24.eq_2 x t6 l22 x23 k
def qAK.f(k:Nat)(x:qF)(y:Int):Option (List Int):=(qAh.f k x y).bind fun t6=>(qAK.l24 k x t6 ([]:List Int) 0)
def qAK.Post(W F:World)(r:List Int)(v:Value)(w':World):Prop:=∃(F':World)(RA0_0:OA)(rc0_0:Nat),v = .slice RA0_0 r.length rc0_0∧Sm W F w' F' [row ki 3 (.slice RA0_0 r.length rc0_0) r]
theorem qAK.calls(k:Nat)(x:qF)(y:Int)(A0_4:OA)(c0_4:Nat)(A0_5:OA)(c0_5:Nat)(A0_6:OA)(c0_6:Nat)(r:List Int)(W F:World)(hown:Sub F W)(g0_4:Rd qA.k F A0_4 c0_4 x.f4)(g0_5:Rd qD.k F A0_5 c0_5 x.f5)(g0_6:Rd qC.k F A0_6 c0_6 x.f6)(H:qAK.f k x y=some r):
    Cr 25 #[.agg #[iv x.f0,iv x.f1,iv x.f2,iv x.f3,.slice A0_4 x.f4.length c0_4,.slice A0_5 x.f5.length c0_5,.slice A0_6 x.f6.length c0_6],iv y] W (qAK.Post W F r):=by
 have S:=St.start (Own.nil hown)
 unfold qAK.f at H
 refine ent 40 rfl rfl rfl (fun a E=>?_)
 refine sq fun K1 hK1=>pl0 (plx (t:=26) E S [iv x.f0,iv x.f1,iv x.f2,iv x.f3,.slice A0_4 x.f4.length c0_4,.slice A0_5 x.f5.length c0_5,.slice A0_6 x.f6.length c0_6] fun b2 u3 hb2 S a E=>plc E (.r 1 1 .nil) (fun a E=>pld (hK1 _ _ (sq fun K4 hK4=>pl0 (plc E (.bn 0 0 7 hb2<|.r 1 1<|.nil) (fun a E=>?_))))))
 obtain ⟨t6,h7,H⟩:=bd H
 refine ple E (.cl en23 (qAh.calls k x y _ _ _ _ _ _ _ _ _ S.own.sub g0_4 g0_5 g0_6 h7)) ?_
 rintro _ u5 a ⟨F8,A9,c10,rfl,hC,g11⟩ E
 have hs:=hC.sub
 replace S:=S.called (X:=[]) hC
 replace g0_4:=g0_4.mono hs
 replace g0_5:=g0_5.mono hs
 replace g0_6:=g0_6.mono hs
 refine plc E (.r 3 1 .nil) (fun a E=>pld (hK4 _ _ (sq fun K12 hK12=>pl0 (ple E (.lit (d:=ki) (e:=3) S ([]:List Int) (.nil)) ?_))))
 rintro _ u13 a ⟨A14,c15,rfl,S,hg⟩ E
 refine plc E (.r 1 1 .nil) (fun a E=>pld (hK12 _ _ (sq fun K17 hK17=>rr E fun a E=>(wp_block ?_))))
 replace S:=S.front 1 rfl
 refine wp_loop_ghost (fun kq25 a w'=>∃(G:NV)(A20:OA)(c21:Nat)(l22:List Int)(x23:Int),kq25≤k∧Env 40 G a∧At G [(2,.pointer (pb b2)),(5,.slice A9 t6.length c10),(6,.slice A20 l22.length c21),(7,iv x23)]∧Sm W F w' F8 [box b2 #[iv x.f0,iv x.f1,iv x.f2,iv x.f3,.slice A0_4 x.f4.length c0_4,.slice A0_5 x.f5.length c0_5,.slice A0_6 x.f6.length c0_6] 26,row ki 3 (.slice A20 l22.length c21) l22]∧qAK.l24 kq25 x t6 l22 x23=some r) k ⟨_,A14,c15,([]:List Int),0,Nat.le_refl _,E,.of,S,H⟩ ?_
 rintro kq25 a u27 ⟨G,A20,c21,l22,x23,hkq,E,A,S,H⟩
 obtain _ | k26:=kq25
 exact zz H
 rw [qAK.l24_s]at H
 obtain ⟨J,E⟩:=E.at A
 refine sq fun K28 hK28=>rr E fun a E=>(E.ik 17 H (fun c30 E H=>?_) fun c30 E H=>?_)
 refine wp_skip (hK28 _ _ (sq fun K31 hK31=>wp_block (sq fun K32 hK32=>?_)))
 refine drawn 13 ⟨[11],[],fun q=>False⟩ mixed rfl (by kernel_rfl) (fun hst=>?_)
 replace S:=S.drew
 have hb2:=S.ba 0
 obtain ⟨c33,H⟩:=gd H
 have hE_:=E
 obtain ⟨ad34,rfl⟩:=g11.addr c33.1 c33.2
 replace E:=hE_
 obtain ⟨cs36,rfl,hc37⟩:=g11.el 0 x23 c33.1 c33.2
 refine mny 7 hst E (.r 0 1<|.b 1 4 hb2<|.r 2 2<|.x 4 c33<|.c 5 (S.fc hc37 0)<|.nil) (fun a E=>?_)
 obtain ⟨t38,h39,H⟩:=bd H
 refine meet2 (fun a w'=>∃(G:NV)(b41:Nat),Env 40 G a∧At G [(2,.pointer (pb b2)),(5,.slice (some ad34) t6.length c10),(6,.slice A20 l22.length c21),(7,iv x23),(8,.pointer (pb b41)),(28,.agg #[iv t38.1.f0,iv t38.1.f1,iv t38.1.f2,iv t38.1.f3,.bool t38.1.f4,.bool t38.1.f5]),(29,.bool t38.2)]∧Sm W F w' F8 [box b41 #[iv 0,iv 0,iv 0,iv 0,.bool false,.bool false] 104,box b2 #[iv x.f0,iv x.f1,iv x.f2,iv x.f3,.slice A0_4 x.f4.length c0_4,.slice A0_5 x.f5.length c0_5,.slice A0_6 x.f6.length c0_6] 26,row ki 3 (.slice A20 l22.length c21) l22]) 2 2047 ?_ (fun hJ=>?_)
 rintro a u44 ⟨G,b41,E,A,S⟩
 obtain ⟨J,E⟩:=E.at A
 refine on1 11 E (.sto S [iv t38.1.f0,iv t38.1.f1,iv t38.1.f2,iv t38.1.f3,.bool t38.1.f4,.bool t38.1.f5]) ?_
 rintro _ u45 a ⟨rfl,hb41,S,hz⟩ E
 refine ⟨.d,?_⟩
 refine mny 0 hst E (.r 12 1 .nil) (fun a E=>?_)
 refine dn ?_
 refine hK32 _ _ (rg E (.r 0 1<|.b 1 4 hb41<|.nil) fun a E=>(E.ib 31 H (fun c47 E H=>?_) fun c47 E H=>?_))
 refine pl0 ?_
 obtain ⟨cs49,rfl,hc50⟩:=g11.el 0 x23 c33.1 c33.2
 refine plc E (.r 0 3<|.x 3 c33<|.c 4 (S.fc hc50 0)<|.nil) (fun a E=>ple E (.lit (d:=ki) (e:=3) S [(nth 0 t6 x23)] (.cons rfl .nil)) ?_)
 rintro _ u51 a ⟨A52,c53,rfl,S,hg⟩ E
 obtain ⟨c55,H⟩:=gd H
 replace S:=S.front 3 rfl
 refine ple E (.ap (d:=ki) 8 S (qCf (S.row_at (i:=1) rfl)) c55 c53) ?_
 rintro _ u58 a ⟨A56,c57,rfl,S,hz⟩ E
 refine plc E (.r 7 1 .nil) (fun a E=>pld ?_)
 refine qCX ?_
 refine hK31 _ _ (pl0 (plc E (.r 0 3 .nil) (fun a E=>pld ?_)))
 replace S:=S.pm [3,0] 4
 exact qCY ⟨k26,by omega,_,A56,c57,(l22++[(nth 0 t6 x23)]),(w64 (x23+1)),by omega,E,.of,S,H⟩
 refine wp_skip ?_
 refine qCX ?_
 refine hK31 _ _ (pl0 (plc E (.r 0 3 .nil) (fun a E=>pld ?_)))
 replace S:=S.tail
 exact qCY ⟨k26,by omega,_,A20,c21,l22,(w64 (x23+1)),by omega,E,.of,S,H⟩
 refine pk2 6 10 ?_ ?_
 refine pk1 6 E (.cl en75 (qAJ.calls k26 x.f4 (nth 0 t6 x23) _ _ _ _ _ S.own.sub g0_4 h39)) ?_
 rintro _ u40 a ⟨_,rfl,hC⟩ E
 refine ⟨.of hC.agr,?_⟩
 replace S:=S.lent hC
 refine mny 3 hst E (.r 7 3 .nil) (fun a E=>?_)
 refine on1 10 E (.al (t:=104) S [iv 0,iv 0,iv 0,iv 0,.bool false,.bool false]) ?_
 rintro _ u42 a ⟨b41,rfl,hb41,S,hg⟩ E
 refine ⟨.of hg,?_⟩
 exact hJ _ _ ⟨_,b41,E,.of,S⟩
 refine pk1 10 E (.al (t:=104) S [iv 0,iv 0,iv 0,iv 0,.bool false,.bool false]) ?_
 rintro _ u42 a ⟨b41,rfl,hb41,S,hg⟩ E
 refine ⟨.of hg,?_⟩
 refine on1 6 E (.cl en75 (qAJ.calls k26 x.f4 (nth 0 t6 x23) _ _ _ _ _ S.own.sub g0_4 h39)) ?_
 rintro _ u40 a ⟨_,rfl,hC⟩ E
 refine ⟨.of hC.agr,?_⟩
 replace S:=S.lent hC
 refine mny 2 hst E (.r 7 3 .nil) (fun a E=>?_)
 exact hJ _ _ ⟨_,b41,E,.of,S⟩
 refine wp_exit ?_
 refine hK17 _ _ (rr E fun a E=>(wp_ret ?_))
 replace S:=S.tail
 obtain rfl:=si H
 exact rt1 E ⟨_,rfl,_,_,_,rfl,S⟩
def qBF.f(k:Nat)(x:qE)(y:qE):Option Bool:=if x.f0=y.f0 then (if x.f1=y.f1 then (if x.f2=y.f2 then (if x.f3=y.f3 then (if x.f4=y.f4 then (if x.f5=y.f5 then ((qw.f k x.f6 y.f6).bind fun t14=>(some t14)) else (some false)) else (some false)) else (some false)) else (some false)) else (some false)) else (some false)
def qBF.Post(W F:World)(r:Bool)(v:Value)(w':World):Prop:=∃(F':World),v = .bool r∧Sm W F w' F' []
theorem qBF.calls(k:Nat)(x:qE)(y:qE)(A0_6:OA)(c0_6:Nat)(A1_6:OA)(c1_6:Nat)(r:Bool)(W F:World)(hown:Sub F W)(g0_6:Rd ki F A0_6 c0_6 x.f6)(g1_6:Rd ki F A1_6 c1_6 y.f6)(H:qBF.f k x y=some r):
    Cr 83 #[.agg #[iv x.f0,iv x.f1,iv x.f2,iv x.f3,iv x.f4,iv x.f5,.slice A0_6 x.f6.length c0_6],.agg #[iv y.f0,iv y.f1,iv y.f2,iv y.f3,iv y.f4,iv y.f5,.slice A1_6 y.f6.length c1_6]] W (qBF.Post W F r):=by
 have S:=St.start (Own.nil hown)
 unfold qBF.f at H
 refine ent 52 rfl rfl rfl (fun a E=>?_)
 refine sq fun K1 hK1=>pl0 (plx (t:=40) E S [iv x.f0,iv x.f1,iv x.f2,iv x.f3,iv x.f4,iv x.f5,.slice A0_6 x.f6.length c0_6] fun b2 u3 hb2 S a E=>plx (t:=40) E S [iv y.f0,iv y.f1,iv y.f2,iv y.f3,iv y.f4,iv y.f5,.slice A1_6 y.f6.length c1_6] fun b4 u5 hb4 S a E=>plc E (.r 2 1 .nil) (fun a E=>pld (hK1 _ _ (sq fun K6 hK6=>pl0 ?_))))
 have hb2:=S.ba 1
 refine plc E (.r 0 1<|.b 1 0 hb2<|.r 2 1<|.b 3 0 hb4<|.r 4 2<|.nil) (fun a E=>E.fk 10 H (fun c7 E H=>?_) fun c7 E H=>?_)
 refine plc E (.r 6 1<|.b 7 1 hb2<|.r 8 1<|.b 9 1 hb4<|.r 10 3<|.nil) (fun a E=>E.fk 17 H (fun c8 E H=>?_) fun c8 E H=>?_)
 refine plc E (.r 13 1<|.b 14 2 hb2<|.r 15 1<|.b 16 2 hb4<|.r 17 3<|.nil) (fun a E=>E.fk 24 H (fun c9 E H=>?_) fun c9 E H=>?_)
 refine plc E (.r 20 1<|.b 21 3 hb2<|.r 22 1<|.b 23 3 hb4<|.r 24 3<|.nil) (fun a E=>E.fk 31 H (fun c10 E H=>?_) fun c10 E H=>?_)
 refine plc E (.r 27 1<|.b 28 4 hb2<|.r 29 1<|.b 30 4 hb4<|.r 31 3<|.nil) (fun a E=>E.fk 38 H (fun c11 E H=>?_) fun c11 E H=>?_)
 refine plc E (.r 34 1<|.b 35 5 hb2<|.r 36 1<|.b 37 5 hb4<|.r 38 3<|.nil) (fun a E=>E.fk 45 H (fun c12 E H=>?_) fun c12 E H=>?_)
 refine plc E (.r 41 1<|.b 42 6 hb2<|.r 43 1<|.b 44 6 hb4<|.nil) (fun a E=>?_)
 obtain ⟨t14,h15,H⟩:=bd H
 refine plq E S en21 (qw.calls k x.f6 y.f6 _ _ _ _ _ _ _ S.own.sub g0_6 g1_6 h15) fun u13 S a E=>plc E (.r 46 2 .nil) (fun a E=>pld (hK6 _ _ (wp_ret ?_)))
 replace S:=S.pm [] 2
 obtain rfl:=si H
 exact rt1 E ⟨_,rfl,_,rfl,S⟩
 refine plc E (.r 41 7 .nil) (fun a E=>pld (hK6 _ _ (wp_ret ?_)))
 replace S:=S.pm [] 2
 obtain rfl:=si H
 exact rt1 E ⟨_,rfl,_,rfl,S⟩
 refine plc E (.r 34 14 .nil) (fun a E=>pld (hK6 _ _ (wp_ret ?_)))
 replace S:=S.pm [] 2
 obtain rfl:=si H
 exact rt1 E ⟨_,rfl,_,rfl,S⟩
 refine plc E (.r 27 21 .nil) (fun a E=>pld (hK6 _ _ (wp_ret ?_)))
 replace S:=S.pm [] 2
 obtain rfl:=si H
 exact rt1 E ⟨_,rfl,_,rfl,S⟩
 refine plc E (.r 20 28 .nil) (fun a E=>pld (hK6 _ _ (wp_ret ?_)))
 replace S:=S.pm [] 2
 obtain rfl:=si H
 exact rt1 E ⟨_,rfl,_,rfl,S⟩
 refine plc E (.r 13 35 .nil) (fun a E=>pld (hK6 _ _ (wp_ret ?_)))
 replace S:=S.pm [] 2
 obtain rfl:=si H
 exact rt1 E ⟨_,rfl,_,rfl,S⟩
 refine plc E (.r 6 42 .nil) (fun a E=>pld (hK6 _ _ (wp_ret ?_)))
 replace S:=S.pm [] 2
 obtain rfl:=si H
 exact rt1 E ⟨_,rfl,_,rfl,S⟩
def qBJ.f(x:qE):Option qE:=if x.f0=1 then (some (⟨x.f0,x.f1,x.f2,x.f3,x.f4,0,[]⟩:qE)) else (if x.f0=2 then (some (⟨x.f0,x.f1,0,0,x.f4,0,[]⟩:qE)) else (if x.f0=8 then (some (⟨x.f0,0,0,0,0,x.f5,x.f6⟩:qE)) else (if x.f0=9 then (some (⟨x.f0,0,0,0,0,0,[]⟩:qE)) else (if x.f0=10 then (some (⟨x.f0,0,0,0,x.f4,x.f5,[]⟩:qE)) else (some (⟨x.f0,x.f1,0,0,0,0,[]⟩:qE))))))
def qBJ.Post(W F:World)(r:qE)(v:Value)(w':World):Prop:=∃(F':World)(RA0_6:OA)(rc0_6:Nat),v = .agg #[iv r.f0,iv r.f1,iv r.f2,iv r.f3,iv r.f4,iv r.f5,.slice RA0_6 r.f6.length rc0_6]∧Sm W F w' F' []∧Rd ki F' RA0_6 rc0_6 r.f6
theorem qBJ.calls(x:qE)(A0_6:OA)(c0_6:Nat)(r:qE)(W F:World)(hown:Sub F W)(g0_6:Rd ki F A0_6 c0_6 x.f6)(H:qBJ.f x=some r):
    Cr 84 #[.agg #[iv x.f0,iv x.f1,iv x.f2,iv x.f3,iv x.f4,iv x.f5,.slice A0_6 x.f6.length c0_6]] W (qBJ.Post W F r):=by
 have S:=St.start (Own.nil hown)
 unfold qBJ.f at H
 refine ent 55 rfl rfl rfl (fun a E=>?_)
 refine sq fun K1 hK1=>pl0 (plx (t:=40) E S [iv x.f0,iv x.f1,iv x.f2,iv x.f3,iv x.f4,iv x.f5,.slice A0_6 x.f6.length c0_6] fun b2 u3 hb2 S a E=>pla (t:=40) E S [iv 0,iv 0,iv 0,iv 0,iv 0,iv 0,.slice none 0 0] fun b4 u5 hb4 S a E=>pld (hK1 _ _ (sq fun K6 hK6=>sq fun K7 hK7=>pl0 ?_)))
 have hb2:=S.ba 1
 refine plc E (.r 0 1<|.b 1 0 hb2<|.nil) (fun a E=>pld (hK7 _ _ (wp_block (rr E fun a E=>(E.ik 5 H (fun c9 E H=>?_) fun c9 E H=>?_)))))
 refine sq fun K10 hK10=>pl0 (plc E (.r 0 1<|.b 1 0 hb2<|.r 2 1<|.b 3 1 hb2<|.r 4 1<|.b 5 2 hb2<|.r 6 1<|.b 7 3 hb2<|.r 8 1<|.b 9 4 hb2<|.r 10 1<|.nil) (fun a E=>pls E S [iv x.f0,iv x.f1,iv x.f2,iv x.f3,iv x.f4,iv 0,.slice none 0 0] fun u11 hb4 S a E=>pld (hK10 _ _ (wp_ret (qCW (qCV ?_))))))
 replace S:=S.pm [] 2
 obtain rfl:=si H
 exact ret1 E rfl (.cell (by kernel_rfl) (qCk [iv x.f0,iv x.f1,iv x.f2,iv x.f3,iv x.f4,iv 0,.slice none 0 0] ag40 sz40 hb4 rfl) .nil) ⟨_,rfl,_,_,_,rfl,S,(Rd.nil _ _)⟩
 refine rr E fun a E=>(E.ik 18 H (fun c13 E H=>?_) fun c13 E H=>?_)
 refine sq fun K14 hK14=>pl0 (plc E (.r 0 1<|.b 1 0 hb2<|.r 2 1<|.b 3 1 hb2<|.r 4 1<|.b 5 4 hb2<|.r 6 1<|.nil) (fun a E=>pls E S [iv x.f0,iv x.f1,iv 0,iv 0,iv x.f4,iv 0,.slice none 0 0] fun u15 hb4 S a E=>pld (hK14 _ _ (wp_ret (qCW (qCV ?_))))))
 replace S:=S.pm [] 2
 obtain rfl:=si H
 exact ret1 E rfl (.cell (by kernel_rfl) (qCk [iv x.f0,iv x.f1,iv 0,iv 0,iv x.f4,iv 0,.slice none 0 0] ag40 sz40 hb4 rfl) .nil) ⟨_,rfl,_,_,_,rfl,S,(Rd.nil _ _)⟩
 refine rr E fun a E=>(E.ik 27 H (fun c17 E H=>?_) fun c17 E H=>?_)
 refine sq fun K18 hK18=>pl0 (plc E (.r 0 1<|.b 1 0 hb2<|.r 2 1<|.b 3 5 hb2<|.r 4 1<|.b 5 6 hb2<|.r 6 1<|.nil) (fun a E=>pls E S [iv x.f0,iv 0,iv 0,iv 0,iv 0,iv x.f5,.slice A0_6 x.f6.length c0_6] fun u19 hb4 S a E=>pld (hK18 _ _ (wp_ret (qCW (qCV ?_))))))
 replace S:=S.pm [] 2
 obtain rfl:=si H
 exact ret1 E rfl (.cell (by kernel_rfl) (qCk [iv x.f0,iv 0,iv 0,iv 0,iv 0,iv x.f5,.slice A0_6 x.f6.length c0_6] ag40 sz40 hb4 rfl) .nil) ⟨_,rfl,_,_,_,rfl,S,g0_6⟩
 refine rr E fun a E=>(E.ik 36 H (fun c21 E H=>?_) fun c21 E H=>?_)
 refine sq fun K22 hK22=>pl0 (plc E (.r 0 1<|.b 1 0 hb2<|.r 2 1<|.nil) (fun a E=>pls E S [iv x.f0,iv 0,iv 0,iv 0,iv 0,iv 0,.slice none 0 0] fun u23 hb4 S a E=>pld (hK22 _ _ (wp_ret (qCW (qCV ?_))))))
 replace S:=S.pm [] 2
 obtain rfl:=si H
 exact ret1 E rfl (.cell (by kernel_rfl) (qCk [iv x.f0,iv 0,iv 0,iv 0,iv 0,iv 0,.slice none 0 0] ag40 sz40 hb4 rfl) .nil) ⟨_,rfl,_,_,_,rfl,S,(Rd.nil _ _)⟩
 refine rr E fun a E=>(E.ik 41 H (fun c25 E H=>?_) fun c25 E H=>?_)
 refine sq fun K26 hK26=>pl0 (plc E (.r 0 1<|.b 1 0 hb2<|.r 2 1<|.b 3 5 hb2<|.r 4 1<|.b 5 4 hb2<|.r 6 1<|.nil) (fun a E=>pls E S [iv x.f0,iv 0,iv 0,iv 0,iv x.f4,iv x.f5,.slice none 0 0] fun u27 hb4 S a E=>pld (hK26 _ _ (wp_ret (qCW (qCV ?_))))))
 replace S:=S.pm [] 2
 obtain rfl:=si H
 exact ret1 E rfl (.cell (by kernel_rfl) (qCk [iv x.f0,iv 0,iv 0,iv 0,iv x.f4,iv x.f5,.slice none 0 0] ag40 sz40 hb4 rfl) .nil) ⟨_,rfl,_,_,_,rfl,S,(Rd.nil _ _)⟩
 refine wp_skip ?_
 refine qCX ?_
 refine hK6 _ _ (sq fun K28 hK28=>pl0 (plc E (.r 0 1<|.b 1 0 hb2<|.r 2 1<|.b 3 1 hb2<|.r 4 1<|.nil) (fun a E=>pls E S [iv x.f0,iv x.f1,iv 0,iv 0,iv 0,iv 0,.slice none 0 0] fun u29 hb4 S a E=>pld (hK28 _ _ (wp_ret ?_)))))
 replace S:=S.pm [] 2
 obtain rfl:=si H
 exact ret1 E rfl (.cell (by kernel_rfl) (qCk [iv x.f0,iv x.f1,iv 0,iv 0,iv 0,iv 0,.slice none 0 0] ag40 sz40 hb4 rfl) .nil) ⟨_,rfl,_,_,_,rfl,S,(Rd.nil _ _)⟩
mutual
def qp.j13:Nat→qF→qE→Bool→Option (qF × Int)
 | 0,_,_,_=>none
 | k+1,x,y,y12=>if y12=true then (some (x,1)) else ((qAN.f k x y.f5).bind fun t24=>((qw.f k t24 y.f6).bind fun t31=>(if t31=true then (some (x,7)) else ((qq.f k x.f4 y.f6).bind fun t39=>(if t39=true then (qp.l57 k x y ([]:List qD) 0) else (some (x,12)))))))
def qp.l57:Nat→qF→qE→List qD→Int→Option (qF × Int)
 | 0,_,_,_,_=>none
 | k+1,x,y,l54,x55=>if x55<x.f3 then ((qAN.f k x x55).bind fun t67=>(if x55=y.f5 then (qp.j80 k x y l54 x55 y.f6) else (qp.j80 k x y l54 x55 t67))) else (some ((⟨x.f0,x.f1,x.f2,x.f3,x.f4,l54,x.f6⟩:qF),0))
def qp.j80:Nat→qF→qE→List qD→Int→List Int→Option (qF × Int)
 | 0,_,_,_,_,_=>none
 | k+1,x,y,l54,x55,l78=>if (l78.length:Int)>0 then (if ((l54.length:Int)+((1:Nat):Int)) * 32≤140737488355328 then (qp.l57 k x y (l54++[(⟨x55,l78⟩:qD)]) (w64 (x55+1))) else (none)) else (qp.l57 k x y l54 (w64 (x55+1)))
end
theorem qp.j13_s k x y y12:type_of% (qp.j13.eq_2 x y y12 k):=qp.j13.eq_2 x y y12 k
theorem qp.l57_s k x y l54 x55:type_of% (qp.l57.eq_2 x y l54 x55 k):=qp.l57.eq_2 x y l54 x55 k
theorem qp.j80_s k x y l54 x55 l78:type_of% (qp.j80.eq_2 x y l54 x55 l78 k):=qp.j80.eq_2 x y l54 x55 l78 k
def qp.f(k:Nat)(x:qF)(y:qE):Option (qF × Int):=if y.f5<0 then (qp.j13 k x y true) else (if y.f5≥x.f3 then (qp.j13 k x y true) else (qp.j13 k x y (decide ((y.f6.length:Int)>x.f1))))
def qp.Post(W F:World)(r:qF × Int)(v:Value)(w':World):Prop:=∃(F':World)(RA0_4:OA)(rc0_4:Nat)(RA0_5:OA)(rc0_5:Nat)(RA0_6:OA)(rc0_6:Nat),v = .tuple #[.agg #[iv r.1.f0,iv r.1.f1,iv r.1.f2,iv r.1.f3,.slice RA0_4 r.1.f4.length rc0_4,.slice RA0_5 r.1.f5.length rc0_5,.slice RA0_6 r.1.f6.length rc0_6],iv r.2]∧Sm W F w' F' []∧Rd qA.k F' RA0_4 rc0_4 r.1.f4∧Rd qD.k F' RA0_5 rc0_5 r.1.f5∧Rd qC.k F' RA0_6 rc0_6 r.1.f6
theorem qp.calls(k:Nat)(x:qF)(y:qE)(A0_4:OA)(c0_4:Nat)(A0_5:OA)(c0_5:Nat)(A0_6:OA)(c0_6:Nat)(A1_6:OA)(c1_6:Nat)(r:qF × Int)(W F:World)(hown:Sub F W)(g0_4:Rd qA.k F A0_4 c0_4 x.f4)(g0_5:Rd qD.k F A0_5 c0_5 x.f5)(g0_6:Rd qC.k F A0_6 c0_6 x.f6)(g1_6:Rd ki F A1_6 c1_6 y.f6)(H:qp.f k x y=some r):
    Cr 143 #[.agg #[iv x.f0,iv x.f1,iv x.f2,iv x.f3,.slice A0_4 x.f4.length c0_4,.slice A0_5 x.f5.length c0_5,.slice A0_6 x.f6.length c0_6],.agg #[iv y.f0,iv y.f1,iv y.f2,iv y.f3,iv y.f4,iv y.f5,.slice A1_6 y.f6.length c1_6]] W (qp.Post W F r):=by
 have S:=St.start (Own.nil hown)
 unfold qp.f at H
 refine ent 71 rfl rfl rfl (fun a E=>?_)
 refine sq fun K1 hK1=>pl0 (plx (t:=26) E S [iv x.f0,iv x.f1,iv x.f2,iv x.f3,.slice A0_4 x.f4.length c0_4,.slice A0_5 x.f5.length c0_5,.slice A0_6 x.f6.length c0_6] fun b2 u3 hb2 S a E=>plx (t:=40) E S [iv y.f0,iv y.f1,iv y.f2,iv y.f3,iv y.f4,iv y.f5,.slice A1_6 y.f6.length c1_6] fun b4 u5 hb4 S a E=>pla (t:=26) E S [iv 0,iv 0,iv 0,iv 0,.slice none 0 0,.slice none 0 0,.slice none 0 0] fun b6 u7 hb6 S a E=>plc E (.r 3 1 .nil) (fun a E=>pld (hK1 _ _ (sq fun K8 hK8=>sq fun K9 hK9=>?_))))
 have J16:∀ kq14,kq14≤k→∀(G:NV)(y12:Bool)(a:Act)(w':World),Env 71 G a→At G [(2,.pointer (pb b2)),(3,.pointer (pb b4)),(4,.pointer (pb b6)),(26,.bool y12)]→Sm W F w' F [box b6 #[iv 0,iv 0,iv 0,iv 0,.slice none 0 0,.slice none 0 0,.slice none 0 0] 26,box b4 #[iv y.f0,iv y.f1,iv y.f2,iv y.f3,iv y.f4,iv y.f5,.slice A1_6 y.f6.length c1_6] 40,box b2 #[iv x.f0,iv x.f1,iv x.f2,iv x.f3,.slice A0_4 x.f4.length c0_4,.slice A0_5 x.f5.length c0_5,.slice A0_6 x.f6.length c0_6] 26]→qp.j13 kq14 x y y12=some r→K9 a w':=by
  intro kq14 hkq G y12 a u17 E A S H
  obtain _ | k15:=kq14
  exact zz H
  rw [qp.j13_s]at H
  obtain ⟨J,E⟩:=E.at A
  refine hK9 _ _ (E.ib 26 H (fun c18 E H=>?_) fun c18 E H=>?_)
  refine sq fun K19 hK19=>pl0 (plc E (.bn 0 0 7 (S.ba 2) .nil) (fun a E=>pls E S [iv x.f0,iv x.f1,iv x.f2,iv x.f3,.slice A0_4 x.f4.length c0_4,.slice A0_5 x.f5.length c0_5,.slice A0_6 x.f6.length c0_6] fun u20 hb6 S a E=>plc E (.r 2 1 .nil) (fun a E=>pld (hK19 _ _ (wp_ret (qCV ?_))))))
  replace S:=S.pm [] 3
  obtain rfl:=si H
  exact rtm E (.b hb6 ag26 sz26 (.t .nil)) ⟨_,rfl,_,_,_,_,_,_,_,rfl,S,g0_4,g0_5,g0_6⟩
  refine wp_skip (hK8 _ _ (sq fun K21 hK21=>sq fun K22 hK22=>?_))
  refine drawn 7 ⟨[],[],fun q=>False⟩ mixed rfl (by kernel_rfl) (fun hst=>?_)
  replace S:=S.drew
  have hb2:=S.ba 2
  have hb4:=S.ba 1
  refine mny 2 hst E (.bn 0 0 7 hb2<|.r 1 1<|.b 2 5 hb4<|.r 4 1<|.b 5 6 hb4<|.nil) (fun a E=>?_)
  obtain ⟨t24,h25,H⟩:=bd H
  refine on1 3 E (.cl en72 (qAN.calls k15 x y.f5 _ _ _ _ _ _ _ _ _ S.own.sub g0_4 g0_5 g0_6 h25)) ?_
  rintro _ u23 a ⟨F26,A27,c28,rfl,hC,g29⟩ E
  refine ⟨.of hC.agr,?_⟩
  have hs:=hC.sub
  replace S:=S.called (X:=[]) hC
  replace g0_4:=g0_4.mono hs
  replace g0_5:=g0_5.mono hs
  replace g0_6:=g0_6.mono hs
  replace g1_6:=g1_6.mono hs
  obtain ⟨t31,h32,H⟩:=bd H
  refine on1 6 E (.cl en21 (qw.calls k15 t24 y.f6 _ _ _ _ _ _ _ S.own.sub g29 g1_6 h32)) ?_
  rintro _ u30 a ⟨_,rfl,hC⟩ E
  refine ⟨.of hC.agr,?_⟩
  replace S:=S.lent hC
  refine dn ?_
  refine hK22 _ _ (E.ib 34 H (fun c33 E H=>?_) fun c33 E H=>?_)
  refine sq fun K34 hK34=>pl0 (plc E (.bn 0 0 7 (S.ba 2) .nil) (fun a E=>pls E S [iv x.f0,iv x.f1,iv x.f2,iv x.f3,.slice A0_4 x.f4.length c0_4,.slice A0_5 x.f5.length c0_5,.slice A0_6 x.f6.length c0_6] fun u35 hb6 S a E=>plc E (.r 2 1 .nil) (fun a E=>pld (hK34 _ _ (wp_ret (qCV ?_))))))
  replace S:=S.pm [] 3
  obtain rfl:=si H
  exact rtm E (.b hb6 ag26 sz26 (.t .nil)) ⟨_,rfl,_,_,_,_,_,_,_,rfl,S,g0_4,g0_5,g0_6⟩
  refine wp_skip (hK21 _ _ (sq fun K36 hK36=>sq fun K37 hK37=>pl0 ?_))
  have hb2:=S.ba 2
  have hb4:=S.ba 1
  refine plc E (.r 0 1<|.b 1 4 hb2<|.r 2 1<|.b 3 6 hb4<|.nil) (fun a E=>?_)
  obtain ⟨t39,h40,H⟩:=bd H
  refine plq E S en68 (qq.calls k15 x.f4 y.f6 _ _ _ _ _ _ _ S.own.sub g0_4 g1_6 h40) fun u38 S a E=>plc E (.r 5 1 .nil) (fun a E=>pld (hK37 _ _ (E.ibn 41 H (fun c41 E H=>?_) fun c41 E H=>?_)))
  refine wp_skip (hK36 _ _ (sq fun K44 hK44=>pl0 (ple E (.lit (d:=qD.k) (e:=97) S ([]:List qD) (.nil)) ?_)))
  rintro _ u45 a ⟨A46,c47,rfl,S,hg⟩ E
  refine plc E (.r 1 1 .nil) (fun a E=>pld (hK44 _ _ (sq fun K49 hK49=>rr E fun a E=>(wp_block ?_))))
  replace S:=S.pm [1,2,3,0] 4
  refine wp_loop_ghost (fun kq58 a w'=>∃(G:NV)(A52:OA)(c53:Nat)(l54:List qD)(x55:Int)(F56:World),kq58≤k15∧Env 71 G a∧At G [(2,.pointer (pb b2)),(3,.pointer (pb b4)),(4,.pointer (pb b6)),(6,.slice A52 l54.length c53),(7,iv x55)]∧Sm W F w' F56 [box b6 #[iv 0,iv 0,iv 0,iv 0,.slice none 0 0,.slice none 0 0,.slice none 0 0] 26,box b4 #[iv y.f0,iv y.f1,iv y.f2,iv y.f3,iv y.f4,iv y.f5,.slice A1_6 y.f6.length c1_6] 40,box b2 #[iv x.f0,iv x.f1,iv x.f2,iv x.f3,.slice A0_4 x.f4.length c0_4,.slice A0_5 x.f5.length c0_5,.slice A0_6 x.f6.length c0_6] 26,row qD.k 97 (.slice A52 l54.length c53) l54]∧Rd ki F56 A1_6 c1_6 y.f6∧Rd qA.k F56 A0_4 c0_4 x.f4∧Rd qD.k F56 A0_5 c0_5 x.f5∧Rd qC.k F56 A0_6 c0_6 x.f6∧qp.l57 kq58 x y l54 x55=some r) k15 ⟨_,A46,c47,([]:List qD),0,F26,Nat.le_refl _,E,.of,S,g1_6,g0_4,g0_5,g0_6,H⟩ ?_
  rintro kq58 a u60 ⟨G,A52,c53,l54,x55,F56,hkq,E,A,S,g1_6,g0_4,g0_5,g0_6,H⟩
  obtain _ | k59:=kq58
  exact zz H
  rw [qp.l57_s]at H
  obtain ⟨J,E⟩:=E.at A
  refine sq fun K61 hK61=>sq fun K62 hK62=>pl0 ?_
  have hb2:=S.ba 2
  refine plc E (.r 0 2<|.b 2 3 hb2<|.r 3 1<|.nil) (fun a E=>pld (hK62 _ _ (E.ik 47 H (fun c63 E H=>?_) fun c63 E H=>?_)))
  refine wp_skip (hK61 _ _ (sq fun K64 hK64=>wp_block (sq fun K65 hK65=>pl0 (plc E (.bn 0 0 7 hb2<|.r 1 1<|.nil) (fun a E=>?_)))))
  obtain ⟨t67,h68,H⟩:=bd H
  refine ple E (.cl en72 (qAN.calls k59 x x55 _ _ _ _ _ _ _ _ _ S.own.sub g0_4 g0_5 g0_6 h68)) ?_
  rintro _ u66 a ⟨F69,A70,c71,rfl,hC,g72⟩ E
  have hs:=hC.sub
  replace S:=S.called (X:=[]) hC
  replace g0_4:=g0_4.mono hs
  replace g0_5:=g0_5.mono hs
  replace g0_6:=g0_6.mono hs
  replace g1_6:=g1_6.mono hs
  refine plc E (.r 3 1 .nil) (fun a E=>pld (hK65 _ _ (sq fun K73 hK73=>?_)))
  have J83:∀ kq81,kq81≤k59→∀(G:NV)(A76:OA)(c77:Nat)(l78:List Int)(a:Act)(w':World),Env 71 G a→At G [(2,.pointer (pb b2)),(3,.pointer (pb b4)),(4,.pointer (pb b6)),(6,.slice A52 l54.length c53),(7,iv x55),(8,.slice A76 l78.length c77)]→Sm W F w' F69 [box b6 #[iv 0,iv 0,iv 0,iv 0,.slice none 0 0,.slice none 0 0,.slice none 0 0] 26,box b4 #[iv y.f0,iv y.f1,iv y.f2,iv y.f3,iv y.f4,iv y.f5,.slice A1_6 y.f6.length c1_6] 40,box b2 #[iv x.f0,iv x.f1,iv x.f2,iv x.f3,.slice A0_4 x.f4.length c0_4,.slice A0_5 x.f5.length c0_5,.slice A0_6 x.f6.length c0_6] 26,row qD.k 97 (.slice A52 l54.length c53) l54]→Rd ki F69 A76 c77 l78→qp.j80 kq81 x y l54 x55 l78=some r→K73 a w':=by
   intro kq81 hkq G A76 c77 l78 a u84 E A S g79 H
   obtain _ | k82:=kq81
   exact zz H
   rw [qp.j80_s]at H
   obtain ⟨J,E⟩:=E.at A
   refine hK73 _ _ (rr E fun a E=>(E.ik 61 H (fun c86 E H=>?_) fun c86 E H=>?_))
   refine pl0 (plc E (.r 0 4 .nil) (fun a E=>ple E (.lit (d:=qD.k) (e:=97) S [(⟨x55,l78⟩:qD)] (.cons ⟨_,_,rfl,g79⟩ .nil)) ?_))
   rintro _ u87 a ⟨A88,c89,rfl,S,hg⟩ E
   obtain ⟨c91,H⟩:=gd H
   replace S:=S.front 4 rfl
   refine ple E (.ap (d:=qD.k) 32 S (qCf (S.row_at (i:=1) rfl)) c91 c89) ?_
   rintro _ u94 a ⟨A92,c93,rfl,S,hz⟩ E
   refine plc E (.r 6 1 .nil) (fun a E=>pld ?_)
   refine qCX ?_
   refine hK64 _ _ (pl0 (plc E (.r 0 3 .nil) (fun a E=>pld ?_)))
   replace S:=S.pm [2,3,4,0] 5
   exact qCY ⟨k82,by omega,_,A92,c93,(l54++[(⟨x55,l78⟩:qD)]),(w64 (x55+1)),F69,by omega,E,.of,S,g1_6,g0_4,g0_5,g0_6,H⟩
   refine wp_skip ?_
   refine qCX ?_
   refine hK64 _ _ (pl0 (plc E (.r 0 3 .nil) (fun a E=>pld ?_)))
   exact qCY ⟨k82,by omega,_,A52,c53,l54,(w64 (x55+1)),F69,by omega,E,.of,S,g1_6,g0_4,g0_5,g0_6,H⟩
  refine sq fun K74 hK74=>pl0 ?_
  have hb4:=S.ba 1
  refine plc E (.r 0 2<|.b 2 5 hb4<|.r 3 1<|.nil) (fun a E=>pld (hK74 _ _ (E.ik 56 H (fun c75 E H=>?_) fun c75 E H=>?_)))
  refine pl0 (plc E (.r 0 1<|.b 1 6 hb4<|.r 2 1<|.nil) (fun a E=>pld ?_))
  exact J83 _ (by omega) _ A1_6 c1_6 y.f6 _ _ E .of S g1_6 H
  refine wp_skip ?_
  exact J83 _ (by omega) _ A70 c71 t67 _ _ E .of S g72 H
  refine wp_exit ?_
  refine hK49 _ _ (sq fun K95 hK95=>pl0 (plc E (.r 0 2 .nil) (fun a E=>?_)))
  replace S:=S.front 2 rfl
  refine pls E S [iv x.f0,iv x.f1,iv x.f2,iv x.f3,.slice A0_4 x.f4.length c0_4,.slice A52 l54.length c53,.slice A0_6 x.f6.length c0_6] fun u96 hb2 S a E=>pld (hK95 _ _ (sq fun K97 hK97=>pl0 (plc E (.bn 0 0 7 hb2 .nil) (fun a E=>?_))))
  replace S:=S.front 1 rfl
  refine pls E S [iv x.f0,iv x.f1,iv x.f2,iv x.f3,.slice A0_4 x.f4.length c0_4,.slice A52 l54.length c53,.slice A0_6 x.f6.length c0_6] fun u98 hb6 S a E=>plc E (.r 2 1 .nil) (fun a E=>pld (hK97 _ _ (wp_ret ?_)))
  replace S:=S.front 3 rfl
  obtain ⟨F99,hs,g100,S⟩:=S.give
  replace g0_4:=g0_4.mono hs
  replace g0_6:=g0_6.mono hs
  replace g1_6:=g1_6.mono hs
  replace S:=S.pm [] 3
  obtain rfl:=si H
  exact rtm E (.b hb6 ag26 sz26 (.t .nil)) ⟨_,rfl,_,_,_,_,_,_,_,rfl,S,g0_4,g100,g0_6⟩
  refine sq fun K42 hK42=>pl0 (plc E (.bn 0 0 7 (S.ba 2) .nil) (fun a E=>pls E S [iv x.f0,iv x.f1,iv x.f2,iv x.f3,.slice A0_4 x.f4.length c0_4,.slice A0_5 x.f5.length c0_5,.slice A0_6 x.f6.length c0_6] fun u43 hb6 S a E=>plc E (.r 2 1 .nil) (fun a E=>pld (hK42 _ _ (wp_ret (qCV ?_))))))
  replace S:=S.pm [] 3
  obtain rfl:=si H
  exact rtm E (.b hb6 ag26 sz26 (.t .nil)) ⟨_,rfl,_,_,_,_,_,_,_,rfl,S,g0_4,g0_5,g0_6⟩
 refine pl0 ?_
 have hb4:=S.ba 1
 refine plc E (.r 0 1<|.b 1 5 hb4<|.r 2 2<|.nil) (fun a E=>E.fk 12 H (fun c10 E H=>?_) fun c10 E H=>?_)
 refine plc E (.r 4 14 .nil) (fun a E=>pld ?_)
 exact J16 _ (by omega) _ true _ _ E .of S H
 have hb2:=S.ba 2
 refine plc E (.r 4 1<|.b 5 5 hb4<|.r 6 1<|.b 7 3 hb2<|.r 8 3<|.nil) (fun a E=>E.fk 19 H (fun c11 E H=>?_) fun c11 E H=>?_)
 refine plc E (.r 11 7 .nil) (fun a E=>pld ?_)
 exact J16 _ (by omega) _ true _ _ E .of S H
 refine plc E (.r 11 1<|.b 12 6 hb4<|.r 13 2<|.b 15 1 hb2<|.r 16 2<|.nil) (fun a E=>pld ?_)
 exact J16 _ (by omega) _ (decide ((y.f6.length:Int)>x.f1)) _ _ E .of S H
end Go.Proofs.YtpohepinmjmbkaaGreat.PP
