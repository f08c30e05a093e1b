import Derived.Test.YtpohepinmjmbkaaGreatQK4
namespace Go.Proofs.YtpohepinmjmbkaaGreat.QK
open Go Go.RowKit Go.Proofs.YtpohepinmjmbkaaGreat.Sl
set_option linter.unusedVariables false
set_option linter.unusedSimpArgs false
set_option maxHeartbeats 4000000
set_option maxRecDepth 100000
def qY.l5:Nat→List qF→Int→Int→Option Int
 | 0,_,_,_=>none
 | k+1,x,x1c0_,x4=>if x4<(x.length:Int) then (if 0≤x4∧x4<(x.length:Int) then ((qBH.f k (nth qF.z x x4) x1c0_).bind fun t24=>(if t24=true then (some x4) else (qY.l5 k x x1c0_ (w64 (x4+1))))) else (none)) else (some (-1))
theorem qY.l5_s k x x1c0_ x4:type_of% (qY.l5.eq_2 x x1c0_ x4 k):=qY.l5.eq_2 x x1c0_ x4 k
def qY.f(k:Nat)(x:List qF)(x1c0_:Int):Option Int:=qY.l5 k x x1c0_ 0
def qY.Post(W F:World)(r:Int)(v:Value)(w':World):Prop:=∃(F':World),v=iv r∧Sm W F w' F' []
theorem qY.calls(k:Nat)(x:List qF)(x1c0_:Int)(A0_0:OA)(c0_0:Nat)(p1c0_:Nat)(r:Int)(W F:World)(hown:Sub F W)(g0_0:Rd qF.k F A0_0 c0_0 x)(hp1c0_:F.heap[p1c0_]? = some (.cells #[iv x1c0_] 3 (0,0)))(H:qY.f k x x1c0_=some r):
    Cr 163 #[.slice A0_0 x.length c0_0,.func (.func 217) #[] #[.pointer (pb p1c0_)]] W (qY.Post W F r):=by
 have S:=sT hown
 unfold qY.f at H
 refine ent 19 rfl rfl rfl (fun a E=>?_)
 refine rr E fun a E=>(sq fun K2 hK2=>rr E fun a E=>(wp_block ?_))
 refine wp_loop_ghost (fun kq6 a w'=>∃(G:NV)(x4:Int),kq6≤k∧Env 19 G a∧At G [(0,.slice A0_0 x.length c0_0),(1,.func (.func 217) #[] #[.pointer (pb p1c0_)]),(7,iv (x.length:Int)),(8,iv x4)]∧Sm W F w' F []∧qY.l5 kq6 x x1c0_ x4=some r) k ⟨_,0,Nat.le_refl _,E,.of,S,H⟩ ?_
 rintro kq6 a u8 ⟨G,x4,hkq,E,A,S,H⟩
 obtain _ | k7:=kq6
 exact zz H
 rw [qY.l5_s]at H
 obtain ⟨J,E⟩:=E.at A
 refine rr E fun a E=>(sq fun K10 hK10=>E.ik 9 H (fun c11 E H=>?_) fun c11 E H=>?_)
 refine wp_skip (hK10 _ _ (sq fun K12 hK12=>wp_block (rr E fun a E=>(sq fun K14 hK14=>pl0 ?_))))
 obtain ⟨c15,H⟩:=gd H
 have hE_:=E
 obtain ⟨ad16,rfl⟩:=g0_0.addr c15.1 c15.2
 replace E:=hE_
 obtain ⟨cs18,⟨A20,c21,rfl,g22⟩,hc19⟩:=g0_0.el qF.z x4 c15.1 c15.2
 refine plc E (.r 0 3<|.x 3 c15<|.cs 4 (S.fcs hc19)<|.nil) (fun a E=>?_)
 obtain ⟨t24,h25,H⟩:=bd H
 refine plq E S en217 (qBH.calls k7 (nth qF.z x x4) x1c0_ _ _ _ _ _ _ S.own.sub g22 hp1c0_ h25) fun u23 S a E=>pld (hK14 _ _ (E.ib 16 H (fun c26 E H=>?_) fun c26 E H=>?_))
 refine rr E fun a E=>(wp_ret (qCB (qCA (qCA (qCB (qCA ?_))))))
 obtain rfl:=si H
 exact rt1 E ⟨_,rfl,_,rfl,S⟩
 refine wp_skip ?_
 refine qCC ?_
 refine hK12 _ _ (pl0 (plc E (.r 0 2 .nil) (fun a E=>pld ?_)))
 exact qCD ⟨k7,by omega,_,(w64 (x4+1)),by omega,E,.of,S,H⟩
 refine wp_exit ?_
 refine hK2 _ _ (rr E fun a E=>(wp_ret ?_))
 obtain rfl:=si H
 exact rt1 E ⟨_,rfl,_,rfl,S⟩
def qu.f(k:Nat)(x:List qF)(x1c0_:Int):Option Bool:=(qY.f k x x1c0_).bind fun t4=>(some (decide (t4≥0)))
def qu.Post(W F:World)(r:Bool)(v:Value)(w':World):Prop:=∃(F':World),v = .bool r∧Sm W F w' F' []
theorem qu.calls(k:Nat)(x:List qF)(x1c0_:Int)(A0_0:OA)(c0_0:Nat)(p1c0_:Nat)(r:Bool)(W F:World)(hown:Sub F W)(g0_0:Rd qF.k F A0_0 c0_0 x)(hp1c0_:F.heap[p1c0_]? = some (.cells #[iv x1c0_] 3 (0,0)))(H:qu.f k x x1c0_=some r):
    Cr 119 #[.slice A0_0 x.length c0_0,.func (.func 217) #[] #[.pointer (pb p1c0_)]] W (qu.Post W F r):=by
 have S:=sT hown
 unfold qu.f at H
 refine ent 9 rfl rfl rfl (fun a E=>?_)
 refine rr E fun a E=>(sq fun K2 hK2=>pl0 (plc E (.r 0 2 .nil) (fun a E=>?_)))
 obtain ⟨t4,h5,H⟩:=bd H
 refine plq E S en163 (qY.calls k x x1c0_ _ _ _ _ _ _ S.own.sub g0_0 hp1c0_ h5) fun u3 S a E=>plc E (.r 3 2 .nil) (fun a E=>pld (hK2 _ _ (wp_ret ?_)))
 obtain rfl:=si H
 exact rt1 E ⟨_,rfl,_,rfl,S⟩
def qBO.f(k:Nat)(x:qC)(xf0_:Int):Option Bool:=(qu.f k x.f1 xf0_).bind fun t6=>(some t6)
def qBO.Post(W F:World)(r:Bool)(v:Value)(w':World):Prop:=∃(F':World),v = .bool r∧Sm W F w' F' []
theorem qBO.calls(k:Nat)(x:qC)(xf0_:Int)(A0_1:OA)(c0_1:Nat)(pf0_:Nat)(r:Bool)(W F:World)(hown:Sub F W)(g0_1:Rd qF.k F A0_1 c0_1 x.f1)(hpf0_:F.heap[pf0_]? = some (.cells #[iv xf0_] 3 (0,0)))(H:qBO.f k x xf0_=some r):
    Cr 216 #[.agg #[iv x.f0,.slice A0_1 x.f1.length c0_1],.pointer (pb pf0_)] W (qBO.Post W F r):=by
 have S:=sT hown
 unfold qBO.f at H
 refine ent 8 rfl rfl rfl (fun a E=>?_)
 refine sq fun K1 hK1=>pl0 (plx (t:=49) E S [iv x.f0,.slice A0_1 x.f1.length c0_1] fun b2 u3 hb2 S a E=>plc E (.r 1 1 .nil) (fun a E=>pld (hK1 _ _ (sq fun K4 hK4=>pl0 (plc E (.r 0 1<|.b 1 1 hb2<|.r 2 1<|.nil) (fun a E=>?_))))))
 obtain ⟨t6,h7,H⟩:=bd H
 refine plq E S en119 (qu.calls k x.f1 xf0_ _ _ _ _ _ _ S.own.sub g0_1 hpf0_ h7) fun u5 S a E=>plc E (.r 4 1 .nil) (fun a E=>pld (hK4 _ _ (wp_ret ?_)))
 replace S:=S.tail
 obtain rfl:=si H
 exact rt1 E ⟨_,rfl,_,rfl,S⟩
def qZ.l5:Nat→List qC→Int→Int→Option Int
 | 0,_,_,_=>none
 | k+1,x,x1c0_,x4=>if x4<(x.length:Int) then (if 0≤x4∧x4<(x.length:Int) then ((qBO.f k (nth qC.z x x4) x1c0_).bind fun t24=>(if t24=true then (some x4) else (qZ.l5 k x x1c0_ (w64 (x4+1))))) else (none)) else (some (-1))
theorem qZ.l5_s k x x1c0_ x4:type_of% (qZ.l5.eq_2 x x1c0_ x4 k):=qZ.l5.eq_2 x x1c0_ x4 k
def qZ.f(k:Nat)(x:List qC)(x1c0_:Int):Option Int:=qZ.l5 k x x1c0_ 0
def qZ.Post(W F:World)(r:Int)(v:Value)(w':World):Prop:=∃(F':World),v=iv r∧Sm W F w' F' []
theorem qZ.calls(k:Nat)(x:List qC)(x1c0_:Int)(A0_0:OA)(c0_0:Nat)(p1c0_:Nat)(r:Int)(W F:World)(hown:Sub F W)(g0_0:Rd qC.k F A0_0 c0_0 x)(hp1c0_:F.heap[p1c0_]? = some (.cells #[iv x1c0_] 3 (0,0)))(H:qZ.f k x x1c0_=some r):
    Cr 234 #[.slice A0_0 x.length c0_0,.func (.func 216) #[] #[.pointer (pb p1c0_)]] W (qZ.Post W F r):=by
 have S:=sT hown
 unfold qZ.f at H
 refine ent 19 rfl rfl rfl (fun a E=>?_)
 refine rr E fun a E=>(sq fun K2 hK2=>rr E fun a E=>(wp_block ?_))
 refine wp_loop_ghost (fun kq6 a w'=>∃(G:NV)(x4:Int),kq6≤k∧Env 19 G a∧At G [(0,.slice A0_0 x.length c0_0),(1,.func (.func 216) #[] #[.pointer (pb p1c0_)]),(7,iv (x.length:Int)),(8,iv x4)]∧Sm W F w' F []∧qZ.l5 kq6 x x1c0_ x4=some r) k ⟨_,0,Nat.le_refl _,E,.of,S,H⟩ ?_
 rintro kq6 a u8 ⟨G,x4,hkq,E,A,S,H⟩
 obtain _ | k7:=kq6
 exact zz H
 rw [qZ.l5_s]at H
 obtain ⟨J,E⟩:=E.at A
 refine rr E fun a E=>(sq fun K10 hK10=>E.ik 9 H (fun c11 E H=>?_) fun c11 E H=>?_)
 refine wp_skip (hK10 _ _ (sq fun K12 hK12=>wp_block (rr E fun a E=>(sq fun K14 hK14=>pl0 ?_))))
 obtain ⟨c15,H⟩:=gd H
 have hE_:=E
 obtain ⟨ad16,rfl⟩:=g0_0.addr c15.1 c15.2
 replace E:=hE_
 obtain ⟨cs18,⟨A20,c21,rfl,g22⟩,hc19⟩:=g0_0.el qC.z x4 c15.1 c15.2
 refine plc E (.r 0 3<|.x 3 c15<|.cs 4 (S.fcs hc19)<|.nil) (fun a E=>?_)
 obtain ⟨t24,h25,H⟩:=bd H
 refine plq E S en216 (qBO.calls k7 (nth qC.z x x4) x1c0_ _ _ _ _ _ _ S.own.sub g22 hp1c0_ h25) fun u23 S a E=>pld (hK14 _ _ (E.ib 16 H (fun c26 E H=>?_) fun c26 E H=>?_))
 refine rr E fun a E=>(wp_ret (qCB (qCA (qCA (qCB (qCA ?_))))))
 obtain rfl:=si H
 exact rt1 E ⟨_,rfl,_,rfl,S⟩
 refine wp_skip ?_
 refine qCC ?_
 refine hK12 _ _ (pl0 (plc E (.r 0 2 .nil) (fun a E=>pld ?_)))
 exact qCD ⟨k7,by omega,_,(w64 (x4+1)),by omega,E,.of,S,H⟩
 refine wp_exit ?_
 refine hK2 _ _ (rr E fun a E=>(wp_ret ?_))
 obtain rfl:=si H
 exact rt1 E ⟨_,rfl,_,rfl,S⟩
def qv.f(k:Nat)(x:List qC)(x1c0_:Int):Option Bool:=(qZ.f k x x1c0_).bind fun t4=>(some (decide (t4≥0)))
def qv.Post(W F:World)(r:Bool)(v:Value)(w':World):Prop:=∃(F':World),v = .bool r∧Sm W F w' F' []
theorem qv.calls(k:Nat)(x:List qC)(x1c0_:Int)(A0_0:OA)(c0_0:Nat)(p1c0_:Nat)(r:Bool)(W F:World)(hown:Sub F W)(g0_0:Rd qC.k F A0_0 c0_0 x)(hp1c0_:F.heap[p1c0_]? = some (.cells #[iv x1c0_] 3 (0,0)))(H:qv.f k x x1c0_=some r):
    Cr 215 #[.slice A0_0 x.length c0_0,.func (.func 216) #[] #[.pointer (pb p1c0_)]] W (qv.Post W F r):=by
 have S:=sT hown
 unfold qv.f at H
 refine ent 9 rfl rfl rfl (fun a E=>?_)
 refine rr E fun a E=>(sq fun K2 hK2=>pl0 (plc E (.r 0 2 .nil) (fun a E=>?_)))
 obtain ⟨t4,h5,H⟩:=bd H
 refine plq E S en234 (qZ.calls k x x1c0_ _ _ _ _ _ _ S.own.sub g0_0 hp1c0_ h5) fun u3 S a E=>plc E (.r 3 2 .nil) (fun a E=>pld (hK2 _ _ (wp_ret ?_)))
 obtain rfl:=si H
 exact rt1 E ⟨_,rfl,_,rfl,S⟩
def qBT.f(k:Nat)(x:qG)(y:Int):Option Bool:=(qv.f k x.f6 y).bind fun t8=>(some t8)
def qBT.Post(W F:World)(r:Bool)(v:Value)(w':World):Prop:=∃(F':World),v = .bool r∧Sm W F w' F' []
theorem qBT.calls(k:Nat)(x:qG)(y:Int)(A0_4:OA)(c0_4:Nat)(A0_5:OA)(c0_5:Nat)(A0_6:OA)(c0_6:Nat)(r:Bool)(W F:World)(hown:Sub F W)(g0_4:Rd qA.k F A0_4 c0_4 x.f4)(g0_5:Rd qE.k F A0_5 c0_5 x.f5)(g0_6:Rd qC.k F A0_6 c0_6 x.f6)(H:qBT.f k x y=some r):
    Cr 183 #[.agg #[iv x.f0,iv x.f1,iv x.f2,iv x.f3,.slice A0_4 x.f4.length c0_4,.slice A0_5 x.f5.length c0_5,.slice A0_6 x.f6.length c0_6],iv y] W (qBT.Post W F r):=by
 have S:=sT hown
 unfold qBT.f at H
 refine ent 9 rfl rfl rfl (fun a E=>?_)
 refine sq fun K1 hK1=>pl0 (plx (t:=26) E S [iv x.f0,iv x.f1,iv x.f2,iv x.f3,.slice A0_4 x.f4.length c0_4,.slice A0_5 x.f5.length c0_5,.slice A0_6 x.f6.length c0_6] fun b2 u3 hb2 S a E=>plx (t:=3) E S [iv y] fun b4 u5 hb4 S a E=>plc E (.r 2 1 .nil) (fun a E=>pld (hK1 _ _ (sq fun K6 hK6=>pl0 (plc E (.r 0 1<|.b 1 6 (S.ba 1)<|.r 2 1<|.nil) (fun a E=>?_))))))
 obtain ⟨t8,h9,H⟩:=bd H
 refine plq E S en215 (qv.calls k x.f6 y _ _ _ _ _ _ (Sub.refl _) (g0_6.mono S.own.sub) (S.ba 0) h9) fun u7 S a E=>plc E (.r 4 1 .nil) (fun a E=>pld (hK6 _ _ (wp_ret ?_)))
 replace S:=S.pm [] 2
 obtain rfl:=si H
 exact rt1 E ⟨_,rfl,_,rfl,S⟩
set_option maxRecDepth 100000 in
theorem qBx.same(b:Bool){c:Bool}(p:Addr)(W:World)(h:W.cell? p=some (.bool c))(hc:c=b):Calls Tryz.prog 180 #[.pointer (some p),.bool b] W fun e w'=>∃ v,e = .returned v∧(v=iv 7∧w'=W):=by
 subst hc
 refine enter (n:=13) rfl rfl rfl (Nat.le_of_ble_eq_true rfl) (fun a hE=>?_)
 refine sq fun K0 hK0=>?_
 refine pl0 ?_
 refine plc hE (.r 0 1 .nil) (fun a hE=>?_)
 refine pld ?_
 refine hK0 _ _ ?_
 refine sq fun K1 hK1=>?_
 refine sq fun K2 hK2=>?_
 refine pl0 ?_
 refine plc hE (.r 0 2<|.c 2 h<|.r 3 2 .nil) (fun a hE=>?_)
 refine pld ?_
 refine hK2 _ _ ?_
 replace hE:=hE.et 9 (rfl:c=c)
 refine ct hE ?_
 refine sq fun K3 hK3=>?_
 refine pl0 ?_
 refine plc hE (.r 0 1 .nil) (fun a hE=>?_)
 refine pld ?_
 refine hK3 _ _ ?_
 refine wp_ret (qCA ?_)
 exact rt1 hE ⟨_,rfl,rfl,rfl⟩
set_option maxRecDepth 100000 in
theorem qBx.turn {W0:World} {N:Nat→Prop} {F0 W F:World} {L:List Asrt} {xs:List qA} {g n c:Nat} {i:Int} {p:Addr} (hS:St W0 N F0 W F (row qA.k 104 (.slice (pb g) n c) xs :: L)) (yv:qA) (off:Nat) (h01:0≤i∧i<(xs.length:Int)) (cs:List Value) (hcs:∀(j:Nat)(u:Value),cs[j]? = some u→W.cell? (((⟨g,0,none⟩:Addr).add (i.toNat * (qA.k).sz)).add j)=some u) (cur to:Bool) (cs':List Value) (hcur:cs[off]? = some (.bool cur)) (hK:(qA.k).K F yv cs') (hne:¬ cur=to) (hp:p=((⟨g,0,none⟩:Addr).add (i.toNat * (qA.k).sz)).add off:=by rfl)
  (hk:cs'=cs.take off++[.bool to]++cs.drop (off+1):=by rfl) (hl:Nat.beq cs.length (qA.k).sz=true:=by kernel_rfl) (ho:Nat.ble (off+1) (qA.k).sz=true:=by kernel_rfl):Calls Tryz.prog 180 #[.pointer (some p),.bool to] W fun e w'=>∃ v,e = .returned v∧(v=iv 0∧St W0 N F0 w' F (row qA.k 104 (.slice (pb g) n c) (xs.set i.toNat yv) :: L)∧AgrX (fun q=>q=g) W w'):=by
 subst hp
 subst hk
 have h:=hcs off _ hcur
 refine enter (n:=13) rfl rfl rfl (Nat.le_of_ble_eq_true rfl) (fun a hE=>?_)
 refine sq fun K0 hK0=>?_
 refine pl0 ?_
 refine plc hE (.r 0 1 .nil) (fun a hE=>?_)
 refine pld ?_
 refine hK0 _ _ ?_
 refine sq fun K1 hK1=>?_
 refine sq fun K2 hK2=>?_
 refine pl0 ?_
 refine plc hE (.r 0 2<|.c 2 h<|.r 3 2 .nil) (fun a hE=>?_)
 refine pld ?_
 refine hK2 _ _ ?_
 replace hE:=hE.ef 9 hne
 refine cf hE ?_
 refine wp_skip ?_
 refine hK1 _ _ ?_
 refine sq fun K3 hK3=>?_
 refine pl0 ?_
 refine plc hE (.r 0 3 .nil) (fun a hE=>?_)
 refine ple hE (.setx (d:=qA.k) (n:=n) (i:=i) yv off (ea1 _ _ _) hS h01 cs hcs _ hK ?_) ?_
 ·unfold setK
  show (match (Nat.beq [Value.bool to].length 1&&Nat.ble (off+1) (qA.k).sz)&&(true&&Nat.beq cs.length (qA.k).sz) with
   | true=>some (((⟨g,0,none⟩:Addr).add (i.toNat * (qA.k).sz)).add off,cs.take off++[.bool to]++cs.drop (off+1))
   | false=>none)=some _
  rw [hl,ho]
  rfl
 rintro _ w1 a ⟨rfl,hS,hz,hX⟩ hE
 refine pld ?_
 refine hK3 _ _ ?_
 refine sq fun K4 hK4=>?_
 refine pl0 ?_
 refine plc hE (.r 0 1 .nil) (fun a hE=>?_)
 refine pld ?_
 refine hK4 _ _ ?_
 refine wp_ret ?_
 exact rt1 hE ⟨_,rfl,rfl,hS,hX⟩
def qBe.f(k:Nat)(x:qE)(xf0_:qd):Option Bool:=(qAO.f k x.f1 xf0_.f1).bind fun t6=>(some t6)
def qBe.Post(W F:World)(r:Bool)(v:Value)(w':World):Prop:=∃(F':World),v = .bool r∧Sm W F w' F' []
theorem qBe.calls(k:Nat)(x:qE)(xf0_:qd)(A0_1:OA)(c0_1:Nat)(pf0_:Nat)(Af0_6:OA)(cf0_6:Nat)(r:Bool)(W F:World)(hown:Sub F W)(g0_1:Rd ki F A0_1 c0_1 x.f1)(gf0_6:Rd ki F Af0_6 cf0_6 xf0_.f6)(hpf0_:F.heap[pf0_]? = some (.cells #[iv xf0_.f0,iv xf0_.f1,iv xf0_.f2,iv xf0_.f3,iv xf0_.f4,iv xf0_.f5,.slice Af0_6 xf0_.f6.length cf0_6] 40 (0,0)))(H:qBe.f k x xf0_=some r):
    Cr 182 #[.agg #[iv x.f0,.slice A0_1 x.f1.length c0_1],.pointer (pb pf0_)] W (qBe.Post W F r):=by
 have S:=sT hown
 unfold qBe.f at H
 refine ent 9 rfl rfl rfl (fun a E=>?_)
 refine sq fun K1 hK1=>pl0 (plx (t:=97) E S [iv x.f0,.slice A0_1 x.f1.length c0_1] fun b2 u3 hb2 S a E=>plc E (.r 1 1 .nil) (fun a E=>pld (hK1 _ _ (sq fun K4 hK4=>pl0 (plc E (.r 0 1<|.b 1 1 hb2<|.r 2 1<|.b 3 1 (S.own.sub _ _ _ _ hpf0_)<|.nil) (fun a E=>?_))))))
 obtain ⟨t6,h7,H⟩:=bd H
 refine plq E S en118 (qAO.calls k x.f1 xf0_.f1 _ _ _ _ _ S.own.sub g0_1 h7) fun u5 S a E=>plc E (.r 5 1 .nil) (fun a E=>pld (hK4 _ _ (wp_ret ?_)))
 replace S:=S.tail
 obtain rfl:=si H
 exact rt1 E ⟨_,rfl,_,rfl,S⟩
def qc.l5:Nat→List qE→qd→Int→Option Int
 | 0,_,_,_=>none
 | k+1,x,x1c0_,x4=>if x4<(x.length:Int) then (if 0≤x4∧x4<(x.length:Int) then ((qBe.f k (nth qE.z x x4) x1c0_).bind fun t24=>(if t24=true then (some x4) else (qc.l5 k x x1c0_ (w64 (x4+1))))) else (none)) else (some (-1))
theorem qc.l5_s k x x1c0_ x4:type_of% (qc.l5.eq_2 x x1c0_ x4 k):=qc.l5.eq_2 x x1c0_ x4 k
def qc.f(k:Nat)(x:List qE)(x1c0_:qd):Option Int:=qc.l5 k x x1c0_ 0
def qc.Post(W F:World)(r:Int)(v:Value)(w':World):Prop:=∃(F':World),v=iv r∧Sm W F w' F' []
theorem qc.calls(k:Nat)(x:List qE)(x1c0_:qd)(A0_0:OA)(c0_0:Nat)(p1c0_:Nat)(A1c0_6:OA)(c1c0_6:Nat)(r:Int)(W F:World)(hown:Sub F W)(g0_0:Rd qE.k F A0_0 c0_0 x)(g1c0_6:Rd ki F A1c0_6 c1c0_6 x1c0_.f6)(hp1c0_:F.heap[p1c0_]? = some (.cells #[iv x1c0_.f0,iv x1c0_.f1,iv x1c0_.f2,iv x1c0_.f3,iv x1c0_.f4,iv x1c0_.f5,.slice A1c0_6 x1c0_.f6.length c1c0_6] 40 (0,0)))(H:qc.f k x x1c0_=some r):
    Cr 214 #[.slice A0_0 x.length c0_0,.func (.func 182) #[] #[.pointer (pb p1c0_)]] W (qc.Post W F r):=by
 have S:=sT hown
 unfold qc.f at H
 refine ent 19 rfl rfl rfl (fun a E=>?_)
 refine rr E fun a E=>(sq fun K2 hK2=>rr E fun a E=>(wp_block ?_))
 refine wp_loop_ghost (fun kq6 a w'=>∃(G:NV)(x4:Int),kq6≤k∧Env 19 G a∧At G [(0,.slice A0_0 x.length c0_0),(1,.func (.func 182) #[] #[.pointer (pb p1c0_)]),(7,iv (x.length:Int)),(8,iv x4)]∧Sm W F w' F []∧qc.l5 kq6 x x1c0_ x4=some r) k ⟨_,0,Nat.le_refl _,E,.of,S,H⟩ ?_
 rintro kq6 a u8 ⟨G,x4,hkq,E,A,S,H⟩
 obtain _ | k7:=kq6
 exact zz H
 rw [qc.l5_s]at H
 obtain ⟨J,E⟩:=E.at A
 refine rr E fun a E=>(sq fun K10 hK10=>E.ik 9 H (fun c11 E H=>?_) fun c11 E H=>?_)
 refine wp_skip (hK10 _ _ (sq fun K12 hK12=>wp_block (rr E fun a E=>(sq fun K14 hK14=>pl0 ?_))))
 obtain ⟨c15,H⟩:=gd H
 have hE_:=E
 obtain ⟨ad16,rfl⟩:=g0_0.addr c15.1 c15.2
 replace E:=hE_
 obtain ⟨cs18,⟨A20,c21,rfl,g22⟩,hc19⟩:=g0_0.el qE.z x4 c15.1 c15.2
 refine plc E (.r 0 3<|.x 3 c15<|.cs 4 (S.fcs hc19)<|.nil) (fun a E=>?_)
 obtain ⟨t24,h25,H⟩:=bd H
 refine plq E S en182 (qBe.calls k7 (nth qE.z x x4) x1c0_ _ _ _ _ _ _ _ _ S.own.sub g22 g1c0_6 hp1c0_ h25) fun u23 S a E=>pld (hK14 _ _ (E.ib 16 H (fun c26 E H=>?_) fun c26 E H=>?_))
 refine rr E fun a E=>(wp_ret (qCB (qCA (qCA (qCB (qCA ?_))))))
 obtain rfl:=si H
 exact rt1 E ⟨_,rfl,_,rfl,S⟩
 refine wp_skip ?_
 refine qCC ?_
 refine hK12 _ _ (pl0 (plc E (.r 0 2 .nil) (fun a E=>pld ?_)))
 exact qCD ⟨k7,by omega,_,(w64 (x4+1)),by omega,E,.of,S,H⟩
 refine wp_exit ?_
 refine hK2 _ _ (rr E fun a E=>(wp_ret ?_))
 obtain rfl:=si H
 exact rt1 E ⟨_,rfl,_,rfl,S⟩
def qr.f(k:Nat)(x:List qE)(x1c0_:qd):Option Bool:=(qc.f k x x1c0_).bind fun t4=>(some (decide (t4≥0)))
def qr.Post(W F:World)(r:Bool)(v:Value)(w':World):Prop:=∃(F':World),v = .bool r∧Sm W F w' F' []
theorem qr.calls(k:Nat)(x:List qE)(x1c0_:qd)(A0_0:OA)(c0_0:Nat)(p1c0_:Nat)(A1c0_6:OA)(c1c0_6:Nat)(r:Bool)(W F:World)(hown:Sub F W)(g0_0:Rd qE.k F A0_0 c0_0 x)(g1c0_6:Rd ki F A1c0_6 c1c0_6 x1c0_.f6)(hp1c0_:F.heap[p1c0_]? = some (.cells #[iv x1c0_.f0,iv x1c0_.f1,iv x1c0_.f2,iv x1c0_.f3,iv x1c0_.f4,iv x1c0_.f5,.slice A1c0_6 x1c0_.f6.length c1c0_6] 40 (0,0)))(H:qr.f k x x1c0_=some r):
    Cr 181 #[.slice A0_0 x.length c0_0,.func (.func 182) #[] #[.pointer (pb p1c0_)]] W (qr.Post W F r):=by
 have S:=sT hown
 unfold qr.f at H
 refine ent 9 rfl rfl rfl (fun a E=>?_)
 refine rr E fun a E=>(sq fun K2 hK2=>pl0 (plc E (.r 0 2 .nil) (fun a E=>?_)))
 obtain ⟨t4,h5,H⟩:=bd H
 refine plq E S en214 (qc.calls k x x1c0_ _ _ _ _ _ _ _ _ S.own.sub g0_0 g1c0_6 hp1c0_ h5) fun u3 S a E=>plc E (.r 3 2 .nil) (fun a E=>pld (hK2 _ _ (wp_ret ?_)))
 obtain rfl:=si H
 exact rt1 E ⟨_,rfl,_,rfl,S⟩
def qAV.f(x:List qA)(y:Int)(p:Int):Option (List qA):=if 0≤y∧y≤p∧p≤(x.length:Int)∧x.length≤1000000 then some (x.take y.toNat++x.drop p.toNat) else none
def qAV.Post(x:List qA)(y:Int)(p:Int)(A0_0:OA)(c0_0:Nat)(W F:World)(r:List qA)(v:Value)(w':World):Prop:=∃(F':World)(RA0_0:OA)(rc0_0:Nat),v = .slice RA0_0 r.length rc0_0∧St W (mine W [row qA.k 104 (.slice A0_0 x.length c0_0) x]) F w' F' [row qA.k 104 (.slice RA0_0 r.length rc0_0) r]
set_option maxHeartbeats 4000000 in
set_option maxRecDepth 100000 in
theorem qAV.calls(x:List qA)(y:Int)(p:Int)(A0_0:OA)(c0_0:Nat)(r:List qA)(W F:World)(hown:Own W F [row qA.k 104 (.slice A0_0 x.length c0_0) x])(H:qAV.f x y p=some r):
    Cr 184 #[.slice A0_0 x.length c0_0,iv y,iv p] W (qAV.Post x y p A0_0 c0_0 W F r):=by
 have S:=St.start hown
 unfold qAV.f at H
 by_cases hc:0≤y∧y≤p∧p≤(x.length:Int)∧x.length≤1000000
 rotate_left
 ·
  rw [if_neg hc]at H; cases H
 rw [if_pos hc]at H
 have hr:=Option.some.inj H
 clear H
 obtain ⟨h0,h1,h2,hmax⟩:=hc
 obtain ⟨i,rfl⟩:∃ i:Nat,y=i:=⟨y.toNat,by omega⟩
 obtain ⟨j,rfl⟩:∃ j:Nat,p=j:=⟨p.toNat,by omega⟩
 simp only [Int.toNat_natCast]at hr
 have hxc:x.length≤c0_0∧c0_0≤maxLen:=by
  obtain ⟨_,q1,q2,_⟩:=qCE (S.row_at (i:=0) rfl)
  exact ⟨q1,q2⟩
 refine enter (n:=33) rfl rfl rfl (Nat.le_of_ble_eq_true rfl) (fun a E=>?_)
 refine rr E fun a E=>(rg E (.r 0 5<|.y 5 (qHS (e:=104) (z:=6) (A:=A0_0) (n:=x.length) (c:=c0_0) (kl:=.i64) (kh:=.i64) (km:=.i64) (lo:=(i:Int)) (hi:=(j:Int)) (mx:=(x.length:Int)) (by omega) (by omega) (by omega) (by omega)) .nil) fun a E=>(sq fun K2 hK2=>rr E fun a E=>?_))
 by_cases hij:(i:Int)=(j:Int)
 ·
  replace E:=E.et 16 hij
  refine ct E ?_
  obtain rfl:i=j:=by omega
  obtain rfl:x=r:=by rw [← hr,List.take_append_drop]
  refine rr E fun a E=>(wp_ret (qCA ?_))
  exact rt1 E ⟨_,rfl,F,_,_,rfl,S⟩
 replace E:=E.ef 16 hij
 refine cf E (wp_skip (hK2 _ _ ?_))
 have hE_:=E
 obtain ⟨g,cur,rfl,hsz,hrep,S⟩:=S.unrow (by omega)
 replace E:=hE_
 replace hsz:cur.size=c0_0 * 6:=hsz
 obtain ⟨inner,hin⟩:∃ inner,inner=cur.toList.take (x.length * 6):=⟨_,rfl⟩
 have hil:inner.length=x.length * 6:=by rw [hin]; exact hrep.1
 have hnz:x.length * 6≤c0_0 * 6:=Nat.mul_le_mul_right _ hxc.1
 have hjz:j * 6≤x.length * 6:=Nat.mul_le_mul_right _ (by omega)
 have hiz:i * 6≤j * 6:=Nat.mul_le_mul_right _ (by omega)
 have hidl:(inner.drop (j * 6)).length=(x.length - j) * 6:=by rw [List.length_drop,hil,Nat.sub_mul]
 have hrep2:RepsK qA.k F x inner:=by rw [hin]; exact hrep
 have hione:∀ u ∈ inner.drop (j * 6),u.oneCell'=true:=fun u hu=>hrep2.one u (List.mem_of_mem_drop hu)
 have higet:∀ q u,(inner.drop (j * 6))[q]? = some u→cur[j * 6+q]? = some u:=fun q u hq=>by
  rw [List.getElem?_drop,hin,List.getElem?_take]at hq
  split at hq
  ·
   rwa [Array.getElem?_toList]at hq
  ·
   cases hq
 refine rr E fun a E=>(sq fun K6 hK6=>?_)
 refine drawn 8 ⟨[6],[],fun q=>False⟩ mixed rfl (by kernel_rfl) (fun hst=>?_)
 replace S:=S.drew
 have hbg:=S.ba 0
 refine mny 2 hst E (.r 0 2<|.y 2 (y_hi (e:=104) (z:=6) (g:=g) (n:=x.length) (c:=c0_0) (k:=.i64) (hi:=(i:Int)) ⟨by omega,by omega⟩)<|.r 3 2<|.y 5 (qHT (e:=104) (z:=6) (g:=g) (n:=x.length) (c:=c0_0) (k:=.i64) (lo:=(j:Int)) ⟨by omega,by omega⟩) .nil) (fun a E=>?_)
 refine on1 6 E (.apf (e:=104) (g:=g) (i:=(i:Int).toNat) (m:=x.length - (j:Int).toNat) (c:=c0_0) (sc:=c0_0 - (j:Int).toNat) (z:=6) (bytes:=40) (sa:=if c0_0=(j:Int).toNat then some ⟨g,0,none⟩ else some ⟨g,(j:Int).toNat * 6,none⟩) S (inner.drop (j * 6)) (by rw [hidl,Int.toNat_natCast]) (fun hm=>⟨⟨g,j * 6,none⟩,by
      rw [Int.toNat_natCast]at hm ⊢
      rw [if_neg (by omega)],fun q u hq=>by rw [qCK]; exact qCH hbg (higet q u hq)⟩) hione (by
      rw [Int.toNat_natCast,hidl,hsz,Nat.sub_mul]
      omega) (by rw [Int.toNat_natCast,Int.toNat_natCast]; omega) (by kernel_rfl)) ?_
 rintro _ w1 a ⟨rfl,S,hz⟩ E
 refine ⟨.d,?_⟩
 refine mny 0 hst E (.r 7 1 .nil) (fun a E=>?_)
 refine dn ?_
 simp only [Int.toNat_natCast]at S E
 refine hK6 _ _ ?_
 have hlen:(x.take i++x.drop j++x.drop (i+(x.length - j))).length=x.length:=by
  rw [List.length_append,List.length_append,List.length_take,List.length_drop,List.length_drop]
  omega
 have hrr:=qFC (d:=qA.k) (F:=F) (xs:=x) (i:=i) (j:=j) (cur:=cur.toList) hrep (by omega) (by omega) (by
    show x.length * 6≤cur.size
    rw [hsz]
    exact hnz)
 have hS2:=S.rerow (d:=qA.k) (c:=c0_0) (x.take i++x.drop j++x.drop (i+(x.length - j))) (by
    show (cur.toList.take (i * 6)++inner.drop (j * 6)++cur.toList.drop (i * 6+(inner.drop (j * 6)).length)).length=c0_0 * 6
    rw [List.length_append,List.length_append,hidl,List.length_take,List.length_drop,show cur.toList.length=c0_0 * 6 from hsz,Nat.sub_mul]
    omega) (by rw [hlen]; exact hxc.1) hxc.2 (by rw [hlen,hin]; exact hrr)
 rw [hlen]at hS2
 refine sq fun K7 hK7=>pl0 (plc E (.r 0 4<|.y 4 (y_mid (e:=104) (z:=6) (g:=g) (n:=i+(x.length - j)) (c:=c0_0) (k:=.i64) (k':=.i64) (lo:=((i+(x.length - j):Nat):Int)) (hi:=(x.length:Int)) (by omega) (by omega) (by omega) (by omega)) .nil) (fun a E=>ple E (.clr (d:=qA.k) (e:=104) (A:=some ⟨g,0,none⟩) (n:=x.length) (c:=c0_0) (c':=c0_0 - ((i+(x.length - j):Nat):Int).toNat) (A':=some ⟨g,((i+(x.length - j):Nat):Int).toNat * 6,none⟩) (lo:=((i+(x.length - j):Nat):Int)) 40 qA.z hS2 ⟨by omega,by omega⟩ (.inr ⟨g,rfl,rfl⟩) (by rw [zr104]; exact rfl)) ?_))
 rintro _ w2 a ⟨rfl,hS3,hz2⟩ E
 refine pld (hK7 _ _ (rr E fun a E=>(wp_ret ?_)))
 have hS4:=hS3.shrink (hi:=((i+(x.length - j):Nat):Int)) ⟨by omega,by omega⟩
 have hl1:(x.take i++x.drop j).length=i+(x.length - j):=by
  rw [List.length_append,List.length_take,List.length_drop]
  omega
 have hcut:∀ t:List qA,cutl ((x.take i++x.drop j++x.drop (i+(x.length - j))).take ((i+(x.length - j):Nat):Int).toNat++t) 0 ((i+(x.length - j):Nat):Int)=r:=by
  intro t
  unfold cutl
  have e1:(x.take i++x.drop j++x.drop (i+(x.length - j))).take (i+(x.length - j))=x.take i++x.drop j:=by
   rw [← hl1,List.take_left']
   rfl
  rw [Int.toNat_natCast,Int.toNat_zero,List.drop_zero,← hr,e1,← hl1,List.take_left']
  rfl
 rw [hcut]at hS4
 have hrl:r.length=i+(x.length - j):=by rw [← hr]; exact hl1
 rw [← hrl]at E
 exact rt1 E ⟨_,rfl,F,_,_,rfl,hS4⟩
mutual
def qAb.j45:Nat→qG→Int→qd→Bool→Option (qG × Int)
 | 0,_,_,_,_=>none
 | k+1,x,y,z,y44=>if y44=true then (if ((nth qA.z x.f4 y).f4)=(z.f0 == 3) then (some (x,7)) else (some ((⟨x.f0,x.f1,x.f2,x.f3,(x.f4.set (y).toNat (⟨(nth qA.z x.f4 y).f0,(nth qA.z x.f4 y).f1,(nth qA.z x.f4 y).f2,(nth qA.z x.f4 y).f3,(z.f0 == 3),(nth qA.z x.f4 y).f5⟩:qA)),x.f5,x.f6⟩:qG),0))) else (if z.f0=5 then (qAb.j64 k x y z true) else (qAb.j64 k x y z (z.f0 == 6)))
def qAb.j64:Nat→qG→Int→qd→Bool→Option (qG × Int)
 | 0,_,_,_,_=>none
 | k+1,x,y,z,y63=>if y63=true then (if ((nth qA.z x.f4 y).f5)=(z.f0 == 6) then (some (x,7)) else (some ((⟨x.f0,x.f1,x.f2,x.f3,(x.f4.set (y).toNat (⟨(nth qA.z x.f4 y).f0,(nth qA.z x.f4 y).f1,(nth qA.z x.f4 y).f2,(nth qA.z x.f4 y).f3,(nth qA.z x.f4 y).f4,(z.f0 == 6)⟩:qA)),x.f5,x.f6⟩:qG),0))) else ((qr.f k x.f5 z).bind fun t81=>(if ((nth qA.z x.f4 y).f4)=true then (qAb.j103 k x y true) else (if ((nth qA.z x.f4 y).f5)=true then (if (nth qA.z x.f4 y).f3>0 then (qAb.j103 k x y true) else (if t81=true then (qAb.j103 k x y true) else ((qBT.f k x z.f1).bind fun t96=>(qAb.j103 k x y t96)))) else (if t81=true then (qAb.j103 k x y true) else ((qBT.f k x z.f1).bind fun t100=>(qAb.j103 k x y t100))))))
def qAb.j103:Nat→qG→Int→Bool→Option (qG × Int)
 | 0,_,_,_=>none
 | k+1,x,y,y102=>if y102=true then (some (x,11)) else ((qAV.f x.f4 y (w64 (y+1))).bind fun t113=>(some ((⟨x.f0,x.f1,x.f2,x.f3,t113,x.f5,x.f6⟩:qG),0)))
end
theorem qAb.j45_s k x y z y44:type_of% (qAb.j45.eq_2 x y z y44 k):=qAb.j45.eq_2 x y z y44 k
theorem qAb.j64_s k x y z y63:type_of% (qAb.j64.eq_2 x y z y63 k):=qAb.j64.eq_2 x y z y63 k
theorem qAb.j103_s k x y y102:type_of% (qAb.j103.eq_2 x y y102 k):=qAb.j103.eq_2 x y y102 k
def qAb.f(k:Nat)(x:qG)(y:Int)(z:qd):Option (qG × Int):=if 0≤y∧y<(x.f4.length:Int) then (if z.f0=2 then ((qAq.f z.f4 0 65536).bind fun t22=>(if t22=true then (if (nth qA.z x.f4 y).f3=z.f4 then (some (x,7)) else (some ((⟨x.f0,x.f1,x.f2,x.f3,(x.f4.set (y).toNat (⟨(nth qA.z x.f4 y).f0,(nth qA.z x.f4 y).f1,(nth qA.z x.f4 y).f2,z.f4,(nth qA.z x.f4 y).f4,(nth qA.z x.f4 y).f5⟩:qA)),x.f5,x.f6⟩:qG),0))) else (some (x,1)))) else (if z.f0=3 then (qAb.j45 k x y z true) else (qAb.j45 k x y z (z.f0 == 4)))) else (none)
def qAb.Post(x:qG)(y:Int)(z:qd)(A0_4:OA)(c0_4:Nat)(A0_5:OA)(c0_5:Nat)(A0_6:OA)(c0_6:Nat)(A2_6:OA)(c2_6:Nat)(W F:World)(r:qG × Int)(v:Value)(w':World):Prop:=∃(F':World)(RA0_4:OA)(rc0_4:Nat)(RA0_5:OA)(rc0_5:Nat)(RA0_6:OA)(rc0_6:Nat),v = .tuple #[.agg #[iv r.1.f0,iv r.1.f1,iv r.1.f2,iv r.1.f3,.slice RA0_4 r.1.f4.length rc0_4,.slice RA0_5 r.1.f5.length rc0_5,.slice RA0_6 r.1.f6.length rc0_6],iv r.2]∧St W (mine W [row qA.k 104 (.slice A0_4 x.f4.length c0_4) x.f4]) F w' F' [row qA.k 104 (.slice RA0_4 r.1.f4.length rc0_4) r.1.f4]∧Rd qE.k F' RA0_5 rc0_5 r.1.f5∧Rd qC.k F' RA0_6 rc0_6 r.1.f6
theorem qAb.calls(k:Nat)(x:qG)(y:Int)(z:qd)(A0_4:OA)(c0_4:Nat)(A0_5:OA)(c0_5:Nat)(A0_6:OA)(c0_6:Nat)(A2_6:OA)(c2_6:Nat)(r:qG × Int)(W F:World)(hown:Own W F [row qA.k 104 (.slice A0_4 x.f4.length c0_4) x.f4])(g0_5:Rd qE.k F A0_5 c0_5 x.f5)(g0_6:Rd qC.k F A0_6 c0_6 x.f6)(g2_6:Rd ki F A2_6 c2_6 z.f6)(H:qAb.f k x y z=some r):
    Cr 136 #[.agg #[iv x.f0,iv x.f1,iv x.f2,iv x.f3,.slice A0_4 x.f4.length c0_4,.slice A0_5 x.f5.length c0_5,.slice A0_6 x.f6.length c0_6],iv y,.agg #[iv z.f0,iv z.f1,iv z.f2,iv z.f3,iv z.f4,iv z.f5,.slice A2_6 z.f6.length c2_6]] W (qAb.Post x y z A0_4 c0_4 A0_5 c0_5 A0_6 c0_6 A2_6 c2_6 W F r):=by
 have S:=St.start hown
 obtain ⟨N,hN⟩:∃ N,N=mine W [row qA.k 104 (.slice A0_4 x.f4.length c0_4) x.f4]:=⟨_,rfl⟩
 rw [← hN]at S
 unfold qAb.f at H
 refine ent 98 rfl rfl rfl (fun a E=>?_)
 refine sq fun K1 hK1=>pl0 (plx (t:=26) E S [iv x.f0,iv x.f1,iv x.f2,iv x.f3,.slice A0_4 x.f4.length c0_4,.slice A0_5 x.f5.length c0_5,.slice A0_6 x.f6.length c0_6] fun b2 u3 hb2 S a E=>plx (t:=40) E S [iv z.f0,iv z.f1,iv z.f2,iv z.f3,iv z.f4,iv z.f5,.slice A2_6 z.f6.length c2_6] fun b4 u5 hb4 S a E=>pla (t:=26) E S [iv 0,iv 0,iv 0,iv 0,.slice none 0 0,.slice none 0 0,.slice none 0 0] fun b6 u7 hb6 S a E=>plc E (.r 3 1 .nil) (fun a E=>pld (hK1 _ _ (sq fun K8 hK8=>pl0 ?_))))
 have hb2:=S.ba 2
 obtain ⟨c9,H⟩:=gd H
 have hr10:=S.ra 3
 have hE_:=E
 obtain ⟨b11,rfl⟩:=qCJ hr10 c9.1 c9.2
 replace E:=hE_
 have hr_:=S.ra 3
 obtain ⟨cs13,rfl,hc14⟩:=qCF hr_ qA.z y c9.1 c9.2
 refine plc E (.r 0 1<|.b 1 4 hb2<|.r 2 1<|.x 3 c9<|.r 4 1<|.nil) (fun a E=>pld (hK8 _ _ (sq fun K15 hK15=>sq fun K16 hK16=>pl0 ?_)))
 have hb4:=S.ba 1
 refine plc E (.r 0 1<|.b 1 0 hb4<|.nil) (fun a E=>pld (hK16 _ _ (wp_block (rr E fun a E=>(E.ik 16 H (fun c18 E H=>?_) fun c18 E H=>?_)))))
 refine sq fun K19 hK19=>sq fun K20 hK20=>pl0 (plc E (.r 0 1<|.b 1 4 hb4<|.nil) (fun a E=>?_))
 obtain ⟨t22,h23,H⟩:=bd H
 refine plq E S en70 (qAq.calls z.f4 0 65536 _ _ _ S.own.sub h23) fun u21 S a E=>plc E (.r 3 1 .nil) (fun a E=>pld (hK20 _ _ (E.ibn 21 H (fun c24 E H=>?_) fun c24 E H=>?_)))
 refine wp_skip (hK19 _ _ (sq fun K27 hK27=>sq fun K28 hK28=>?_))
 refine drawn 7 ⟨[],[],fun q=>False⟩ mixed rfl (by kernel_rfl) (fun hst=>?_)
 replace S:=S.drew
 obtain ⟨cs29,rfl,hc30⟩:=qCF (S.row_at (i:=3) rfl) qA.z y c9.1 c9.2
 have hb4:=S.ba 1
 refine mny 0 hst E (.r 0 3<|.c 3 (hc30 3 _ rfl)<|.r 4 1<|.b 5 4 hb4<|.r 6 1<|.nil) (fun a E=>?_)
 refine dn ?_
 refine hK28 _ _ (E.ik 29 H (fun c31 E H=>?_) fun c31 E H=>?_)
 refine sq fun K32 hK32=>pl0 (plc E (.bn 0 0 7 (S.ba 2) .nil) (fun a E=>pls E S [iv x.f0,iv x.f1,iv x.f2,iv x.f3,.slice (pb b11) x.f4.length c0_4,.slice A0_5 x.f5.length c0_5,.slice A0_6 x.f6.length c0_6] fun u33 hb6 S a E=>plc E (.r 2 1 .nil) (fun a E=>pld (hK32 _ _ (wp_ret (qCA (qCB (qCA ?_))))))))
 replace S:=S.pm [] 3
 rw [hN]at S
 obtain rfl:=si H
 exact rtm E (.b hb6 ag26 sz26 (.t .nil)) ⟨_,rfl,_,_,_,_,_,_,_,rfl,S,g0_5,g0_6⟩
 refine wp_skip (hK27 _ _ (sq fun K34 hK34=>pl0 (plc E (.r 0 2<|.b 2 4 hb4<|.r 3 2<|.nil) (fun a E=>?_))))
 replace S:=S.front 3 rfl
 obtain ⟨cs36,rfl,hc37⟩:=qCF (S.row_at (i:=0) rfl) qA.z y c9.1 c9.2
 refine ple E (.set (d:=qA.k) (n:=x.f4.length) (i:=y) (⟨(nth qA.z x.f4 y).f0,(nth qA.z x.f4 y).f1,(nth qA.z x.f4 y).f2,z.f4,(nth qA.z x.f4 y).f4,(nth qA.z x.f4 y).f5⟩:qA) 3 (ea1 _ _ _) S c9 [iv ((nth qA.z x.f4 y).f0),iv ((nth qA.z x.f4 y).f1),iv ((nth qA.z x.f4 y).f2),iv ((nth qA.z x.f4 y).f3),.bool ((nth qA.z x.f4 y).f4),.bool ((nth qA.z x.f4 y).f5)] hc37 [iv ((nth qA.z x.f4 y).f0),iv ((nth qA.z x.f4 y).f1),iv ((nth qA.z x.f4 y).f2),iv z.f4,.bool ((nth qA.z x.f4 y).f4),.bool ((nth qA.z x.f4 y).f5)] rfl) ?_
 rintro _ u35 a ⟨rfl,S,hz⟩ E
 refine pld (hK34 _ _ (sq fun K38 hK38=>pl0 (plc E (.bn 0 0 7 (S.ba 3) .nil) (fun a E=>?_))))
 replace S:=S.front 1 rfl
 refine pls E S [iv x.f0,iv x.f1,iv x.f2,iv x.f3,.slice (pb b11) x.f4.length c0_4,.slice A0_5 x.f5.length c0_5,.slice A0_6 x.f6.length c0_6] fun u39 hb6 S a E=>plc E (.r 2 1 .nil) (fun a E=>pld (hK38 _ _ (wp_ret (qCB (qCA ?_)))))
 have hn40:=(qCE (S.row_at (i:=1) rfl)).1
 replace S:St W N F u39 F [box b6 #[iv x.f0,iv x.f1,iv x.f2,iv x.f3,.slice (pb b11) ((x.f4.set (y).toNat (⟨(nth qA.z x.f4 y).f0,(nth qA.z x.f4 y).f1,(nth qA.z x.f4 y).f2,z.f4,(nth qA.z x.f4 y).f4,(nth qA.z x.f4 y).f5⟩:qA)).length) c0_4,.slice A0_5 x.f5.length c0_5,.slice A0_6 x.f6.length c0_6] 26,row qA.k 104 (.slice (pb b11) ((x.f4.set (y).toNat (⟨(nth qA.z x.f4 y).f0,(nth qA.z x.f4 y).f1,(nth qA.z x.f4 y).f2,z.f4,(nth qA.z x.f4 y).f4,(nth qA.z x.f4 y).f5⟩:qA)).length) c0_4) (x.f4.set (y).toNat (⟨(nth qA.z x.f4 y).f0,(nth qA.z x.f4 y).f1,(nth qA.z x.f4 y).f2,z.f4,(nth qA.z x.f4 y).f4,(nth qA.z x.f4 y).f5⟩:qA)),box b4 #[iv z.f0,iv z.f1,iv z.f2,iv z.f3,iv z.f4,iv z.f5,.slice A2_6 z.f6.length c2_6] 40,box b2 #[iv x.f0,iv x.f1,iv x.f2,iv x.f3,.slice (pb b11) ((x.f4.set (y).toNat (⟨(nth qA.z x.f4 y).f0,(nth qA.z x.f4 y).f1,(nth qA.z x.f4 y).f2,z.f4,(nth qA.z x.f4 y).f4,(nth qA.z x.f4 y).f5⟩:qA)).length) c0_4,.slice A0_5 x.f5.length c0_5,.slice A0_6 x.f6.length c0_6] 26]:=by rw [← hn40]; exact S
 have hb6:=S.ba 0
 replace S:=S.pm [1] 4
 rw [hN]at S
 obtain rfl:=si H
 exact rtm E (.b hb6 ag26 sz26 (.t .nil)) ⟨_,rfl,_,_,_,_,_,_,_,rfl,S,g0_5,g0_6⟩
 refine sq fun K25 hK25=>pl0 (plc E (.bn 0 0 7 (S.ba 2) .nil) (fun a E=>pls E S [iv x.f0,iv x.f1,iv x.f2,iv x.f3,.slice (pb b11) x.f4.length c0_4,.slice A0_5 x.f5.length c0_5,.slice A0_6 x.f6.length c0_6] fun u26 hb6 S a E=>plc E (.r 2 1 .nil) (fun a E=>pld (hK25 _ _ (wp_ret (qCA (qCB (qCA ?_))))))))
 replace S:=S.pm [] 3
 rw [hN]at S
 obtain rfl:=si H
 exact rtm E (.b hb6 ag26 sz26 (.t .nil)) ⟨_,rfl,_,_,_,_,_,_,_,rfl,S,g0_5,g0_6⟩
 refine sq fun K41 hK41=>?_
 have J48:∀ kq46,kq46≤k→∀(G:NV)(y44:Bool)(a:Act)(w':World),Env 98 G a→At G [(1,iv y),(3,.pointer (pb b2)),(5,.pointer (pb b4)),(6,.pointer (pb b6)),(8,.pointer (some ((⟨b11,0,none⟩:Addr).add (y.toNat * 6)))),(15,iv z.f0),(37,.bool y44)]→St W N F w' F [box b6 #[iv 0,iv 0,iv 0,iv 0,.slice none 0 0,.slice none 0 0,.slice none 0 0] 26,box b4 #[iv z.f0,iv z.f1,iv z.f2,iv z.f3,iv z.f4,iv z.f5,.slice A2_6 z.f6.length c2_6] 40,box b2 #[iv x.f0,iv x.f1,iv x.f2,iv x.f3,.slice (pb b11) x.f4.length c0_4,.slice A0_5 x.f5.length c0_5,.slice A0_6 x.f6.length c0_6] 26,row qA.k 104 (.slice (pb b11) x.f4.length c0_4) x.f4]→qAb.j45 kq46 x y z y44=some r→K41 a w':=by
  intro kq46 hkq G y44 a u49 E A S H
  obtain _ | k47:=kq46
  exact zz H
  rw [qAb.j45_s]at H
  obtain ⟨J,E⟩:=E.at A
  refine hK41 _ _ (E.ib 37 H (fun c50 E H=>?_) fun c50 E H=>?_)
  refine sq fun K51 hK51=>?_
  refine drawn 10 ⟨[7,8],[7],fun q=>q=b11⟩ mixed rfl (by kernel_rfl) (fun hst=>?_)
  replace S:=S.drew
  have ne52:¬ (b2=b11):=by intro h; exact S.ne_row (i:=2) (j:=3) rfl rfl (by decide) h
  have hb2:=S.ba 2
  have hb4:=S.ba 1
  refine mny 3 hst E (.bnX 0 0 7 hb2 ne52<|.r 1 4<|.b 5 0 hb4<|.r 6 1<|.nil) (fun a E=>?_)
  replace S:=S.front 3 rfl
  obtain ⟨cs53,rfl,hc54⟩:=qCF (S.row_at (i:=0) rfl) qA.z y c9.1 c9.2
  rcases sp H with ⟨c56,H⟩ | ⟨c56,H⟩
  refine on1 7 E (.cl en180 (qBx.same (z.f0 == 3) _ _ (hc54 4 _ rfl) c56)) ?_
  rintro _ _ a ⟨rfl,rfl⟩ E
  refine ⟨.of (Agr.refl _),?_⟩
  replace S:=S.front 1 rfl
  refine on1 8 E (.sto S [iv x.f0,iv x.f1,iv x.f2,iv x.f3,.slice (pb b11) x.f4.length c0_4,.slice A0_5 x.f5.length c0_5,.slice A0_6 x.f6.length c0_6]) ?_
  rintro _ u57 a ⟨rfl,hb6,S,hz⟩ E
  refine ⟨.d,?_⟩
  refine mny 0 hst E (.r 9 1 .nil) (fun a E=>?_)
  refine dn ?_
  refine hK51 _ _ (wp_ret (qCB (qCA ?_)))
  replace S:=S.pm [1] 4
  rw [hN]at S
  obtain rfl:=si H
  exact rtm E (.b hb6 ag26 sz26 (.t .nil)) ⟨_,rfl,_,_,_,_,_,_,_,rfl,S,g0_5,g0_6⟩
  refine on1 7 E (.cl en180 (qBx.turn (n:=x.f4.length) (i:=y) S (⟨(nth qA.z x.f4 y).f0,(nth qA.z x.f4 y).f1,(nth qA.z x.f4 y).f2,(nth qA.z x.f4 y).f3,(z.f0 == 3),(nth qA.z x.f4 y).f5⟩:qA) 4 c9 [iv ((nth qA.z x.f4 y).f0),iv ((nth qA.z x.f4 y).f1),iv ((nth qA.z x.f4 y).f2),iv ((nth qA.z x.f4 y).f3),.bool ((nth qA.z x.f4 y).f4),.bool ((nth qA.z x.f4 y).f5)] hc54 ((nth qA.z x.f4 y).f4) (z.f0 == 3) [iv ((nth qA.z x.f4 y).f0),iv ((nth qA.z x.f4 y).f1),iv ((nth qA.z x.f4 y).f2),iv ((nth qA.z x.f4 y).f3),.bool (z.f0 == 3),.bool ((nth qA.z x.f4 y).f5)] rfl rfl c56)) ?_
  rintro _ u55 a ⟨rfl,S,hX⟩ E
  refine ⟨.c hX,?_⟩
  replace S:=S.front 1 rfl
  refine on1 8 E (.sto S [iv x.f0,iv x.f1,iv x.f2,iv x.f3,.slice (pb b11) x.f4.length c0_4,.slice A0_5 x.f5.length c0_5,.slice A0_6 x.f6.length c0_6]) ?_
  rintro _ u58 a ⟨rfl,hb6,S,hz⟩ E
  refine ⟨.d,?_⟩
  refine mny 0 hst E (.r 9 1 .nil) (fun a E=>?_)
  refine dn ?_
  refine hK51 _ _ (wp_ret (qCB (qCA ?_)))
  have hn59:=(qCE (S.row_at (i:=1) rfl)).1
  replace S:St W N F u58 F [box b6 #[iv x.f0,iv x.f1,iv x.f2,iv x.f3,.slice (pb b11) ((x.f4.set (y).toNat (⟨(nth qA.z x.f4 y).f0,(nth qA.z x.f4 y).f1,(nth qA.z x.f4 y).f2,(nth qA.z x.f4 y).f3,(z.f0 == 3),(nth qA.z x.f4 y).f5⟩:qA)).length) c0_4,.slice A0_5 x.f5.length c0_5,.slice A0_6 x.f6.length c0_6] 26,row qA.k 104 (.slice (pb b11) ((x.f4.set (y).toNat (⟨(nth qA.z x.f4 y).f0,(nth qA.z x.f4 y).f1,(nth qA.z x.f4 y).f2,(nth qA.z x.f4 y).f3,(z.f0 == 3),(nth qA.z x.f4 y).f5⟩:qA)).length) c0_4) (x.f4.set (y).toNat (⟨(nth qA.z x.f4 y).f0,(nth qA.z x.f4 y).f1,(nth qA.z x.f4 y).f2,(nth qA.z x.f4 y).f3,(z.f0 == 3),(nth qA.z x.f4 y).f5⟩:qA)),box b4 #[iv z.f0,iv z.f1,iv z.f2,iv z.f3,iv z.f4,iv z.f5,.slice A2_6 z.f6.length c2_6] 40,box b2 #[iv x.f0,iv x.f1,iv x.f2,iv x.f3,.slice (pb b11) ((x.f4.set (y).toNat (⟨(nth qA.z x.f4 y).f0,(nth qA.z x.f4 y).f1,(nth qA.z x.f4 y).f2,(nth qA.z x.f4 y).f3,(z.f0 == 3),(nth qA.z x.f4 y).f5⟩:qA)).length) c0_4,.slice A0_5 x.f5.length c0_5,.slice A0_6 x.f6.length c0_6] 26]:=by rw [← hn59]; exact S
  have hb6:=S.ba 0
  replace S:=S.pm [1] 4
  rw [hN]at S
  obtain rfl:=si H
  exact rtm E (.b hb6 ag26 sz26 (.t .nil)) ⟨_,rfl,_,_,_,_,_,_,_,rfl,S,g0_5,g0_6⟩
  refine sq fun K60 hK60=>?_
  have J67:∀ kq65,kq65≤k47→∀(G:NV)(y63:Bool)(a:Act)(w':World),Env 98 G a→At G [(1,iv y),(3,.pointer (pb b2)),(5,.pointer (pb b4)),(6,.pointer (pb b6)),(8,.pointer (some ((⟨b11,0,none⟩:Addr).add (y.toNat * 6)))),(48,.bool y63)]→St W N F w' F [box b6 #[iv 0,iv 0,iv 0,iv 0,.slice none 0 0,.slice none 0 0,.slice none 0 0] 26,box b4 #[iv z.f0,iv z.f1,iv z.f2,iv z.f3,iv z.f4,iv z.f5,.slice A2_6 z.f6.length c2_6] 40,box b2 #[iv x.f0,iv x.f1,iv x.f2,iv x.f3,.slice (pb b11) x.f4.length c0_4,.slice A0_5 x.f5.length c0_5,.slice A0_6 x.f6.length c0_6] 26,row qA.k 104 (.slice (pb b11) x.f4.length c0_4) x.f4]→qAb.j64 kq65 x y z y63=some r→K60 a w':=by
   intro kq65 hkq G y63 a u68 E A S H
   obtain _ | k66:=kq65
   exact zz H
   rw [qAb.j64_s]at H
   obtain ⟨J,E⟩:=E.at A
   refine hK60 _ _ (E.ib 48 H (fun c69 E H=>?_) fun c69 E H=>?_)
   refine sq fun K70 hK70=>?_
   refine drawn 10 ⟨[7,8],[7],fun q=>q=b11⟩ mixed rfl (by kernel_rfl) (fun hst=>?_)
   replace S:=S.drew
   have ne71:¬ (b2=b11):=by intro h; exact S.ne_row (i:=2) (j:=3) rfl rfl (by decide) h
   have hb2:=S.ba 2
   have hb4:=S.ba 1
   refine mny 3 hst E (.bnX 0 0 7 hb2 ne71<|.r 1 4<|.b 5 0 hb4<|.r 6 1<|.nil) (fun a E=>?_)
   replace S:=S.front 3 rfl
   obtain ⟨cs72,rfl,hc73⟩:=qCF (S.row_at (i:=0) rfl) qA.z y c9.1 c9.2
   rcases sp H with ⟨c75,H⟩ | ⟨c75,H⟩
   refine on1 7 E (.cl en180 (qBx.same (z.f0 == 6) _ _ (hc73 5 _ rfl) c75)) ?_
   rintro _ _ a ⟨rfl,rfl⟩ E
   refine ⟨.of (Agr.refl _),?_⟩
   replace S:=S.front 1 rfl
   refine on1 8 E (.sto S [iv x.f0,iv x.f1,iv x.f2,iv x.f3,.slice (pb b11) x.f4.length c0_4,.slice A0_5 x.f5.length c0_5,.slice A0_6 x.f6.length c0_6]) ?_
   rintro _ u76 a ⟨rfl,hb6,S,hz⟩ E
   refine ⟨.d,?_⟩
   refine mny 0 hst E (.r 9 1 .nil) (fun a E=>?_)
   refine dn ?_
   refine hK70 _ _ (wp_ret (qCB (qCA ?_)))
   replace S:=S.pm [1] 4
   rw [hN]at S
   obtain rfl:=si H
   exact rtm E (.b hb6 ag26 sz26 (.t .nil)) ⟨_,rfl,_,_,_,_,_,_,_,rfl,S,g0_5,g0_6⟩
   refine on1 7 E (.cl en180 (qBx.turn (n:=x.f4.length) (i:=y) S (⟨(nth qA.z x.f4 y).f0,(nth qA.z x.f4 y).f1,(nth qA.z x.f4 y).f2,(nth qA.z x.f4 y).f3,(nth qA.z x.f4 y).f4,(z.f0 == 6)⟩:qA) 5 c9 [iv ((nth qA.z x.f4 y).f0),iv ((nth qA.z x.f4 y).f1),iv ((nth qA.z x.f4 y).f2),iv ((nth qA.z x.f4 y).f3),.bool ((nth qA.z x.f4 y).f4),.bool ((nth qA.z x.f4 y).f5)] hc73 ((nth qA.z x.f4 y).f5) (z.f0 == 6) [iv ((nth qA.z x.f4 y).f0),iv ((nth qA.z x.f4 y).f1),iv ((nth qA.z x.f4 y).f2),iv ((nth qA.z x.f4 y).f3),.bool ((nth qA.z x.f4 y).f4),.bool (z.f0 == 6)] rfl rfl c75)) ?_
   rintro _ u74 a ⟨rfl,S,hX⟩ E
   refine ⟨.c hX,?_⟩
   replace S:=S.front 1 rfl
   refine on1 8 E (.sto S [iv x.f0,iv x.f1,iv x.f2,iv x.f3,.slice (pb b11) x.f4.length c0_4,.slice A0_5 x.f5.length c0_5,.slice A0_6 x.f6.length c0_6]) ?_
   rintro _ u77 a ⟨rfl,hb6,S,hz⟩ E
   refine ⟨.d,?_⟩
   refine mny 0 hst E (.r 9 1 .nil) (fun a E=>?_)
   refine dn ?_
   refine hK70 _ _ (wp_ret (qCB (qCA ?_)))
   have hn78:=(qCE (S.row_at (i:=1) rfl)).1
   replace S:St W N F u77 F [box b6 #[iv x.f0,iv x.f1,iv x.f2,iv x.f3,.slice (pb b11) ((x.f4.set (y).toNat (⟨(nth qA.z x.f4 y).f0,(nth qA.z x.f4 y).f1,(nth qA.z x.f4 y).f2,(nth qA.z x.f4 y).f3,(nth qA.z x.f4 y).f4,(z.f0 == 6)⟩:qA)).length) c0_4,.slice A0_5 x.f5.length c0_5,.slice A0_6 x.f6.length c0_6] 26,row qA.k 104 (.slice (pb b11) ((x.f4.set (y).toNat (⟨(nth qA.z x.f4 y).f0,(nth qA.z x.f4 y).f1,(nth qA.z x.f4 y).f2,(nth qA.z x.f4 y).f3,(nth qA.z x.f4 y).f4,(z.f0 == 6)⟩:qA)).length) c0_4) (x.f4.set (y).toNat (⟨(nth qA.z x.f4 y).f0,(nth qA.z x.f4 y).f1,(nth qA.z x.f4 y).f2,(nth qA.z x.f4 y).f3,(nth qA.z x.f4 y).f4,(z.f0 == 6)⟩:qA)),box b4 #[iv z.f0,iv z.f1,iv z.f2,iv z.f3,iv z.f4,iv z.f5,.slice A2_6 z.f6.length c2_6] 40,box b2 #[iv x.f0,iv x.f1,iv x.f2,iv x.f3,.slice (pb b11) ((x.f4.set (y).toNat (⟨(nth qA.z x.f4 y).f0,(nth qA.z x.f4 y).f1,(nth qA.z x.f4 y).f2,(nth qA.z x.f4 y).f3,(nth qA.z x.f4 y).f4,(z.f0 == 6)⟩:qA)).length) c0_4,.slice A0_5 x.f5.length c0_5,.slice A0_6 x.f6.length c0_6] 26]:=by rw [← hn78]; exact S
   have hb6:=S.ba 0
   replace S:=S.pm [1] 4
   rw [hN]at S
   obtain rfl:=si H
   exact rtm E (.b hb6 ag26 sz26 (.t .nil)) ⟨_,rfl,_,_,_,_,_,_,_,rfl,S,g0_5,g0_6⟩
   refine wp_skip ?_
   refine qCC ?_
   refine hK15 _ _ (sq fun K79 hK79=>pl0 ?_)
   have hb2:=S.ba 2
   refine plc E (.r 0 1<|.b 1 5 hb2<|.r 2 1<|.nil) (fun a E=>?_)
   obtain ⟨t81,h82,H⟩:=bd H
   refine plq E S en181 (qr.calls k66 x.f5 z _ _ _ _ _ _ _ _ (Sub.refl _) (g0_5.mono S.own.sub) (g2_6.mono S.own.sub) (S.ba 1) h82) fun u80 S a E=>plc E (.r 4 1 .nil) (fun a E=>pld (hK79 _ _ (sq fun K83 hK83=>sq fun K84 hK84=>?_)))
   have J106:∀ kq104,kq104≤k66→∀(G:NV)(y102:Bool)(a:Act)(w':World),Env 98 G a→At G [(1,iv y),(3,.pointer (pb b2)),(6,.pointer (pb b6)),(88,.bool y102)]→St W N F w' F [box b6 #[iv 0,iv 0,iv 0,iv 0,.slice none 0 0,.slice none 0 0,.slice none 0 0] 26,box b4 #[iv z.f0,iv z.f1,iv z.f2,iv z.f3,iv z.f4,iv z.f5,.slice A2_6 z.f6.length c2_6] 40,box b2 #[iv x.f0,iv x.f1,iv x.f2,iv x.f3,.slice (pb b11) x.f4.length c0_4,.slice A0_5 x.f5.length c0_5,.slice A0_6 x.f6.length c0_6] 26,row qA.k 104 (.slice (pb b11) x.f4.length c0_4) x.f4]→qAb.j103 kq104 x y y102=some r→K84 a w':=by
    intro kq104 hkq G y102 a u107 E A S H
    obtain _ | k105:=kq104
    exact zz H
    rw [qAb.j103_s]at H
    obtain ⟨J,E⟩:=E.at A
    refine hK84 _ _ (E.ib 88 H (fun c108 E H=>?_) fun c108 E H=>?_)
    refine sq fun K109 hK109=>pl0 (plc E (.bn 0 0 7 (S.ba 2) .nil) (fun a E=>pls E S [iv x.f0,iv x.f1,iv x.f2,iv x.f3,.slice (pb b11) x.f4.length c0_4,.slice A0_5 x.f5.length c0_5,.slice A0_6 x.f6.length c0_6] fun u110 hb6 S a E=>plc E (.r 2 1 .nil) (fun a E=>pld (hK109 _ _ (wp_ret (qCA ?_))))))
    replace S:=S.pm [] 3
    rw [hN]at S
    obtain rfl:=si H
    exact rtm E (.b hb6 ag26 sz26 (.t .nil)) ⟨_,rfl,_,_,_,_,_,_,_,rfl,S,g0_5,g0_6⟩
    refine wp_skip (hK83 _ _ (sq fun K111 hK111=>pl0 (plc E (.r 0 1<|.b 1 4 (S.ba 2)<|.r 2 3<|.nil) (fun a E=>?_))))
    replace S:=S.front 3 rfl
    obtain ⟨t113,h114,H⟩:=bd H
    refine ple E (.cl en184 (qAV.calls x.f4 y (w64 (y+1)) _ _ _ _ _ (Own.left (X:=[row qA.k 104 (.slice (pb b11) x.f4.length c0_4) x.f4]) S.own) h114)) ?_
    rintro _ u112 a ⟨F115,A116,c117,rfl,hC⟩ E
    have hs:=hC.sub
    replace S:=S.called (X:=[row qA.k 104 (.slice (pb b11) x.f4.length c0_4) x.f4]) hC
    replace g2_6:=g2_6.mono hs
    replace g0_5:=g0_5.mono hs
    replace g0_6:=g0_6.mono hs
    refine plc E (.r 6 1 .nil) (fun a E=>?_)
    replace S:=S.front 3 rfl
    refine pls E S [iv x.f0,iv x.f1,iv x.f2,iv x.f3,.slice A116 t113.length c117,.slice A0_5 x.f5.length c0_5,.slice A0_6 x.f6.length c0_6] fun u120 hb2 S a E=>pld (hK111 _ _ (sq fun K121 hK121=>pl0 (plc E (.bn 0 0 7 hb2 .nil) (fun a E=>?_))))
    replace S:=S.front 2 rfl
    refine pls E S [iv x.f0,iv x.f1,iv x.f2,iv x.f3,.slice A116 t113.length c117,.slice A0_5 x.f5.length c0_5,.slice A0_6 x.f6.length c0_6] fun u122 hb6 S a E=>plc E (.r 2 1 .nil) (fun a E=>pld (hK121 _ _ (wp_ret ?_)))
    replace S:=S.pm [2] 4
    rw [hN]at S
    obtain rfl:=si H
    exact rtm E (.b hb6 ag26 sz26 (.t .nil)) ⟨_,rfl,_,_,_,_,_,_,_,rfl,S,g0_5,g0_6⟩
   refine pl0 ?_
   obtain ⟨cs85,rfl,hc86⟩:=qCF (S.row_at (i:=3) rfl) qA.z y c9.1 c9.2
   refine plc E (.r 0 3<|.c 3 (hc86 4 _ rfl)<|.r 4 1<|.nil) (fun a E=>E.fb 67 H (fun c87 E H=>?_) fun c87 E H=>?_)
   refine plc E (.r 5 21 .nil) (fun a E=>pld ?_)
   exact J106 _ (by omega) _ true _ _ E .of S H
   obtain ⟨cs88,rfl,hc89⟩:=qCF (S.row_at (i:=3) rfl) qA.z y c9.1 c9.2
   refine plc E (.r 5 3<|.c 8 (hc89 5 _ rfl)<|.r 9 1<|.nil) (fun a E=>E.fb 72 H (fun c90 E H=>?_) fun c90 E H=>?_)
   obtain ⟨cs91,rfl,hc92⟩:=qCF (S.row_at (i:=3) rfl) qA.z y c9.1 c9.2
   refine plc E (.r 10 3<|.c 13 (hc92 3 _ rfl)<|.r 14 4<|.nil) (fun a E=>E.fk 80 H (fun c93 E H=>?_) fun c93 E H=>?_)
   refine plc E (.r 18 8 .nil) (fun a E=>pld ?_)
   exact J106 _ (by omega) _ true _ _ E .of S H
   refine plc E (.r 18 3 .nil) (fun a E=>E.fb 83 H (fun c94 E H=>?_) fun c94 E H=>?_)
   refine plc E (.r 21 5 .nil) (fun a E=>pld ?_)
   exact J106 _ (by omega) _ true _ _ E .of S H
   refine plc E (.bn 21 0 7 (S.ba 2)<|.r 22 1<|.b 23 1 (S.ba 1)<|.nil) (fun a E=>?_)
   obtain ⟨t96,h97,H⟩:=bd H
   refine plq E S en183 (qBT.calls k66 x z.f1 _ _ _ _ _ _ _ _ _ (Sub.refl _) (S.rd_at (i:=3) rfl) (g0_5.mono S.own.sub) (g0_6.mono S.own.sub) h97) fun u95 S a E=>plc E (.r 25 1 .nil) (fun a E=>pld ?_)
   exact J106 _ (by omega) _ t96 _ _ E .of S H
   refine plc E (.r 10 11 .nil) (fun a E=>E.fb 83 H (fun c98 E H=>?_) fun c98 E H=>?_)
   refine plc E (.r 21 5 .nil) (fun a E=>pld ?_)
   exact J106 _ (by omega) _ true _ _ E .of S H
   refine plc E (.bn 21 0 7 (S.ba 2)<|.r 22 1<|.b 23 1 (S.ba 1)<|.nil) (fun a E=>?_)
   obtain ⟨t100,h101,H⟩:=bd H
   refine plq E S en183 (qBT.calls k66 x z.f1 _ _ _ _ _ _ _ _ _ (Sub.refl _) (S.rd_at (i:=3) rfl) (g0_5.mono S.own.sub) (g0_6.mono S.own.sub) h101) fun u99 S a E=>plc E (.r 25 1 .nil) (fun a E=>pld ?_)
   exact J106 _ (by omega) _ t100 _ _ E .of S H
  refine rr E fun a E=>(E.ik 48 H (fun c62 E H=>?_) fun c62 E H=>?_)
  refine wp_skip ?_
  exact J67 _ (by omega) _ true _ _ E .of S H
  refine pl0 (plc E (.r 0 2 .nil) (fun a E=>pld ?_))
  exact J67 _ (by omega) _ (z.f0 == 6) _ _ E .of S H
 refine rr E fun a E=>(E.ik 37 H (fun c43 E H=>?_) fun c43 E H=>?_)
 refine wp_skip ?_
 exact J48 _ (by omega) _ true _ _ E .of S H
 refine pl0 (plc E (.r 0 2 .nil) (fun a E=>pld ?_))
 exact J48 _ (by omega) _ (z.f0 == 4) _ _ E .of S H
def qBW.f(k:Nat)(x:qG)(y:qd):Option (qG × Int):=if y.f0=1 then ((qBt.f k x y).bind fun t18=>(some (t18.1,t18.2))) else (if y.f0=8 then ((qAc.f k x y).bind fun t42=>(some (t42.1,t42.2))) else (if y.f0=9 then (some (x,0)) else (if y.f0=10 then ((qBn.f x y).bind fun t76=>(some (t76.1,t76.2))) else ((qBu.f k x y.f1).bind fun t94=>(if t94.2=true then ((qAb.f k x t94.1 y).bind fun t113=>(some (t113.1,t113.2))) else (some (x,5)))))))
def qBW.Post(x:qG)(y:qd)(A0_4:OA)(c0_4:Nat)(A0_5:OA)(c0_5:Nat)(A0_6:OA)(c0_6:Nat)(A1_6:OA)(c1_6:Nat)(W F:World)(r:qG × Int)(v:Value)(w':World):Prop:=∃(F':World)(RA0_4:OA)(rc0_4:Nat)(RA0_5:OA)(rc0_5:Nat)(RA0_6:OA)(rc0_6:Nat),v = .tuple #[.agg #[iv r.1.f0,iv r.1.f1,iv r.1.f2,iv r.1.f3,.slice RA0_4 r.1.f4.length rc0_4,.slice RA0_5 r.1.f5.length rc0_5,.slice RA0_6 r.1.f6.length rc0_6],iv r.2]∧St W (mine W [row qA.k 104 (.slice A0_4 x.f4.length c0_4) x.f4,row qE.k 97 (.slice A0_5 x.f5.length c0_5) x.f5,row qC.k 49 (.slice A0_6 x.f6.length c0_6) x.f6]) F w' F' []∧Rd qA.k F' RA0_4 rc0_4 r.1.f4∧Rd qE.k F' RA0_5 rc0_5 r.1.f5∧Rd qC.k F' RA0_6 rc0_6 r.1.f6
theorem qBW.calls(k:Nat)(x:qG)(y:qd)(A0_4:OA)(c0_4:Nat)(A0_5:OA)(c0_5:Nat)(A0_6:OA)(c0_6:Nat)(A1_6:OA)(c1_6:Nat)(r:qG × Int)(W F:World)(hown:Own W F [row qA.k 104 (.slice A0_4 x.f4.length c0_4) x.f4,row qE.k 97 (.slice A0_5 x.f5.length c0_5) x.f5,row qC.k 49 (.slice A0_6 x.f6.length c0_6) x.f6])(g1_6:Rd ki F A1_6 c1_6 y.f6)(H:qBW.f k x y=some r):
    Cr 78 #[.agg #[iv x.f0,iv x.f1,iv x.f2,iv x.f3,.slice A0_4 x.f4.length c0_4,.slice A0_5 x.f5.length c0_5,.slice A0_6 x.f6.length c0_6],.agg #[iv y.f0,iv y.f1,iv y.f2,iv y.f3,iv y.f4,iv y.f5,.slice A1_6 y.f6.length c1_6]] W (qBW.Post x y A0_4 c0_4 A0_5 c0_5 A0_6 c0_6 A1_6 c1_6 W F r):=by
 have S:=St.start hown
 obtain ⟨N,hN⟩:∃ N,N=mine W [row qA.k 104 (.slice A0_4 x.f4.length c0_4) x.f4,row qE.k 97 (.slice A0_5 x.f5.length c0_5) x.f5,row qC.k 49 (.slice A0_6 x.f6.length c0_6) x.f6]:=⟨_,rfl⟩
 rw [← hN]at S
 unfold qBW.f at H
 refine ent 50 rfl rfl rfl (fun a E=>?_)
 refine sq fun K1 hK1=>pl0 (plx (t:=26) E S [iv x.f0,iv x.f1,iv x.f2,iv x.f3,.slice A0_4 x.f4.length c0_4,.slice A0_5 x.f5.length c0_5,.slice A0_6 x.f6.length c0_6] fun b2 u3 hb2 S a E=>plx (t:=40) E S [iv y.f0,iv y.f1,iv y.f2,iv y.f3,iv y.f4,iv y.f5,.slice A1_6 y.f6.length c1_6] fun b4 u5 hb4 S a E=>pla (t:=26) E S [iv 0,iv 0,iv 0,iv 0,.slice none 0 0,.slice none 0 0,.slice none 0 0] fun b6 u7 hb6 S a E=>plc E (.r 3 1 .nil) (fun a E=>pld (hK1 _ _ (sq fun K8 hK8=>sq fun K9 hK9=>pl0 ?_))))
 have hb4:=S.ba 1
 refine plc E (.r 0 1<|.b 1 0 hb4<|.nil) (fun a E=>pld (hK9 _ _ (wp_block (rr E fun a E=>(E.ik 10 H (fun c11 E H=>?_) fun c11 E H=>?_)))))
 refine sq fun K12 hK12=>pl0 (plc E (.bn 0 0 7 (S.ba 2)<|.bn 1 0 7 hb4<|.nil) (fun a E=>?_))
 replace S:=S.front 4 rfl
 obtain ⟨F13,hs,g14,S⟩:=S.give
 replace g1_6:=g1_6.mono hs
 replace S:=S.front 4 rfl
 obtain ⟨F15,hs,g16,S⟩:=S.give
 replace g14:=g14.mono hs
 replace g1_6:=g1_6.mono hs
 replace S:=S.front 3 rfl
 obtain ⟨t18,h19,H⟩:=bd H
 refine ple E (.cl en132 (qBt.calls k x y _ _ _ _ _ _ _ _ _ _ _ (Own.left (X:=[row qA.k 104 (.slice A0_4 x.f4.length c0_4) x.f4]) S.own) g14 g16 g1_6 h19)) ?_
 rintro _ u17 a ⟨F20,A21,c22,A25,c26,A28,c29,rfl,hC,g27,g30⟩ E
 have hs:=hC.sub
 replace S:=S.called (X:=[row qA.k 104 (.slice A0_4 x.f4.length c0_4) x.f4]) hC
 replace g14:=g14.mono hs
 replace g16:=g16.mono hs
 replace g1_6:=g1_6.mono hs
 refine plc E (.r 3 2 .nil) (fun a E=>?_)
 replace S:=S.front 1 rfl
 refine pls E S [iv t18.1.f0,iv t18.1.f1,iv t18.1.f2,iv t18.1.f3,.slice A21 t18.1.f4.length c22,.slice A25 t18.1.f5.length c26,.slice A28 t18.1.f6.length c29] fun u31 hb6 S a E=>plc E (.r 6 1 .nil) (fun a E=>pld (hK12 _ _ (wp_ret (qCB (qCA ?_)))))
 replace S:=S.front 1 rfl
 obtain ⟨F32,hs,g33,S⟩:=S.give
 replace g14:=g14.mono hs
 replace g16:=g16.mono hs
 replace g1_6:=g1_6.mono hs
 replace g27:=g27.mono hs
 replace g30:=g30.mono hs
 replace S:=S.pm [] 3
 rw [hN]at S
 obtain rfl:=si H
 exact rtm E (.b hb6 ag26 sz26 (.t .nil)) ⟨_,rfl,_,_,_,_,_,_,_,rfl,S,g33,g27,g30⟩
 refine rr E fun a E=>(E.ik 17 H (fun c35 E H=>?_) fun c35 E H=>?_)
 refine sq fun K36 hK36=>pl0 (plc E (.bn 0 0 7 (S.ba 2)<|.bn 1 0 7 hb4<|.nil) (fun a E=>?_))
 replace S:=S.front 3 rfl
 obtain ⟨F37,hs,g38,S⟩:=S.give
 replace g1_6:=g1_6.mono hs
 replace S:=S.front 4 rfl
 obtain ⟨F39,hs,g40,S⟩:=S.give
 replace g38:=g38.mono hs
 replace g1_6:=g1_6.mono hs
 replace S:=S.front 3 rfl
 obtain ⟨t42,h43,H⟩:=bd H
 refine ple E (.cl en133 (qAc.calls k x y _ _ _ _ _ _ _ _ _ _ _ (Own.left (X:=[row qE.k 97 (.slice A0_5 x.f5.length c0_5) x.f5]) S.own) g38 g40 g1_6 h43)) ?_
 rintro _ u41 a ⟨F44,A45,c46,A48,c49,A52,c53,rfl,hC,g47,g54⟩ E
 have hs:=hC.sub
 replace S:=S.called (X:=[row qE.k 97 (.slice A0_5 x.f5.length c0_5) x.f5]) hC
 replace g38:=g38.mono hs
 replace g40:=g40.mono hs
 replace g1_6:=g1_6.mono hs
 refine plc E (.r 3 2 .nil) (fun a E=>?_)
 replace S:=S.front 1 rfl
 refine pls E S [iv t42.1.f0,iv t42.1.f1,iv t42.1.f2,iv t42.1.f3,.slice A45 t42.1.f4.length c46,.slice A48 t42.1.f5.length c49,.slice A52 t42.1.f6.length c53] fun u55 hb6 S a E=>plc E (.r 6 1 .nil) (fun a E=>pld (hK36 _ _ (wp_ret (qCB (qCA ?_)))))
 replace S:=S.front 1 rfl
 obtain ⟨F56,hs,g57,S⟩:=S.give
 replace g38:=g38.mono hs
 replace g40:=g40.mono hs
 replace g1_6:=g1_6.mono hs
 replace g47:=g47.mono hs
 replace g54:=g54.mono hs
 replace S:=S.pm [] 3
 rw [hN]at S
 obtain rfl:=si H
 exact rtm E (.b hb6 ag26 sz26 (.t .nil)) ⟨_,rfl,_,_,_,_,_,_,_,rfl,S,g47,g57,g54⟩
 refine rr E fun a E=>(E.ik 24 H (fun c59 E H=>?_) fun c59 E H=>?_)
 refine sq fun K60 hK60=>pl0 (plc E (.bn 0 0 7 (S.ba 2) .nil) (fun a E=>pls E S [iv x.f0,iv x.f1,iv x.f2,iv x.f3,.slice A0_4 x.f4.length c0_4,.slice A0_5 x.f5.length c0_5,.slice A0_6 x.f6.length c0_6] fun u61 hb6 S a E=>plc E (.r 2 1 .nil) (fun a E=>pld (hK60 _ _ (wp_ret (qCB (qCA ?_)))))))
 replace S:=S.front 3 rfl
 obtain ⟨F62,hs,g63,S⟩:=S.give
 replace g1_6:=g1_6.mono hs
 replace S:=S.front 3 rfl
 obtain ⟨F64,hs,g65,S⟩:=S.give
 replace g63:=g63.mono hs
 replace g1_6:=g1_6.mono hs
 replace S:=S.front 3 rfl
 obtain ⟨F66,hs,g67,S⟩:=S.give
 replace g63:=g63.mono hs
 replace g65:=g65.mono hs
 replace g1_6:=g1_6.mono hs
 replace S:=S.pm [] 3
 rw [hN]at S
 obtain rfl:=si H
 exact rtm E (.b hb6 ag26 sz26 (.t .nil)) ⟨_,rfl,_,_,_,_,_,_,_,rfl,S,g63,g65,g67⟩
 refine rr E fun a E=>(E.ik 27 H (fun c69 E H=>?_) fun c69 E H=>?_)
 refine sq fun K70 hK70=>pl0 (plc E (.bn 0 0 7 (S.ba 2)<|.bn 1 0 7 hb4<|.nil) (fun a E=>?_))
 replace S:=S.front 3 rfl
 obtain ⟨F71,hs,g72,S⟩:=S.give
 replace g1_6:=g1_6.mono hs
 replace S:=S.front 3 rfl
 obtain ⟨F73,hs,g74,S⟩:=S.give
 replace g72:=g72.mono hs
 replace g1_6:=g1_6.mono hs
 replace S:=S.front 3 rfl
 obtain ⟨t76,h77,H⟩:=bd H
 refine ple E (.cl en134 (qBn.calls x y _ _ _ _ _ _ _ _ _ _ _ (Own.left (X:=[row qC.k 49 (.slice A0_6 x.f6.length c0_6) x.f6]) S.own) g72 g74 g1_6 h77)) ?_
 rintro _ u75 a ⟨F78,A79,c80,A82,c83,A85,c86,rfl,hC,g81,g84⟩ E
 have hs:=hC.sub
 replace S:=S.called (X:=[row qC.k 49 (.slice A0_6 x.f6.length c0_6) x.f6]) hC
 replace g72:=g72.mono hs
 replace g74:=g74.mono hs
 replace g1_6:=g1_6.mono hs
 refine plc E (.r 3 2 .nil) (fun a E=>?_)
 replace S:=S.front 1 rfl
 refine pls E S [iv t76.1.f0,iv t76.1.f1,iv t76.1.f2,iv t76.1.f3,.slice A79 t76.1.f4.length c80,.slice A82 t76.1.f5.length c83,.slice A85 t76.1.f6.length c86] fun u89 hb6 S a E=>plc E (.r 6 1 .nil) (fun a E=>pld (hK70 _ _ (wp_ret (qCB (qCA ?_)))))
 replace S:=S.front 1 rfl
 obtain ⟨F90,hs,g91,S⟩:=S.give
 replace g72:=g72.mono hs
 replace g74:=g74.mono hs
 replace g1_6:=g1_6.mono hs
 replace g81:=g81.mono hs
 replace g84:=g84.mono hs
 replace S:=S.pm [] 3
 rw [hN]at S
 obtain rfl:=si H
 exact rtm E (.b hb6 ag26 sz26 (.t .nil)) ⟨_,rfl,_,_,_,_,_,_,_,rfl,S,g81,g84,g91⟩
 refine wp_skip ?_
 refine qCC ?_
 refine hK8 _ _ (sq fun K92 hK92=>pl0 ?_)
 have hb2:=S.ba 2
 refine plc E (.bn 0 0 7 hb2<|.r 1 1<|.b 2 1 hb4<|.nil) (fun a E=>?_)
 obtain ⟨t94,h95,H⟩:=bd H
 refine plq E S en135 (qBu.calls k x y.f1 _ _ _ _ _ _ _ _ _ (Sub.refl _) (S.rd_at (i:=3) rfl) (S.rd_at (i:=4) rfl) (S.rd_at (i:=5) rfl) h95) fun u93 S a E=>plc E (.r 4 5 .nil) (fun a E=>pld (hK92 _ _ (sq fun K96 hK96=>rr E fun a E=>(E.ibn 42 H (fun c98 E H=>?_) fun c98 E H=>?_))))
 refine wp_skip (hK96 _ _ (sq fun K107 hK107=>pl0 (plc E (.bn 0 0 7 (S.ba 2)<|.r 1 1<|.bn 2 0 7 (S.ba 1)<|.nil) (fun a E=>?_))))
 replace S:=S.front 4 rfl
 obtain ⟨F108,hs,g109,S⟩:=S.give
 replace g1_6:=g1_6.mono hs
 replace S:=S.front 4 rfl
 obtain ⟨F110,hs,g111,S⟩:=S.give
 replace g109:=g109.mono hs
 replace g1_6:=g1_6.mono hs
 replace S:=S.front 3 rfl
 obtain ⟨t113,h114,H⟩:=bd H
 refine ple E (.cl en136 (qAb.calls k x t94.1 y _ _ _ _ _ _ _ _ _ _ _ (Own.left (X:=[row qA.k 104 (.slice A0_4 x.f4.length c0_4) x.f4]) S.own) g109 g111 g1_6 h114)) ?_
 rintro _ u112 a ⟨F115,A116,c117,A120,c121,A123,c124,rfl,hC,g122,g125⟩ E
 have hs:=hC.sub
 replace S:=S.called (X:=[row qA.k 104 (.slice A0_4 x.f4.length c0_4) x.f4]) hC
 replace g109:=g109.mono hs
 replace g111:=g111.mono hs
 replace g1_6:=g1_6.mono hs
 refine plc E (.r 4 2 .nil) (fun a E=>?_)
 replace S:=S.front 1 rfl
 refine pls E S [iv t113.1.f0,iv t113.1.f1,iv t113.1.f2,iv t113.1.f3,.slice A116 t113.1.f4.length c117,.slice A120 t113.1.f5.length c121,.slice A123 t113.1.f6.length c124] fun u126 hb6 S a E=>plc E (.r 7 1 .nil) (fun a E=>pld (hK107 _ _ (wp_ret ?_)))
 replace S:=S.front 1 rfl
 obtain ⟨F127,hs,g128,S⟩:=S.give
 replace g109:=g109.mono hs
 replace g111:=g111.mono hs
 replace g1_6:=g1_6.mono hs
 replace g122:=g122.mono hs
 replace g125:=g125.mono hs
 replace S:=S.pm [] 3
 rw [hN]at S
 obtain rfl:=si H
 exact rtm E (.b hb6 ag26 sz26 (.t .nil)) ⟨_,rfl,_,_,_,_,_,_,_,rfl,S,g128,g122,g125⟩
 refine sq fun K99 hK99=>pl0 (plc E (.bn 0 0 7 (S.ba 2) .nil) (fun a E=>pls E S [iv x.f0,iv x.f1,iv x.f2,iv x.f3,.slice A0_4 x.f4.length c0_4,.slice A0_5 x.f5.length c0_5,.slice A0_6 x.f6.length c0_6] fun u100 hb6 S a E=>plc E (.r 2 1 .nil) (fun a E=>pld (hK99 _ _ (wp_ret (qCA ?_))))))
 replace S:=S.front 3 rfl
 obtain ⟨F101,hs,g102,S⟩:=S.give
 replace g1_6:=g1_6.mono hs
 replace S:=S.front 3 rfl
 obtain ⟨F103,hs,g104,S⟩:=S.give
 replace g102:=g102.mono hs
 replace g1_6:=g1_6.mono hs
 replace S:=S.front 3 rfl
 obtain ⟨F105,hs,g106,S⟩:=S.give
 replace g102:=g102.mono hs
 replace g104:=g104.mono hs
 replace g1_6:=g1_6.mono hs
 replace S:=S.pm [] 3
 rw [hN]at S
 obtain rfl:=si H
 exact rtm E (.b hb6 ag26 sz26 (.t .nil)) ⟨_,rfl,_,_,_,_,_,_,_,rfl,S,g102,g104,g106⟩
theorem qGw:Et 186:=eo Tryz.func186
set_option maxHeartbeats 1000000 in
theorem qGB(F:Fence)(n:Nat)(h5:F.fn 138)(hro:F.round=none)(a:Option Addr)(len cap:Nat)(w:World):
  CallsIn F n Tryz.prog 138 #[.slice a len cap] w fun e w'=>e = .returned (.func (.func 186) #[] #[.pointer (some ⟨w.heap.size,0,none⟩)])∧w'=w.alloc (.cells #[.slice a len cap] 36):=by
 refine callsIn_of_wp Tryz.func138 rfl h5 ?_ hro
 simp only [Tryz.ntmps138,List.size_toArray,List.length_cons,List.length_nil,Nat.reduceAdd,Nat.reduceSub,Array.replicate_succ,Array.replicate_zero,List.push_toArray,List.append_toArray,List.nil_append,List.cons_append]
 gi_wp2
 go_ret
 exact ⟨rfl,rfl⟩
theorem qBr.calls(x0_:List Int)(A0_0:Option Addr)(c0_0:Nat)(W F:World)(hown:Sub F W):
  Calls Tryz.prog 138 #[.slice A0_0 x0_.length c0_0] W fun e w'=>∃ v,e = .returned v∧∃ p,v = .func (.func 186) #[] #[.pointer (some ⟨p,0,none⟩)]∧St W (mine W []) F w' F [box p #[.slice A0_0 x0_.length c0_0] 36]:=by
 refine (callsIn_wide.1 (qGB Fence.wide 1 trivial rfl A0_0 x0_.length c0_0 W)).mono ?_
 rintro e w' ⟨rfl,rfl⟩
 exact ⟨_,rfl,_,rfl,(sT hown).box _ _⟩
def upto{α : Type}(f:Nat→α)(k:Nat):List α:=(List.range k).map f
theorem qGC{α : Type}(f:Nat→α)(k:Nat):upto f (k+1)=upto f k++[f k]:=by simp [upto,List.range_succ]
theorem qEm{α : Type}(f:Nat→α)(k:Nat):(upto f k).length=k:=by simp [upto]
theorem qGx(zs:List Int):upto (fun j=>zs[j]?.getD 0) zs.length=zs:=by
 apply List.ext_getElem
 ·simp [upto]
 ·intro i h1 h2
  simp [upto,h2]
section
attribute [local go_sem] Oper.semAt_some
set_option maxRecDepth 100000 in
set_option maxHeartbeats 2000000 in
theorem qFV (F:Fence) (n:Nat) (h7:F.fn 186) (hro:F.round=none) (hn:1≤n) (l Bs n₀ b off cap:Nat) (zs:List Int) (hreach:zs.length * 8≤140737488351232) (hb:b<n₀) (J:List Int→World→Prop)
  (hY:∀ pre x W,J pre W→pre.length<zs.length→YieldAt F (n - 1) Tryz.prog l #[.int .i64 x] W fun e W'=>e = .returned (.bool true)∧J (pre++[x]) W'∧Below n₀ W W')
  (W:World) (hBs:W.cell? ⟨Bs,0,none⟩=some (.slice (some ⟨b,off,none⟩) zs.length cap)) (hc:∀ j,j<zs.length→W.cell? ⟨b,off+j,none⟩=some (.int .i64 (zs[j]?.getD 0))) (h0:J [] W) :
  CallsIn F n Tryz.prog 186 #[.func (.yield l) #[] #[],.pointer (some ⟨Bs,0,none⟩)] W fun e W'=>(∃ v,e = .returned v)∧J zs W':=by
 obtain ⟨len,hlen⟩:∃ len,Hid (zs.length=len):=⟨_,rfl⟩
 rw [hlen.out]at hreach hBs hc hY
 refine callsIn_of_wp Tryz.func186 rfl h7 ?_ hro
 simp only [Tryz.ntmps186,List.size_toArray,List.length_cons,List.length_nil,Nat.reduceAdd,Nat.reduceSub,Array.replicate_succ,Array.replicate_zero,List.push_toArray,List.append_toArray,List.nil_append,List.cons_append]
 gi_wp2
 gi_loopw [7] (fun i wr=>∃ k:Nat,k≤len∧i = .int .i64 k∧J (upto (fun j=>zs[j]?.getD 0) k) wr∧Below n₀ W wr)
  (fun i _=>len - (Sl.intOf' i).toNat)
 case atStart=>exact ⟨0,Nat.zero_le _,rfl,h0,Below.refl _ _⟩
 case round =>
  obtain ⟨k,hk,rfl,hJs,hnx⟩:=hrel
  have hcx:k<len→wr.cell? ⟨b,off+k,none⟩=some (.int .i64 (zs[k]?.getD 0)):=fun h=>(hnx.cell (p:=⟨b,off+k,none⟩) hb).trans (hc k h)
  by_cases hlt:k<len
  ·obtain ⟨fn,tmps,assign,body,hy,hR⟩:=hY _ (zs[k]?.getD 0) wr hJs (by rw [qEm]; exact hlt)
   have hcx':=hcx hlt
   gi_wp2
   refine hR.mono ?_
   rintro e W3 ⟨rfl,hJ3,hk3⟩
   gi_wp2
   go_roundw
   case rel=>exact ⟨k+1,by omega,by simp,by rw [qGC]; exact hJ3,hnx.trans hk3⟩
   case measure=>simp [Sl.intOf']; omega
  ·obtain rfl:k=len:=by omega
   gi_wp2
   go_end0
   refine ⟨⟨_,rfl⟩,?_⟩
   rw [← hlen.out,qGx]at hJs
   exact hJs
set_option maxRecDepth 100000 in
set_option maxHeartbeats 1000000 in
theorem qDc(F:Fence)(n:Nat)(h7:F.fn 186)(hro:F.round=none)(l Bs:Nat)(A:Option Addr)(cap:Nat)(J:List Int→World→Prop)(W:World)(hBs:W.cell? ⟨Bs,0,none⟩=some (.slice A 0 cap))(h0:J [] W):
  CallsIn F n Tryz.prog 186 #[.func (.yield l) #[] #[],.pointer (some ⟨Bs,0,none⟩)] W fun e W'=>(∃ v,e = .returned v)∧J [] W':=by
 refine callsIn_of_wp Tryz.func186 rfl h7 ?_ hro
 simp only [Tryz.ntmps186,List.size_toArray,List.length_cons,List.length_nil,Nat.reduceAdd,Nat.reduceSub,Array.replicate_succ,Array.replicate_zero,List.push_toArray,List.append_toArray,List.nil_append,List.cons_append]
 gi_wp2
 gi_loopw [7] (fun i wr=>i = .int .i64 0∧J [] wr) (fun _ _=>0)
 case atStart=>exact ⟨rfl,h0⟩
 case round =>
  obtain ⟨rfl,hJs⟩:=hrel
  gi_wp2
  go_end0
  exact ⟨⟨_,rfl⟩,hJs⟩
end
theorem qEP(n:Nat)(hn:1≤n){A:Option Addr}{c p:Nat}{xs:List Int}{F W:World}(hs:Sub F W)(hr:Rd (Kn.int .i64) F A c xs)(hp:F.heap[p]? = some (.cells #[.slice A xs.length c] 36 (0,0)))(hreach:xs.length * 8≤140737488351232):GivesD Fence.wide n Tryz.prog 186 #[.pointer (some ⟨p,0,none⟩)] xs W:=by
 intro l J W1 hW hY h0
 have hpW:=hs _ _ _ _ hp
 have hB:W.cell? ⟨p,0,none⟩=some (.slice A xs.length c):=by simp [World.cell?,hpW]
 have hB1:=(hW.cell (p:=⟨p,0,none⟩) (qCL hpW)).trans hB
 rcases Nat.eq_zero_or_pos xs.length with h | h
 ·obtain rfl:xs=[]:=List.eq_nil_of_length_eq_zero h
  exact qDc Fence.wide n trivial rfl l p A c J W1 hB1 h0
 ·obtain ⟨ad,rfl,hc⟩:=hr.2.2 h
  have hcell:∀ j (hj:j<xs.length),W.cell? (ad.add (j * 1+0))=some (.int .i64 xs[j]):=fun j hj=>by
   obtain ⟨cs,hK,hcs⟩:=hc j xs[j] (List.getElem?_eq_getElem hj)
   have e:cs=[.int .i64 xs[j]]:=hK
   exact hs.cell (hcs 0 _ (by rw [e]; rfl))
  have ha:=qDw (hcell 0 h)
  have e0:ad.add (0 * 1+0)=ad:=rfl
  rw [e0]at ha
  obtain ⟨b,off,s⟩:=ad
  obtain rfl:s=none:=congrArg Addr.spot ha.1
  refine qFV Fence.wide n trivial rfl hn l p W.heap.size b off c xs hreach ha.2 J hY W1 hB1 (fun j hj=>?_) h0
  have hj1:=hcell j hj
  have e1:(⟨b,off,none⟩:Addr).add (j * 1+0)=⟨b,off+j,none⟩:=by
   unfold Addr.add
   rw [Nat.mul_one,Nat.add_zero]
   split
   ·rename_i h; rw [h]; rfl
   ·rfl
  rw [e1]at hj1
  rw [(hW.cell (p:=⟨b,off+j,none⟩) ha.2).trans hj1,List.getElem?_eq_getElem hj]
  rfl
def qAG.f(x0c0_:List Int):Option (List Int):=if x0c0_.length≤1000000 then some x0c0_ else none
def qAG.Post(W F:World)(r:List Int)(v:Value)(w':World):Prop:=∃(F':World)(RA0_0:Option Addr)(rc0_0:Nat),v = .slice RA0_0 r.length rc0_0∧St W (mine W []) F w' F' [row (Kn.int .i64) 3 (.slice RA0_0 r.length rc0_0) r]
theorem qAG.calls(x0c0_:List Int)(p0c0_:Nat)(A0c0_0:Option Addr)(c0c0_0:Nat)(r:List Int)(W F:World)(hown:Sub F W)(g0c0_0:Rd (Kn.int .i64) F A0c0_0 c0c0_0 x0c0_)(hp0c0_:F.heap[p0c0_]? = some (.cells #[.slice A0c0_0 x0c0_.length c0c0_0] 36 (0,0)))(H:qAG.f x0c0_=some r):
  Calls Tryz.prog 185 #[.func (.func 186) #[] #[.pointer (some ⟨p0c0_,0,none⟩)]] W fun e w'=>∃ v,e = .returned v∧qAG.Post W F r v w':=by
 have hS:=sT hown
 unfold qAG.f at H
 split at H
 ·rename_i hmax
  injection H with H
  subst H
  refine (callsIn_wide.1 (collectD Tryz.collectI Fence.wide 5 trivial trivial rfl (by omega) 186 #[.pointer (some ⟨p0c0_,0,none⟩)] trivial qGw x0c0_ (Nat.le_trans hmax (by decide)) (by omega) W (qEP 3 (by omega) hown g0c0_0 hp0c0_ (by omega)))).mono ?_
  rintro e w' ⟨v,rfl,hr,hb,hd⟩
  have h1:=collected hS hr hb hd
  rcases hr.2 with ⟨rfl,h0⟩ | ⟨g,cap,cur,rfl,_⟩
  ·refine ⟨_,rfl,F,none,0,by rw [h0],?_⟩
   rw [h0]
   exact h1
  ·exact ⟨_,rfl,F,some ⟨g,0,none⟩,cap,rfl,h1⟩
 ·cases H
def qAh.f(x0_:List Int):Option (List Int):=sortI x0_
def qAh.Post(x0_:List Int)(A0_0:Option Addr)(c0_0:Nat)(W F:World)(r:List Int)(v:Value)(w':World):Prop:=∃(F':World),v = .tuple #[]∧St W (mine W [row ki 3 (.slice A0_0 x0_.length c0_0) x0_]) F w' F' [row ki 3 (.slice A0_0 x0_.length c0_0) r]
theorem qAh.calls(x0_:List Int)(A0_0:Option Addr)(c0_0:Nat)(r:List Int)(W F:World)(hown:Own W F [row ki 3 (.slice A0_0 x0_.length c0_0) x0_])(H:qAh.f x0_=some r):
  Calls Tryz.prog 110 #[.slice A0_0 x0_.length c0_0] W fun e w'=>∃ v,e = .returned v∧qAh.Post x0_ A0_0 c0_0 W F r v w':=qEk Tryz.sortI hown H
def qx.f(x0c0_:List Int):Option (List Int):=(qAG.f x0c0_).bind fun t4=>((qAh.f t4).bind fun t13=>(some t13))
def qx.Post(W F:World)(r:List Int)(v:Value)(w':World):Prop:=∃(F':World)(RA0_0:OA)(rc0_0:Nat),v = .slice RA0_0 r.length rc0_0∧Sm W F w' F' [row ki 3 (.slice RA0_0 r.length rc0_0) r]
theorem qx.calls(x0c0_:List Int)(p0c0_:Nat)(A0c0_0:OA)(c0c0_0:Nat)(r:List Int)(W F:World)(hown:Sub F W)(g0c0_0:Rd ki F A0c0_0 c0c0_0 x0c0_)(hp0c0_:F.heap[p0c0_]? = some (.cells #[.slice A0c0_0 x0c0_.length c0c0_0] 36 (0,0)))(H:qx.f x0c0_=some r):
    Cr 137 #[.func (.func 186) #[] #[.pointer (pb p0c0_)]] W (qx.Post W F r):=by
 have S:=sT hown
 unfold qx.f at H
 refine ent 9 rfl rfl rfl (fun a E=>?_)
 refine rr E fun a E=>(sq fun K2 hK2=>pl0 (plc E (.r 0 1 .nil) (fun a E=>?_)))
 obtain ⟨t4,h5,H⟩:=bd H
 refine ple E (.cl en185 (qAG.calls x0c0_ _ _ _ _ _ _ S.own.sub g0c0_0 hp0c0_ h5)) ?_
 rintro _ u3 a ⟨F6,A7,c8,rfl,hC⟩ E
 have hs:=hC.sub
 replace S:=S.called (X:=[]) hC
 replace g0c0_0:=g0c0_0.mono hs
 replace hp0c0_:=hs _ _ _ _ hp0c0_
 refine plc E (.r 2 1 .nil) (fun a E=>pld (hK2 _ _ (sq fun K11 hK11=>pl0 (plc E (.r 0 1 .nil) (fun a E=>?_)))))
 obtain ⟨t13,h14,H⟩:=bd H
 refine ple E (.cl en110 (qAh.calls t4 _ _ _ _ _ (Own.left (X:=[row ki 3 (.slice A7 t4.length c8) t4]) S.own) h14)) ?_
 rintro _ u12 a ⟨F15,rfl,hC⟩ E
 have hs:=hC.sub
 replace S:=S.called (X:=[row ki 3 (.slice A7 t4.length c8) t4]) hC
 replace g0c0_0:=g0c0_0.mono hs
 replace hp0c0_:=hs _ _ _ _ hp0c0_
 refine pld (hK11 _ _ (rr E fun a E=>(wp_ret ?_)))
 have hn17:=(qCE (S.row_at (i:=0) rfl)).1
 replace E:=E.set (d:=2) (v:=.slice A7 t13.length c8) (Eq.trans (b:=.slice A7 t4.length c8) (by kernel_rfl) (by rw [← hn17]))
 replace S:Sm W F u12 F15 [row ki 3 (.slice A7 t13.length c8) t13]:=by rw [← hn17]; exact S
 obtain rfl:=si H
 exact rt1 E ⟨_,rfl,_,_,_,rfl,S⟩
def qAv.f(k:Nat)(x:qF)(xf0_:qF):Option Bool:=(qt.f k x.f1 xf0_.f1).bind fun t6=>(some t6)
def qAv.Post(W F:World)(r:Bool)(v:Value)(w':World):Prop:=∃(F':World),v = .bool r∧Sm W F w' F' []
theorem qAv.calls(k:Nat)(x:qF)(xf0_:qF)(A0_1:OA)(c0_1:Nat)(pf0_:Nat)(Af0_1:OA)(cf0_1:Nat)(r:Bool)(W F:World)(hown:Sub F W)(g0_1:Rd ki F A0_1 c0_1 x.f1)(gf0_1:Rd ki F Af0_1 cf0_1 xf0_.f1)(hpf0_:F.heap[pf0_]? = some (.cells #[iv xf0_.f0,.slice Af0_1 xf0_.f1.length cf0_1] 51 (0,0)))(H:qAv.f k x xf0_=some r):
    Cr 140 #[.agg #[iv x.f0,.slice A0_1 x.f1.length c0_1],.pointer (pb pf0_)] W (qAv.Post W F r):=by
 have S:=sT hown
 unfold qAv.f at H
 refine ent 9 rfl rfl rfl (fun a E=>?_)
 refine sq fun K1 hK1=>pl0 (plx (t:=51) E S [iv x.f0,.slice A0_1 x.f1.length c0_1] fun b2 u3 hb2 S a E=>plc E (.r 1 1 .nil) (fun a E=>pld (hK1 _ _ (sq fun K4 hK4=>pl0 (plc E (.r 0 1<|.b 1 1 hb2<|.r 2 1<|.b 3 1 (S.own.sub _ _ _ _ hpf0_)<|.nil) (fun a E=>?_))))))
 obtain ⟨t6,h7,H⟩:=bd H
 refine plq E S en90 (qt.calls k x.f1 xf0_.f1 _ _ _ _ _ _ _ S.own.sub g0_1 gf0_1 h7) fun u5 S a E=>plc E (.r 5 1 .nil) (fun a E=>pld (hK4 _ _ (wp_ret ?_)))
 replace S:=S.tail
 obtain rfl:=si H
 exact rt1 E ⟨_,rfl,_,rfl,S⟩
def qa.l5:Nat→List qF→qF→Int→Option Int
 | 0,_,_,_=>none
 | k+1,x,x1c0_,x4=>if x4<(x.length:Int) then (if 0≤x4∧x4<(x.length:Int) then ((qAv.f k (nth qF.z x x4) x1c0_).bind fun t24=>(if t24=true then (some x4) else (qa.l5 k x x1c0_ (w64 (x4+1))))) else (none)) else (some (-1))
theorem qa.l5_s k x x1c0_ x4:type_of% (qa.l5.eq_2 x x1c0_ x4 k):=qa.l5.eq_2 x x1c0_ x4 k
def qa.f(k:Nat)(x:List qF)(x1c0_:qF):Option Int:=qa.l5 k x x1c0_ 0
def qa.Post(W F:World)(r:Int)(v:Value)(w':World):Prop:=∃(F':World),v=iv r∧Sm W F w' F' []
theorem qa.calls(k:Nat)(x:List qF)(x1c0_:qF)(A0_0:OA)(c0_0:Nat)(p1c0_:Nat)(A1c0_1:OA)(c1c0_1:Nat)(r:Int)(W F:World)(hown:Sub F W)(g0_0:Rd qF.k F A0_0 c0_0 x)(g1c0_1:Rd ki F A1c0_1 c1c0_1 x1c0_.f1)(hp1c0_:F.heap[p1c0_]? = some (.cells #[iv x1c0_.f0,.slice A1c0_1 x1c0_.f1.length c1c0_1] 51 (0,0)))(H:qa.f k x x1c0_=some r):
    Cr 163 #[.slice A0_0 x.length c0_0,.func (.func 140) #[] #[.pointer (pb p1c0_)]] W (qa.Post W F r):=by
 have S:=sT hown
 unfold qa.f at H
 refine ent 19 rfl rfl rfl (fun a E=>?_)
 refine rr E fun a E=>(sq fun K2 hK2=>rr E fun a E=>(wp_block ?_))
 refine wp_loop_ghost (fun kq6 a w'=>∃(G:NV)(x4:Int),kq6≤k∧Env 19 G a∧At G [(0,.slice A0_0 x.length c0_0),(1,.func (.func 140) #[] #[.pointer (pb p1c0_)]),(7,iv (x.length:Int)),(8,iv x4)]∧Sm W F w' F []∧qa.l5 kq6 x x1c0_ x4=some r) k ⟨_,0,Nat.le_refl _,E,.of,S,H⟩ ?_
 rintro kq6 a u8 ⟨G,x4,hkq,E,A,S,H⟩
 obtain _ | k7:=kq6
 exact zz H
 rw [qa.l5_s]at H
 obtain ⟨J,E⟩:=E.at A
 refine rr E fun a E=>(sq fun K10 hK10=>E.ik 9 H (fun c11 E H=>?_) fun c11 E H=>?_)
 refine wp_skip (hK10 _ _ (sq fun K12 hK12=>wp_block (rr E fun a E=>(sq fun K14 hK14=>pl0 ?_))))
 obtain ⟨c15,H⟩:=gd H
 have hE_:=E
 obtain ⟨ad16,rfl⟩:=g0_0.addr c15.1 c15.2
 replace E:=hE_
 obtain ⟨cs18,⟨A20,c21,rfl,g22⟩,hc19⟩:=g0_0.el qF.z x4 c15.1 c15.2
 refine plc E (.r 0 3<|.x 3 c15<|.cs 4 (S.fcs hc19)<|.nil) (fun a E=>?_)
 obtain ⟨t24,h25,H⟩:=bd H
 refine plq E S en140 (qAv.calls k7 (nth qF.z x x4) x1c0_ _ _ _ _ _ _ _ _ S.own.sub g22 g1c0_1 hp1c0_ h25) fun u23 S a E=>pld (hK14 _ _ (E.ib 16 H (fun c26 E H=>?_) fun c26 E H=>?_))
 refine rr E fun a E=>(wp_ret (qCB (qCA (qCA (qCB (qCA ?_))))))
 obtain rfl:=si H
 exact rt1 E ⟨_,rfl,_,rfl,S⟩
 refine wp_skip ?_
 refine qCC ?_
 refine hK12 _ _ (pl0 (plc E (.r 0 2 .nil) (fun a E=>pld ?_)))
 exact qCD ⟨k7,by omega,_,(w64 (x4+1)),by omega,E,.of,S,H⟩
 refine wp_exit ?_
 refine hK2 _ _ (rr E fun a E=>(wp_ret ?_))
 obtain rfl:=si H
 exact rt1 E ⟨_,rfl,_,rfl,S⟩
def qS.l15:Nat→List qF→qF→List qF→Int→Int→Option (List qF)
 | 0,_,_,_,_,_=>none
 | k+1,x,x1c0_,l12,x13,x14=>if x14<(x.length:Int) then (if 0≤x14∧x14<(x.length:Int) then ((qAv.f k (nth qF.z l12 x14) x1c0_).bind fun t39=>(if t39=true then (qS.l15 k x x1c0_ l12 x13 (w64 (x14+1))) else (if 0≤x13∧x13<(x.length:Int) then (qS.l15 k x x1c0_ (l12.set (x13).toNat (nth qF.z l12 x14)) (w64 (x13+1)) (w64 (x14+1))) else (none)))) else (none)) else (if 0≤x13∧x13≤(x.length:Int) then (some (cutl (l12.take (x13).toNat++List.replicate (x.length - (x13).toNat) qF.z) 0 x13)) else (none))
theorem qS.l15_s k x x1c0_ l12 x13 x14:type_of% (qS.l15.eq_2 x x1c0_ l12 x13 x14 k):=qS.l15.eq_2 x x1c0_ l12 x13 x14 k
def qS.f(k:Nat)(x:List qF)(x1c0_:qF):Option (List qF):=(qa.f k x x1c0_).bind fun t4=>(if t4=(-1) then (some x) else (qS.l15 k x x1c0_ x t4 (w64 (t4+1))))
def qS.Post(x:List qF)(x1c0_:qF)(A0_0:OA)(c0_0:Nat)(p1c0_:Nat)(A1c0_1:OA)(c1c0_1:Nat)(W F:World)(r:List qF)(v:Value)(w':World):Prop:=∃(F':World)(RA0_0:OA)(rc0_0:Nat),v = .slice RA0_0 r.length rc0_0∧St W (mine W [row qF.k 51 (.slice A0_0 x.length c0_0) x]) F w' F' [row qF.k 51 (.slice RA0_0 r.length rc0_0) r]
theorem qS.calls(k:Nat)(x:List qF)(x1c0_:qF)(A0_0:OA)(c0_0:Nat)(p1c0_:Nat)(A1c0_1:OA)(c1c0_1:Nat)(r:List qF)(W F:World)(hown:Own W F [row qF.k 51 (.slice A0_0 x.length c0_0) x])(g1c0_1:Rd ki F A1c0_1 c1c0_1 x1c0_.f1)(hp1c0_:F.heap[p1c0_]? = some (.cells #[iv x1c0_.f0,.slice A1c0_1 x1c0_.f1.length c1c0_1] 51 (0,0)))(H:qS.f k x x1c0_=some r):
    Cr 139 #[.slice A0_0 x.length c0_0,.func (.func 140) #[] #[.pointer (pb p1c0_)]] W (qS.Post x x1c0_ A0_0 c0_0 p1c0_ A1c0_1 c1c0_1 W F r):=by
 have S:=St.start hown
 obtain ⟨N,hN⟩:∃ N,N=mine W [row qF.k 51 (.slice A0_0 x.length c0_0) x]:=⟨_,rfl⟩
 rw [← hN]at S
 unfold qS.f at H
 refine ent 42 rfl rfl rfl (fun a E=>?_)
 refine rr E fun a E=>(sq fun K2 hK2=>pl0 (plc E (.r 0 2 .nil) (fun a E=>?_)))
 obtain ⟨t4,h5,H⟩:=bd H
 refine plq E S en163 (qa.calls k x x1c0_ _ _ _ _ _ _ _ _ (Sub.refl _) (S.rd_at (i:=0) rfl) (g1c0_1.mono S.own.sub) (S.own.sub _ _ _ _ hp1c0_) h5) fun u3 S a E=>plc E (.r 3 1 .nil) (fun a E=>pld (hK2 _ _ (sq fun K6 hK6=>rr E fun a E=>(E.ik 12 H (fun c8 E H=>?_) fun c8 E H=>?_))))
 refine rr E fun a E=>(wp_ret (qCA ?_))
 rw [hN]at S
 obtain rfl:=si H
 exact rt1 E ⟨_,rfl,_,_,_,rfl,S⟩
 refine wp_skip (hK6 _ _ (sq fun K10 hK10=>rr E fun a E=>(wp_block ?_)))
 refine wp_loop_ghost (fun kq16 a w'=>∃(G:NV)(l12:List qF)(x13:Int)(x14:Int),kq16≤k∧Env 42 G a∧At G [(0,.slice A0_0 x.length c0_0),(1,.func (.func 140) #[] #[.pointer (pb p1c0_)]),(5,iv x13),(6,iv x14)]∧St W N F w' F [row qF.k 51 (.slice A0_0 x.length c0_0) l12]∧qS.l15 kq16 x x1c0_ l12 x13 x14=some r) k ⟨_,x,t4,(w64 (t4+1)),Nat.le_refl _,E,.of,S,H⟩ ?_
 rintro kq16 a u18 ⟨G,l12,x13,x14,hkq,E,A,S,H⟩
 obtain _ | k17:=kq16
 exact zz H
 rw [qS.l15_s]at H
 obtain ⟨J,E⟩:=E.at A
 refine sq fun K19 hK19=>rr E fun a E=>(E.ik 19 H (fun c21 E H=>?_) fun c21 E H=>?_)
 refine wp_skip (hK19 _ _ (sq fun K22 hK22=>wp_block (sq fun K23 hK23=>pl0 ?_)))
 obtain ⟨c24,H⟩:=gd H
 have hr25:=S.ra 0
 have c26:0≤x14∧x14<(l12.length:Int):=by rw [← (qCE hr25).1]; exact c24
 have hE_:=E
 obtain ⟨b27,rfl⟩:=qCJ hr25 c26.1 c26.2
 replace E:=hE_
 have hr_:=S.ra 0
 obtain ⟨cs29,⟨A31,c32,rfl,g33⟩,hc30⟩:=qCF hr_ qF.z x14 c26.1 c26.2
 refine plc E (.r 0 2<|.x 2 c24<|.cs 3 hc30<|.nil) (fun a E=>pla (t:=51) E S [iv 0,.slice none 0 0] fun b34 u35 hb34 S a E=>pls E S [iv ((nth qF.z l12 x14).f0),.slice A31 (((nth qF.z l12 x14).f1).length) c32] fun u36 hb34 S a E=>pld (hK23 _ _ (sq fun K37 hK37=>pl0 (plc E (.r 0 1<|.bn 1 0 2 hb34<|.nil) (fun a E=>?_)))))
 obtain ⟨t39,h40,H⟩:=bd H
 refine plq E S en140 (qAv.calls k17 (nth qF.z l12 x14) x1c0_ _ _ _ _ _ _ _ _ S.own.sub g33 g1c0_1 hp1c0_ h40) fun u38 S a E=>plc E (.r 3 1 .nil) (fun a E=>pld (hK37 _ _ (E.ibn 29 H (fun c41 E H=>?_) fun c41 E H=>?_)))
 refine wp_skip ?_
 refine qCC ?_
 refine hK22 _ _ (pl0 (plc E (.r 0 3 .nil) (fun a E=>pld ?_)))
 replace S:=S.tail
 exact qCD ⟨k17,by omega,_,l12,x13,(w64 (x14+1)),by omega,E,.of,S,H⟩
 refine sq fun K42 hK42=>pl0 ?_
 have hb34:=S.ba 0
 obtain ⟨c43,H⟩:=gd H
 have hr44:=S.ra 1
 have c45:0≤x13∧x13<(l12.length:Int):=by rw [← (qCE hr44).1]; exact c43
 have hr_:=S.ra 1
 obtain ⟨cs47,⟨A49,c50,rfl,g51⟩,hc48⟩:=qCF hr_ qF.z x13 c45.1 c45.2
 refine plc E (.r 0 2<|.bn 2 0 2 hb34<|.x 3 c43<|.nil) (fun a E=>?_)
 replace S:=S.front 1 rfl
 obtain ⟨cs56,⟨A53,c54,rfl,g55⟩,hc57⟩:=qCF (S.row_at (i:=0) rfl) qF.z x13 c45.1 c45.2
 refine ple E (.set (d:=qF.k) (n:=x.length) (i:=x13) (nth qF.z l12 x14) (0) (ea0 _ _) S c45 [iv ((nth qF.z l12 x13).f0),.slice A53 (((nth qF.z l12 x13).f1).length) c54] hc57 [iv ((nth qF.z l12 x14).f0),.slice A31 (((nth qF.z l12 x14).f1).length) c32] ⟨_,_,rfl,g33⟩) ?_
 rintro _ u52 a ⟨rfl,S,hz⟩ E
 refine pld (hK42 _ _ (pl0 (plc E (.r 0 3 .nil) (fun a E=>pld ?_))))
 refine qCC ?_
 refine hK22 _ _ (pl0 (plc E (.r 0 3 .nil) (fun a E=>pld ?_)))
 replace S:=S.pm [0] 2
 exact qCD ⟨k17,by omega,_,(l12.set (x13).toNat (nth qF.z l12 x14)),(w64 (x13+1)),(w64 (x14+1)),by omega,E,.of,S,H⟩
 refine wp_exit ?_
 refine hK10 _ _ (sq fun K58 hK58=>pl0 ?_)
 obtain ⟨c59,H⟩:=gd H
 obtain ⟨A60,c61,hA62,hv63⟩:=y_suf (P:=Tryz.prog) (k:=.i64) (S.row_at (i:=0) rfl) c59
 refine plc E (.r 0 2<|.y 2 (hv63 (by kernel_rfl))<|.nil) (fun a E=>ple E (.clr (d:=qF.k) (n:=x.length) (c':=c61) (lo:=x13) 32 qF.z S c59 hA62 (by rw [zr51]; exact ⟨none,0,rfl,Rd.nil _ _⟩)) ?_)
 rintro _ u64 a ⟨rfl,S,hz⟩ E
 refine pld (hK58 _ _ (sq fun K65 hK65=>pl0 ?_))
 have hv66:=S.ra 0
 replace S:=S.shrink c59
 refine plc E (.r 0 2<|.y 2 (y_pre (k:=.i64) hv66 c59)<|.r 3 1<|.nil) (fun a E=>pld (hK65 _ _ (wp_ret ?_)))
 rw [hN]at S
 obtain rfl:=si H
 exact rt1 E ⟨_,rfl,_,_,_,rfl,S⟩
mutual
def qAe.l20:Nat→qG→qG→List qC→List qC→Int→Option (List qC)
 | 0,_,_,_,_,_=>none
 | k+1,x,y,t8,l17,x18=>if x18<(t8.length:Int) then (if 0≤x18∧x18<(t8.length:Int) then ((qBm.f k x x18).bind fun t44=>((qBp.f k x t44).bind fun t52=>((qBm.f k y x18).bind fun t62=>((qBp.f k y t62).bind fun t70=>((qt.f k t52 t70).bind fun t78=>(if t78=true then (qAe.l20 k x y t8 l17 (w64 (x18+1))) else (if (t52.length:Int)≥x.f2 then ((qx.f t52).bind fun t91=>((qAo.f k ((nth qC.z l17 x18).f1)).bind fun t110=>((qS.f k t110 (⟨(nth qC.z l17 x18).f0,t91⟩:qF)).bind fun t122=>(if ((t122.length:Int)+((1:Nat):Int)) * 32≤140737488355328 then (qAe.j144 k x y t8 l17 x18 (t122++[(⟨(nth qC.z l17 x18).f0,t91⟩:qF)])) else (none))))) else (qAe.j144 k x y t8 l17 x18 ((nth qC.z l17 x18).f1))))))))) else (none)) else (some l17)
def qAe.j144:Nat→qG→qG→List qC→List qC→Int→List qF→Option (List qC)
 | 0,_,_,_,_,_,_=>none
 | k+1,x,y,t8,l17,x18,l141=>qAe.l20 k x y t8 (l17.set (x18).toNat (⟨(w64 (x.f0+1)),l141⟩:qC)) (w64 (x18+1))
end
theorem qAe.l20_s k x y t8 l17 x18:type_of% (qAe.l20.eq_2 x y t8 l17 x18 k):=qAe.l20.eq_2 x y t8 l17 x18 k
theorem qAe.j144_s k x y t8 l17 x18 l141:type_of% (qAe.j144.eq_2 x y t8 l17 x18 l141 k):=qAe.j144.eq_2 x y t8 l17 x18 l141 k
def qAe.f(k:Nat)(x:qG)(y:qG):Option (List qC):=(qAK.f y.f6).bind fun t8=>(qAe.l20 k x y t8 t8 0)
def qAe.Post(W F:World)(r:List qC)(v:Value)(w':World):Prop:=∃(F':World)(RA0_0:OA)(rc0_0:Nat),v = .slice RA0_0 r.length rc0_0∧Sm W F w' F' [row qC.k 49 (.slice RA0_0 r.length rc0_0) r]
theorem qAe.calls(k:Nat)(x:qG)(y:qG)(A0_4:OA)(c0_4:Nat)(A0_5:OA)(c0_5:Nat)(A0_6:OA)(c0_6:Nat)(A1_4:OA)(c1_4:Nat)(A1_5:OA)(c1_5:Nat)(A1_6:OA)(c1_6:Nat)(r:List qC)(W F:World)(hown:Sub F W)(g0_4:Rd qA.k F A0_4 c0_4 x.f4)(g0_5:Rd qE.k F A0_5 c0_5 x.f5)(g0_6:Rd qC.k F A0_6 c0_6 x.f6)(g1_4:Rd qA.k F A1_4 c1_4 y.f4)(g1_5:Rd qE.k F A1_5 c1_5 y.f5)(g1_6:Rd qC.k F A1_6 c1_6 y.f6)(H:qAe.f k x y=some r):
    Cr 79 #[.agg #[iv x.f0,iv x.f1,iv x.f2,iv x.f3,.slice A0_4 x.f4.length c0_4,.slice A0_5 x.f5.length c0_5,.slice A0_6 x.f6.length c0_6],.agg #[iv y.f0,iv y.f1,iv y.f2,iv y.f3,.slice A1_4 y.f4.length c1_4,.slice A1_5 y.f5.length c1_5,.slice A1_6 y.f6.length c1_6]] W (qAe.Post W F r):=by
 have S:=sT hown
 unfold qAe.f at H
 refine ent 65 rfl rfl rfl (fun a E=>?_)
 refine sq fun K1 hK1=>pl0 (plx (t:=26) E S [iv x.f0,iv x.f1,iv x.f2,iv x.f3,.slice A0_4 x.f4.length c0_4,.slice A0_5 x.f5.length c0_5,.slice A0_6 x.f6.length c0_6] fun b2 u3 hb2 S a E=>plx (t:=26) E S [iv y.f0,iv y.f1,iv y.f2,iv y.f3,.slice A1_4 y.f4.length c1_4,.slice A1_5 y.f5.length c1_5,.slice A1_6 y.f6.length c1_6] fun b4 u5 hb4 S a E=>plc E (.r 2 1 .nil) (fun a E=>pld (hK1 _ _ (sq fun K6 hK6=>pl0 (plc E (.r 0 1<|.b 1 6 hb4<|.nil) (fun a E=>?_))))))
 obtain ⟨t8,h9,H⟩:=bd H
 refine ple E (.cl en130 (qAK.calls y.f6 _ _ _ _ _ S.own.sub g1_6 h9)) ?_
 rintro _ u7 a ⟨F10,A11,c12,rfl,hC⟩ E
 have hs:=hC.sub
 replace S:=S.called (X:=[]) hC
 replace g0_4:=g0_4.mono hs
 replace g0_5:=g0_5.mono hs
 replace g0_6:=g0_6.mono hs
 replace g1_4:=g1_4.mono hs
 replace g1_5:=g1_5.mono hs
 replace g1_6:=g1_6.mono hs
 refine plc E (.r 3 1 .nil) (fun a E=>pld (hK6 _ _ (sq fun K15 hK15=>rr E fun a E=>(wp_block ?_))))
 replace S:=S.pm [1,2,0] 3
 refine wp_loop_ghost (fun kq21 a w'=>∃(G:NV)(l17:List qC)(x18:Int)(F19:World),kq21≤k∧Env 65 G a∧At G [(2,.pointer (pb b2)),(3,.pointer (pb b4)),(5,.slice A11 t8.length c12),(13,.slice A11 t8.length c12),(14,iv (t8.length:Int)),(15,iv x18)]∧Sm W F w' F19 [box b4 #[iv y.f0,iv y.f1,iv y.f2,iv y.f3,.slice A1_4 y.f4.length c1_4,.slice A1_5 y.f5.length c1_5,.slice A1_6 y.f6.length c1_6] 26,box b2 #[iv x.f0,iv x.f1,iv x.f2,iv x.f3,.slice A0_4 x.f4.length c0_4,.slice A0_5 x.f5.length c0_5,.slice A0_6 x.f6.length c0_6] 26,row qC.k 49 (.slice A11 t8.length c12) l17]∧Rd qA.k F19 A1_4 c1_4 y.f4∧Rd qE.k F19 A1_5 c1_5 y.f5∧Rd qC.k F19 A1_6 c1_6 y.f6∧Rd qA.k F19 A0_4 c0_4 x.f4∧Rd qE.k F19 A0_5 c0_5 x.f5∧Rd qC.k F19 A0_6 c0_6 x.f6∧qAe.l20 kq21 x y t8 l17 x18=some r) k ⟨_,t8,0,F10,Nat.le_refl _,E,.of,S,g1_4,g1_5,g1_6,g0_4,g0_5,g0_6,H⟩ ?_
 rintro kq21 a u23 ⟨G,l17,x18,F19,hkq,E,A,S,g1_4,g1_5,g1_6,g0_4,g0_5,g0_6,H⟩
 obtain _ | k22:=kq21
 exact zz H
 rw [qAe.l20_s]at H
 obtain ⟨J,E⟩:=E.at A
 refine rr E fun a E=>(sq fun K25 hK25=>E.ik 16 H (fun c26 E H=>?_) fun c26 E H=>?_)
 refine wp_skip (hK25 _ _ (sq fun K27 hK27=>wp_block (sq fun K28 hK28=>pl0 ?_)))
 obtain ⟨c29,H⟩:=gd H
 have hr30:=S.ra 2
 have c31:0≤x18∧x18<(l17.length:Int):=by rw [← (qCE hr30).1]; exact c29
 have hE_:=E
 obtain ⟨b32,rfl⟩:=qCJ hr30 c31.1 c31.2
 replace E:=hE_
 have hr_:=S.ra 2
 obtain ⟨cs34,⟨A36,c37,rfl,g38⟩,hc35⟩:=qCF hr_ qC.z x18 c31.1 c31.2
 refine plc E (.r 0 1<|.x 1 c29<|.cs 2 hc35<|.nil) (fun a E=>pla (t:=49) E S [iv 0,.slice none 0 0] fun b39 u40 hb39 S a E=>plc E (.r 4 1 .nil) (fun a E=>pls E S [iv ((nth qC.z l17 x18).f0),.slice A36 (((nth qC.z l17 x18).f1).length) c37] fun u41 hb39 S a E=>pld (hK28 _ _ (sq fun K42 hK42=>?_))))
 refine drawn 6 ⟨[4],[],fun q=>False⟩ mixed rfl (by kernel_rfl) (fun hst=>?_)
 replace S:=S.drew
 have hb2:=S.ba 2
 refine mny 3 hst E (.bn 0 0 7 hb2<|.bn 1 0 7 hb2<|.r 2 1<|.nil) (fun a E=>?_)
 obtain ⟨t44,h45,H⟩:=bd H
 refine on1 3 E (.cl en71 (qBm.calls k22 x x18 _ _ _ _ _ _ _ _ _ S.own.sub g0_4 g0_5 g0_6 h45)) ?_
 rintro _ u43 a ⟨F46,A47,c48,rfl,hC⟩ E
 refine ⟨.of hC.agr,?_⟩
 have hs:=hC.sub
 replace S:=S.called (X:=[]) hC
 replace g38:=g38.mono hs
 replace g0_4:=g0_4.mono hs
 replace g0_5:=g0_5.mono hs
 replace g0_6:=g0_6.mono hs
 replace g1_4:=g1_4.mono hs
 replace g1_5:=g1_5.mono hs
 replace g1_6:=g1_6.mono hs
 obtain ⟨t52,h53,H⟩:=bd H
 refine on1 4 E (.cl en74 (qBp.calls k22 x t44 _ _ _ _ _ _ _ _ _ _ _ (Own.left (X:=[row ki 3 (.slice A47 t44.length c48) t44]) S.own) g0_4 g0_5 g0_6 h53)) ?_
 rintro _ u51 a ⟨F54,A55,c56,rfl,hC⟩ E
 refine ⟨.d,?_⟩
 have hs:=hC.sub
 replace S:=S.called (X:=[row ki 3 (.slice A47 t44.length c48) t44]) hC
 replace g38:=g38.mono hs
 replace g0_4:=g0_4.mono hs
 replace g0_5:=g0_5.mono hs
 replace g0_6:=g0_6.mono hs
 replace g1_4:=g1_4.mono hs
 replace g1_5:=g1_5.mono hs
 replace g1_6:=g1_6.mono hs
 refine mny 0 hst E (.r 5 1 .nil) (fun a E=>?_)
 refine dn ?_
 refine hK42 _ _ (sq fun K59 hK59=>sq fun K60 hK60=>?_)
 refine drawn 7 ⟨[5],[],fun q=>False⟩ mixed rfl (by kernel_rfl) (fun hst=>?_)
 replace S:=S.drew
 have hb4:=S.ba 2
 refine mny 3 hst E (.r 0 1<|.bn 1 0 7 hb4<|.bn 2 0 7 hb4<|.r 3 1<|.nil) (fun a E=>?_)
 obtain ⟨t62,h63,H⟩:=bd H
 refine on1 4 E (.cl en71 (qBm.calls k22 y x18 _ _ _ _ _ _ _ _ _ S.own.sub g1_4 g1_5 g1_6 h63)) ?_
 rintro _ u61 a ⟨F64,A65,c66,rfl,hC⟩ E
 refine ⟨.of hC.agr,?_⟩
 have hs:=hC.sub
 replace S:=S.called (X:=[]) hC
 replace g38:=g38.mono hs
 replace g0_4:=g0_4.mono hs
 replace g0_5:=g0_5.mono hs
 replace g0_6:=g0_6.mono hs
 replace g1_4:=g1_4.mono hs
 replace g1_5:=g1_5.mono hs
 replace g1_6:=g1_6.mono hs
 obtain ⟨t70,h71,H⟩:=bd H
 refine on1 5 E (.cl en74 (qBp.calls k22 y t62 _ _ _ _ _ _ _ _ _ _ _ (Own.left (X:=[row ki 3 (.slice A65 t62.length c66) t62]) S.own) g1_4 g1_5 g1_6 h71)) ?_
 rintro _ u69 a ⟨F72,A73,c74,rfl,hC⟩ E
 refine ⟨.d,?_⟩
 have hs:=hC.sub
 replace S:=S.called (X:=[row ki 3 (.slice A65 t62.length c66) t62]) hC
 replace g38:=g38.mono hs
 replace g0_4:=g0_4.mono hs
 replace g0_5:=g0_5.mono hs
 replace g0_6:=g0_6.mono hs
 replace g1_4:=g1_4.mono hs
 replace g1_5:=g1_5.mono hs
 replace g1_6:=g1_6.mono hs
 obtain ⟨t78,h79,H⟩:=bd H
 refine on1 6 E (.cl en90 (qt.calls k22 t52 t70 _ _ _ _ _ _ _ (Sub.refl _) (S.rd_at (i:=1) rfl) (S.rd_at (i:=0) rfl) h79)) ?_
 rintro _ u77 a ⟨_,rfl,hC⟩ E
 refine ⟨.of hC.agr,?_⟩
 replace S:=S.lent hC
 refine dn ?_
 refine hK60 _ _ (E.ib 31 H (fun c80 E H=>?_) fun c80 E H=>?_)
 refine wp_exit ?_
 refine hK27 _ _ (pl0 (plc E (.r 0 2 .nil) (fun a E=>pld ?_)))
 replace S:=S.pm [] 3
 exact qCD ⟨k22,by omega,_,l17,(w64 (x18+1)),F72,by omega,E,.of,S,g1_4,g1_5,g1_6,g0_4,g0_5,g0_6,H⟩
 refine wp_skip (hK59 _ _ (sq fun K81 hK81=>?_))
 have J147:∀ kq145,kq145≤k22→∀(G:NV)(A139:OA)(c140:Nat)(l141:List qF)(F143:World)(a:Act)(w':World),Env 65 G a→At G [(2,.pointer (pb b2)),(3,.pointer (pb b4)),(5,.slice (pb b32) t8.length c12),(6,iv x18),(7,.pointer (pb b39)),(13,.slice (pb b32) t8.length c12),(14,iv (t8.length:Int)),(15,iv x18)]→Sm W F w' F143 [box b39 #[iv ((nth qC.z l17 x18).f0),.slice A139 l141.length c140] 49,box b4 #[iv y.f0,iv y.f1,iv y.f2,iv y.f3,.slice A1_4 y.f4.length c1_4,.slice A1_5 y.f5.length c1_5,.slice A1_6 y.f6.length c1_6] 26,box b2 #[iv x.f0,iv x.f1,iv x.f2,iv x.f3,.slice A0_4 x.f4.length c0_4,.slice A0_5 x.f5.length c0_5,.slice A0_6 x.f6.length c0_6] 26,row qC.k 49 (.slice (pb b32) t8.length c12) l17]→Rd qF.k F143 A139 c140 l141→Rd qA.k F143 A1_4 c1_4 y.f4→Rd qE.k F143 A1_5 c1_5 y.f5→Rd qC.k F143 A1_6 c1_6 y.f6→Rd qA.k F143 A0_4 c0_4 x.f4→Rd qE.k F143 A0_5 c0_5 x.f5→Rd qC.k F143 A0_6 c0_6 x.f6→qAe.j144 kq145 x y t8 l17 x18 l141=some r→K81 a w':=by
  intro kq145 hkq G A139 c140 l141 F143 a u148 E A S g142 g1_4 g1_5 g1_6 g0_4 g0_5 g0_6 H
  obtain _ | k146:=kq145
  exact zz H
  rw [qAe.j144_s]at H
  obtain ⟨J,E⟩:=E.at A
  refine hK81 _ _ (sq fun K149 hK149=>pl0 (plc E (.r 0 1<|.b 1 0 (S.ba 2)<|.r 2 2<|.nil) (fun a E=>pls E S [iv (w64 (x.f0+1)),.slice A139 l141.length c140] fun u150 hb39 S a E=>pld (hK149 _ _ (pl0 ?_)))))
  have hr151:=S.ra 3
  have c152:0≤x18∧x18<(l17.length:Int):=by rw [← (qCE hr151).1]; exact c29
  have hr_:=S.ra 3
  obtain ⟨cs154,⟨A156,c157,rfl,g158⟩,hc155⟩:=qCF hr_ qC.z x18 c152.1 c152.2
  refine plc E (.r 0 2<|.bn 2 0 2 hb39<|.x 3 c29<|.nil) (fun a E=>?_)
  replace S:=S.front 3 rfl
  obtain ⟨cs163,⟨A160,c161,rfl,g162⟩,hc164⟩:=qCF (S.row_at (i:=0) rfl) qC.z x18 c152.1 c152.2
  refine ple E (.set (d:=qC.k) (n:=t8.length) (i:=x18) (⟨(w64 (x.f0+1)),l141⟩:qC) (0) (ea0 _ _) S c152 [iv ((nth qC.z l17 x18).f0),.slice A160 (((nth qC.z l17 x18).f1).length) c161] hc164 [iv (w64 (x.f0+1)),.slice A139 l141.length c140] ⟨_,_,rfl,g142⟩) ?_
  rintro _ u159 a ⟨rfl,S,hz⟩ E
  refine pld ?_
  refine qCC ?_
  refine hK27 _ _ (pl0 (plc E (.r 0 2 .nil) (fun a E=>pld ?_)))
  replace S:=S.pm [2,3,0] 4
  exact qCD ⟨k146,by omega,_,(l17.set (x18).toNat (⟨(w64 (x.f0+1)),l141⟩:qC)),(w64 (x18+1)),F143,by omega,E,.of,S,g1_4,g1_5,g1_6,g0_4,g0_5,g0_6,H⟩
 refine rg E (.r 0 3<|.b 3 2 (S.ba 4)<|.r 4 1<|.nil) fun a E=>(E.ik 36 H (fun c83 E H=>?_) fun c83 E H=>?_)
 refine sq fun K84 hK84=>?_
 refine drawn 8 ⟨[7],[],fun q=>False⟩ mixed rfl (by kernel_rfl) (fun hst=>?_)
 replace S:=S.drew
 have hb39:=S.ba 2
 refine mny 5 hst E (.r 0 1<|.b 1 0 hb39<|.r 2 1<|.nil) (fun a E=>?_)
 obtain ⟨t91,h92,H⟩:=bd H
 refine meet2 (fun a w'=>∃(G:NV)(b89:Nat)(A97:OA)(c98:Nat)(F105:World),Env 65 G a∧At G [(2,.pointer (pb b2)),(3,.pointer (pb b4)),(5,.slice (pb b32) t8.length c12),(6,iv x18),(7,.pointer (pb b39)),(9,.pointer (pb b89)),(13,.slice (pb b32) t8.length c12),(14,iv (t8.length:Int)),(15,iv x18),(42,.agg #[iv ((nth qC.z l17 x18).f0),.slice A97 t91.length c98])]∧Sm W F w' F105 [box b89 #[iv 0,.slice none 0 0] 51,box b39 #[iv ((nth qC.z l17 x18).f0),.slice A36 (((nth qC.z l17 x18).f1).length) c37] 49,box b4 #[iv y.f0,iv y.f1,iv y.f2,iv y.f3,.slice A1_4 y.f4.length c1_4,.slice A1_5 y.f5.length c1_5,.slice A1_6 y.f6.length c1_6] 26,box b2 #[iv x.f0,iv x.f1,iv x.f2,iv x.f3,.slice A0_4 x.f4.length c0_4,.slice A0_5 x.f5.length c0_5,.slice A0_6 x.f6.length c0_6] 26,row ki 3 (.slice A97 t91.length c98) t91,row qC.k 49 (.slice (pb b32) t8.length c12) l17]∧Rd qF.k F105 A36 c37 ((nth qC.z l17 x18).f1)∧Rd qA.k F105 A1_4 c1_4 y.f4∧Rd qE.k F105 A1_5 c1_5 y.f5∧Rd qC.k F105 A1_6 c1_6 y.f6∧Rd qA.k F105 A0_4 c0_4 x.f4∧Rd qE.k F105 A0_5 c0_5 x.f5∧Rd qC.k F105 A0_6 c0_6 x.f6) 1 127 ?_ (fun hJb=>?_)
 rintro a u106 ⟨G,b89,A97,c98,F105,E,A,S,g38,g1_4,g1_5,g1_6,g0_4,g0_5,g0_6⟩
 obtain ⟨J,E⟩:=E.at A
 refine on1 7 E (.sto S [iv ((nth qC.z l17 x18).f0),.slice A97 t91.length c98]) ?_
 rintro _ u107 a ⟨rfl,hb89,S,hz⟩ E
 refine ⟨.d,?_⟩
 refine dn ?_
 refine hK84 _ _ (sq fun K108 hK108=>pl0 (plc E (.r 0 1<|.b 1 1 (S.ba 1)<|.nil) (fun a E=>?_)))
 obtain ⟨t110,h111,H⟩:=bd H
 refine ple E (.cl en131 (qAo.calls k22 ((nth qC.z l17 x18).f1) _ _ _ _ _ S.own.sub g38 h111)) ?_
 rintro _ u109 a ⟨F112,A113,c114,rfl,hC⟩ E
 have hs:=hC.sub
 replace S:=S.called (X:=[]) hC
 replace g38:=g38.mono hs
 replace g1_4:=g1_4.mono hs
 replace g1_5:=g1_5.mono hs
 replace g1_6:=g1_6.mono hs
 replace g0_4:=g0_4.mono hs
 replace g0_5:=g0_5.mono hs
 replace g0_6:=g0_6.mono hs
 refine plc E (.r 3 1 .nil) (fun a E=>?_)
 replace S:=S.front 5 rfl
 obtain ⟨F117,hs,g118,S⟩:=S.give
 replace g38:=g38.mono hs
 replace g1_4:=g1_4.mono hs
 replace g1_5:=g1_5.mono hs
 replace g1_6:=g1_6.mono hs
 replace g0_4:=g0_4.mono hs
 replace g0_5:=g0_5.mono hs
 replace g0_6:=g0_6.mono hs
 replace S:=S.front 1 rfl
 obtain ⟨F119,hs,g120,S⟩:=S.giveb
 replace g118:=g118.mono hs
 replace g38:=g38.mono hs
 replace g1_4:=g1_4.mono hs
 replace g1_5:=g1_5.mono hs
 replace g1_6:=g1_6.mono hs
 replace g0_4:=g0_4.mono hs
 replace g0_5:=g0_5.mono hs
 replace g0_6:=g0_6.mono hs
 obtain ⟨t122,h123,H⟩:=bd H
 refine ple E (.cl en139 (qS.calls k22 t110 (⟨(nth qC.z l17 x18).f0,t91⟩:qF) _ _ _ _ _ _ _ _ (Own.left (X:=[row qF.k 51 (.slice A113 t110.length c114) t110]) S.own) g118 g120 h123)) ?_
 rintro _ u121 a ⟨F124,A125,c126,rfl,hC⟩ E
 have hs:=hC.sub
 replace S:=S.called (X:=[row qF.k 51 (.slice A113 t110.length c114) t110]) hC
 replace g118:=g118.mono hs
 replace g38:=g38.mono hs
 replace g1_4:=g1_4.mono hs
 replace g1_5:=g1_5.mono hs
 replace g1_6:=g1_6.mono hs
 replace g0_4:=g0_4.mono hs
 replace g0_5:=g0_5.mono hs
 replace g0_6:=g0_6.mono hs
 replace g120:=hs _ _ _ _ g120
 refine plc E (.r 5 1 .nil) (fun a E=>?_)
 replace S:=S.front 1 rfl
 refine pls E S [iv ((nth qC.z l17 x18).f0),.slice A125 t122.length c126] fun u129 hb39 S a E=>pld (hK108 _ _ (pl0 (plc E (.r 0 1<|.b 1 1 hb39<|.bn 2 0 2 (S.own.sub _ _ _ _ g120)<|.nil) (fun a E=>ple E (.lit (d:=qF.k) (e:=51) S [(⟨(nth qC.z l17 x18).f0,t91⟩:qF)] (.cons ⟨_,_,rfl,g118⟩ .nil)) ?_))))
 rintro _ u130 a ⟨A131,c132,rfl,S,hg⟩ E
 obtain ⟨c134,H⟩:=gd H
 replace S:=S.front 2 rfl
 refine ple E (.ap (d:=qF.k) 32 S (qCT (S.row_at (i:=1) rfl)) c134 c132) ?_
 rintro _ u137 a ⟨A135,c136,rfl,S,hz⟩ E
 refine plc E (.r 5 1 .nil) (fun a E=>?_)
 replace S:=S.front 2 rfl
 refine pls E S [iv ((nth qC.z l17 x18).f0),.slice A135 ((t122++[(⟨(nth qC.z l17 x18).f0,t91⟩:qF)]).length) c136] fun u138 hb39 S a E=>pld ?_
 replace S:=S.front 1 rfl
 obtain ⟨F165,hs,g166,S⟩:=S.give
 replace g118:=g118.mono hs
 replace g38:=g38.mono hs
 replace g1_4:=g1_4.mono hs
 replace g1_5:=g1_5.mono hs
 replace g1_6:=g1_6.mono hs
 replace g0_4:=g0_4.mono hs
 replace g0_5:=g0_5.mono hs
 replace g0_6:=g0_6.mono hs
 replace g120:=hs _ _ _ _ g120
 replace S:=S.pm [0] 2
 exact J147 _ (by omega) _ A135 c136 (t122++[(⟨(nth qC.z l17 x18).f0,t91⟩:qF)]) F165 _ _ E .of S g166 g1_4 g1_5 g1_6 g0_4 g0_5 g0_6 H
 refine meet2 (fun a w'=>∃(G:NV)(b89:Nat)(b87:Nat)(F102:World),Env 65 G a∧At G [(2,.pointer (pb b2)),(3,.pointer (pb b4)),(5,.slice (pb b32) t8.length c12),(6,iv x18),(7,.pointer (pb b39)),(9,.pointer (pb b89)),(13,.slice (pb b32) t8.length c12),(14,iv (t8.length:Int)),(15,iv x18),(38,iv ((nth qC.z l17 x18).f0)),(40,.func (.func 186) #[] #[.pointer (pb b87)])]∧Sm W F w' F102 [box b89 #[iv 0,.slice none 0 0] 51,box b87 #[.slice A55 t52.length c56] 36,box b39 #[iv ((nth qC.z l17 x18).f0),.slice A36 (((nth qC.z l17 x18).f1).length) c37] 49,box b4 #[iv y.f0,iv y.f1,iv y.f2,iv y.f3,.slice A1_4 y.f4.length c1_4,.slice A1_5 y.f5.length c1_5,.slice A1_6 y.f6.length c1_6] 26,box b2 #[iv x.f0,iv x.f1,iv x.f2,iv x.f3,.slice A0_4 x.f4.length c0_4,.slice A0_5 x.f5.length c0_5,.slice A0_6 x.f6.length c0_6] 26,row qC.k 49 (.slice (pb b32) t8.length c12) l17]∧Rd ki F102 A55 c56 t52∧Rd qF.k F102 A36 c37 ((nth qC.z l17 x18).f1)∧Rd qA.k F102 A1_4 c1_4 y.f4∧Rd qE.k F102 A1_5 c1_5 y.f5∧Rd qC.k F102 A1_6 c1_6 y.f6∧Rd qA.k F102 A0_4 c0_4 x.f4∧Rd qE.k F102 A0_5 c0_5 x.f5∧Rd qC.k F102 A0_6 c0_6 x.f6) 3 79 ?_ (fun hJ=>?_)
 rintro a u103 ⟨G,b89,b87,F102,E,A,S,g86,g38,g1_4,g1_5,g1_6,g0_4,g0_5,g0_6⟩
 obtain ⟨J,E⟩:=E.at A
 replace S:=S.front 1 rfl
 obtain ⟨F93,hs,g94,S⟩:=S.giveb
 replace g86:=g86.mono hs
 replace g38:=g38.mono hs
 replace g1_4:=g1_4.mono hs
 replace g1_5:=g1_5.mono hs
 replace g1_6:=g1_6.mono hs
 replace g0_4:=g0_4.mono hs
 replace g0_5:=g0_5.mono hs
 replace g0_6:=g0_6.mono hs
 refine on1 4 E (.cl en137 (qx.calls t52 _ _ _ _ _ _ S.own.sub g86 g94 h92)) ?_
 rintro _ u95 a ⟨F96,A97,c98,rfl,hC⟩ E
 refine ⟨.of hC.agr,?_⟩
 have hs:=hC.sub
 replace S:=S.called (X:=[]) hC
 replace g38:=g38.mono hs
 replace g1_4:=g1_4.mono hs
 replace g1_5:=g1_5.mono hs
 replace g1_6:=g1_6.mono hs
 replace g0_4:=g0_4.mono hs
 replace g0_5:=g0_5.mono hs
 replace g0_6:=g0_6.mono hs
 replace g86:=g86.mono hs
 replace g94:=hs _ _ _ _ g94
 refine mny 1 hst E (.r 5 1 .nil) (fun a E=>?_)
 replace S:=S.pm [1,2,3,4,0] 5
 exact hJb _ _ ⟨_,b89,A97,c98,F96,E,.of,S,g38,g1_4,g1_5,g1_6,g0_4,g0_5,g0_6⟩
 refine pk2 3 6 ?_ ?_
 replace S:=S.front 1 rfl
 obtain ⟨F85,hs,g86,S⟩:=S.give
 replace g38:=g38.mono hs
 replace g0_4:=g0_4.mono hs
 replace g0_5:=g0_5.mono hs
 replace g0_6:=g0_6.mono hs
 replace g1_4:=g1_4.mono hs
 replace g1_5:=g1_5.mono hs
 replace g1_6:=g1_6.mono hs
 refine pk1 3 E (.cl en138 (qBr.calls t52 A55 c56 _ _ S.own.sub)) ?_
 rintro _ u88 a ⟨b87,rfl,hC⟩ E
 refine ⟨.of hC.agr,?_⟩
 replace S:=S.called (X:=[]) hC
 refine pk2 6 4 ?_ ?_
 refine pk1 6 E (.al (t:=51) S [iv 0,.slice none 0 0]) ?_
 rintro _ u90 a ⟨b89,rfl,hb89,S,hg⟩ E
 refine ⟨.of hg,?_⟩
 replace S:=S.pm [0,1] 3
 exact hJ _ _ ⟨_,b89,b87,F85,E,.of,S,g86,g38,g1_4,g1_5,g1_6,g0_4,g0_5,g0_6⟩
 obtain ⟨F93,hs,g94,S⟩:=S.giveb
 replace g86:=g86.mono hs
 replace g38:=g38.mono hs
 replace g0_4:=g0_4.mono hs
 replace g0_5:=g0_5.mono hs
 replace g0_6:=g0_6.mono hs
 replace g1_4:=g1_4.mono hs
 replace g1_5:=g1_5.mono hs
 replace g1_6:=g1_6.mono hs
 refine pk1 4 E (.cl en137 (qx.calls t52 _ _ _ _ _ _ S.own.sub g86 g94 h92)) ?_
 rintro _ u95 a ⟨F96,A97,c98,rfl,hC⟩ E
 refine ⟨.of hC.agr,?_⟩
 have hs:=hC.sub
 replace S:=S.called (X:=[]) hC
 replace g86:=g86.mono hs
 replace g38:=g38.mono hs
 replace g0_4:=g0_4.mono hs
 replace g0_5:=g0_5.mono hs
 replace g0_6:=g0_6.mono hs
 replace g1_4:=g1_4.mono hs
 replace g1_5:=g1_5.mono hs
 replace g1_6:=g1_6.mono hs
 replace g94:=hs _ _ _ _ g94
 refine mny 2 hst E (.r 5 1 .nil) (fun a E=>?_)
 refine on1 6 E (.al (t:=51) S [iv 0,.slice none 0 0]) ?_
 rintro _ u90 a ⟨b89,rfl,hb89,S,hg⟩ E
 refine ⟨.of hg,?_⟩
 replace S:=S.pm [0,3,4,5,1] 6
 exact hJb _ _ ⟨_,b89,A97,c98,F96,E,.of,S,g38,g1_4,g1_5,g1_6,g0_4,g0_5,g0_6⟩
 refine pk1 6 E (.al (t:=51) S [iv 0,.slice none 0 0]) ?_
 rintro _ u90 a ⟨b89,rfl,hb89,S,hg⟩ E
 refine ⟨.of hg,?_⟩
 replace S:=S.front 2 rfl
 obtain ⟨F85,hs,g86,S⟩:=S.give
 replace g38:=g38.mono hs
 replace g0_4:=g0_4.mono hs
 replace g0_5:=g0_5.mono hs
 replace g0_6:=g0_6.mono hs
 replace g1_4:=g1_4.mono hs
 replace g1_5:=g1_5.mono hs
 replace g1_6:=g1_6.mono hs
 refine on1 3 E (.cl en138 (qBr.calls t52 A55 c56 _ _ S.own.sub)) ?_
 rintro _ u88 a ⟨b87,rfl,hC⟩ E
 refine ⟨.of hC.agr,?_⟩
 replace S:=S.called (X:=[]) hC
 replace S:=S.pm [1,0] 3
 exact hJ _ _ ⟨_,b89,b87,F85,E,.of,S,g86,g38,g1_4,g1_5,g1_6,g0_4,g0_5,g0_6⟩
 refine wp_skip ?_
 replace S:=S.pm [] 2
 exact J147 _ (by omega) _ A36 c37 ((nth qC.z l17 x18).f1) F72 _ _ E .of S g38 g1_4 g1_5 g1_6 g0_4 g0_5 g0_6 H
 refine wp_exit ?_
 refine hK15 _ _ (rr E fun a E=>(wp_ret ?_))
 have hn168:=(qCE (S.row_at (i:=2) rfl)).1
 replace E:=E.set (d:=4) (v:=.slice A11 l17.length c12) (Eq.trans (b:=.slice A11 t8.length c12) (by kernel_rfl) (by rw [← hn168]))
 replace S:Sm W F u23 F19 [box b4 #[iv y.f0,iv y.f1,iv y.f2,iv y.f3,.slice A1_4 y.f4.length c1_4,.slice A1_5 y.f5.length c1_5,.slice A1_6 y.f6.length c1_6] 26,box b2 #[iv x.f0,iv x.f1,iv x.f2,iv x.f3,.slice A0_4 x.f4.length c0_4,.slice A0_5 x.f5.length c0_5,.slice A0_6 x.f6.length c0_6] 26,row qC.k 49 (.slice A11 l17.length c12) l17]:=by rw [← hn168]; exact S
 replace S:=S.pm [] 2
 obtain rfl:=si H
 exact rt1 E ⟨_,rfl,_,_,_,rfl,S⟩
end Go.Proofs.YtpohepinmjmbkaaGreat.QK
