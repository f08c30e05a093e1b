import Derived.Test.YthgfhlbjkmjlpaaGreatPG3
namespace Go.Proofs.YthgfhlbjkmjlpaaGreat.PG
open Go Go.RowKit Go.Proofs.YthgfhlbjkmjlpaaGreat.Sl
set_option linter.unusedVariables false
set_option linter.unusedSimpArgs false
set_option maxHeartbeats 4000000
set_option maxRecDepth 100000
def qP.l7:Nat→List qA→Int→Int→Int→Option (Int × Bool)
 | 0,_,_,_,_=>none
 | k+1,x,y,x5,x6=>if x5<x6 then (if 0≤(w64 ((IntKind.u64.wrap (w64 (x5+x6))).fdiv 2))∧(w64 ((IntKind.u64.wrap (w64 (x5+x6))).fdiv 2))<(x.length:Int) then ((qBf.f (nth qA.z x (w64 ((IntKind.u64.wrap (w64 (x5+x6))).fdiv 2))) y).bind fun t22=>(if t22<0 then (qP.l7 k x y (w64 ((w64 ((IntKind.u64.wrap (w64 (x5+x6))).fdiv 2))+1)) x6) else (qP.l7 k x y x5 (w64 ((IntKind.u64.wrap (w64 (x5+x6))).fdiv 2))))) else (none)) else (if x5<(x.length:Int) then (if 0≤x5∧x5<(x.length:Int) then ((qBf.f (nth qA.z x x5) y).bind fun t33=>(some (x5,(t33 == 0)))) else (none)) else (some (x5,false)))
theorem qP.l7_s k x y x5 x6:type_of% (qP.l7.eq_2 x y x5 x6 k):=qP.l7.eq_2 x y x5 x6 k
def qP.f(k:Nat)(x:List qA)(y:Int):Option (Int × Bool):=qP.l7 k x y 0 (x.length:Int)
def qP.Post(W F:World)(r:Int × Bool)(v:Value)(w':World):Prop:=∃(F':World),v = .tuple #[iv r.1,.bool r.2]∧Sm W F w' F' []
theorem qP.calls(k:Nat)(x:List qA)(y:Int)(A0_0:OA)(c0_0:Nat)(r:Int × Bool)(W F:World)(hown:Sub F W)(g0_0:Rd qA.k F A0_0 c0_0 x)(H:qP.f k x y=some r):
    Cr 88 #[.slice A0_0 x.length c0_0,iv y,.func (.func 89) #[] #[]] W (qP.Post W F r):=by
 have S:=sT hown
 unfold qP.f at H
 refine ent 49 rfl rfl rfl (fun a E=>?_)
 refine rr E fun a E=>(rr E fun a E=>(rr E fun a E=>(sq fun K4 hK4=>wp_block ?_)))
 refine wp_loop_ghost (fun kq8 a w'=>∃(G:NV)(x5:Int)(x6:Int),kq8≤k∧Env 49 G a∧At G [(0,.slice A0_0 x.length c0_0),(1,iv y),(2,.func (.func 89) #[] #[]),(8,iv (x.length:Int)),(9,iv x5),(10,iv x6)]∧Sm W F w' F []∧qP.l7 kq8 x y x5 x6=some r) k ⟨_,0,(x.length:Int),Nat.le_refl _,E,.of,S,H⟩ ?_
 rintro kq8 a u10 ⟨G,x5,x6,hkq,E,A,S,H⟩
 obtain _ | k9:=kq8
 exact zz H
 rw [qP.l7_s]at H
 obtain ⟨J,E⟩:=E.at A
 refine sq fun K11 hK11=>rr E fun a E=>(E.ik 17 H (fun c13 E H=>?_) fun c13 E H=>?_)
 refine wp_skip (hK11 _ _ (wp_block (rr E fun a E=>(sq fun K15 hK15=>pl0 ?_))))
 obtain ⟨c16,H⟩:=gd H
 have hE_:=E
 obtain ⟨ad17,rfl⟩:=g0_0.addr c16.1 c16.2
 replace E:=hE_
 obtain ⟨cs19,rfl,hc20⟩:=g0_0.el qA.z (w64 ((IntKind.u64.wrap (w64 (x5+x6))).fdiv 2)) c16.1 c16.2
 refine plc E (.r 0 3<|.x 3 c16<|.cs 4 (S.fcs hc20)<|.r 5 1<|.nil) (fun a E=>?_)
 obtain ⟨t22,h23,H⟩:=bd H
 refine plq E S en89 (qBf.calls (nth qA.z x (w64 ((IntKind.u64.wrap (w64 (x5+x6))).fdiv 2))) y _ _ _ S.own.sub h23) fun u21 S a E=>plc E (.r 7 1 .nil) (fun a E=>pld (hK15 _ _ (E.ik 31 H (fun c24 E H=>?_) fun c24 E H=>?_)))
 refine pl0 (plc E (.r 0 3 .nil) (fun a E=>pld ?_))
 refine qCS ?_
 exact qCT ⟨k9,by omega,_,(w64 ((w64 ((IntKind.u64.wrap (w64 (x5+x6))).fdiv 2))+1)),x6,by omega,E,.of,S,H⟩
 refine pl0 (plc E (.r 0 2 .nil) (fun a E=>pld ?_))
 refine qCS ?_
 exact qCT ⟨k9,by omega,_,x5,(w64 ((IntKind.u64.wrap (w64 (x5+x6))).fdiv 2)),by omega,E,.of,S,H⟩
 refine wp_exit ?_
 refine hK4 _ _ (sq fun K25 hK25=>pl0 (plc E (.r 0 5 .nil) (fun a E=>E.fk 39 H (fun c26 E H=>?_) fun c26 E H=>?_)))
 obtain ⟨c27,H⟩:=gd H
 have hE_:=E
 obtain ⟨ad28,rfl⟩:=g0_0.addr c27.1 c27.2
 replace E:=hE_
 obtain ⟨cs30,rfl,hc31⟩:=g0_0.el qA.z x5 c27.1 c27.2
 refine plc E (.r 5 3<|.x 8 c27<|.cs 9 (S.fcs hc31)<|.r 10 1<|.nil) (fun a E=>?_)
 obtain ⟨t33,h34,H⟩:=bd H
 refine plq E S en89 (qBf.calls (nth qA.z x x5) y _ _ _ S.own.sub h34) fun u32 S a E=>plc E (.r 12 4 .nil) (fun a E=>pld (hK25 _ _ (wp_ret ?_)))
 obtain rfl:=si H
 exact rtN E ⟨_,rfl,_,rfl,S⟩
 refine plc E (.r 5 11 .nil) (fun a E=>pld (hK25 _ _ (wp_ret ?_)))
 obtain rfl:=si H
 exact rtN E ⟨_,rfl,_,rfl,S⟩
def qBF.j15:Nat→List qA→Int × Bool→Bool→Option (qA × Bool)
 | 0,_,_,_=>none
 | k+1,x,t6,y14=>if y14=true then (some ((⟨0,0,0,0,false,false⟩:qA),false)) else (if 0≤t6.1∧t6.1<(x.length:Int) then (some ((nth qA.z x t6.1),true)) else (none))
theorem qBF.j15_s k x t6 y14:type_of% (qBF.j15.eq_2 x t6 y14 k):=qBF.j15.eq_2 x t6 y14 k
def qBF.f(k:Nat)(x:List qA)(y:Int):Option (qA × Bool):=(qP.f k x y).bind fun t6=>(if t6.2=true then ((qAQ.f k x).bind fun t12=>(qBF.j15 k x t6 (!(t12 == 0)))) else (qBF.j15 k x t6 true))
def qBF.Post(W F:World)(r:qA × Bool)(v:Value)(w':World):Prop:=∃(F':World),v = .tuple #[.agg #[iv r.1.f0,iv r.1.f1,iv r.1.f2,iv r.1.f3,.bool r.1.f4,.bool r.1.f5],.bool r.2]∧Sm W F w' F' []
theorem qBF.calls(k:Nat)(x:List qA)(y:Int)(A0_0:OA)(c0_0:Nat)(r:qA × Bool)(W F:World)(hown:Sub F W)(g0_0:Rd qA.k F A0_0 c0_0 x)(H:qBF.f k x y=some r):
    Cr 59 #[.slice A0_0 x.length c0_0,iv y] W (qBF.Post W F r):=by
 have S:=sT hown
 unfold qBF.f at H
 refine ent 26 rfl rfl rfl (fun a E=>?_)
 refine sq fun K1 hK1=>pl0 (pla (t:=68) E S [iv 0,iv 0,iv 0,iv 0,.bool false,.bool false] fun b2 u3 hb2 S a E=>plc E (.r 1 1 .nil) (fun a E=>pld (hK1 _ _ (sq fun K4 hK4=>pl0 (plc E (.r 0 2 .nil) (fun a E=>?_))))))
 obtain ⟨t6,h7,H⟩:=bd H
 refine plq E S en88 (qP.calls k x y _ _ _ _ _ S.own.sub g0_0 h7) fun u5 S a E=>plc E (.r 3 5 .nil) (fun a E=>pld (hK4 _ _ (sq fun K8 hK8=>sq fun K9 hK9=>?_)))
 have J18:∀ kq16,kq16≤k→∀(G:NV)(y14:Bool)(a:Act)(w':World),Env 26 G a→At G [(0,.slice A0_0 x.length c0_0),(4,.pointer (pb b2)),(6,iv t6.1),(20,.bool y14)]→Sm W F w' F [box b2 #[iv 0,iv 0,iv 0,iv 0,.bool false,.bool false] 68]→qBF.j15 kq16 x t6 y14=some r→K9 a w':=by
  intro kq16 hkq G y14 a u19 E A S H
  obtain _ | k17:=kq16
  exact zz H
  rw [qBF.j15_s]at H
  obtain ⟨J,E⟩:=E.at A
  refine hK9 _ _ (E.ib 20 H (fun c20 E H=>?_) fun c20 E H=>?_)
  refine sq fun K21 hK21=>pl0 (plc E (.r 0 1 .nil) (fun a E=>pls E S [iv 0,iv 0,iv 0,iv 0,.bool false,.bool false] fun u22 hb2 S a E=>plc E (.r 2 1 .nil) (fun a E=>pld (hK21 _ _ (wp_ret (qCQ ?_))))))
  replace S:=S.tail
  obtain rfl:=si H
  exact rtm E (.b hb2 ag68 sz68 (.t .nil)) ⟨_,rfl,_,rfl,S⟩
  refine wp_skip (hK8 _ _ (sq fun K23 hK23=>pl0 ?_))
  obtain ⟨c24,H⟩:=gd H
  have hE_:=E
  obtain ⟨ad25,rfl⟩:=g0_0.addr c24.1 c24.2
  replace E:=hE_
  obtain ⟨cs27,rfl,hc28⟩:=g0_0.el qA.z t6.1 c24.1 c24.2
  refine plc E (.r 0 2<|.x 2 c24<|.cs 3 (S.fcs hc28)<|.nil) (fun a E=>pls E S [iv ((nth qA.z x t6.1).f0),iv ((nth qA.z x t6.1).f1),iv ((nth qA.z x t6.1).f2),iv ((nth qA.z x t6.1).f3),.bool ((nth qA.z x t6.1).f4),.bool ((nth qA.z x t6.1).f5)] fun u29 hb2 S a E=>plc E (.r 5 1 .nil) (fun a E=>pld (hK23 _ _ (wp_ret ?_))))
  replace S:=S.tail
  obtain rfl:=si H
  exact rtm E (.b hb2 ag68 sz68 (.t .nil)) ⟨_,rfl,_,rfl,S⟩
 refine pl0 (plc E (.r 0 3 .nil) (fun a E=>E.fbn 16 H (fun c10 E H=>?_) fun c10 E H=>?_))
 refine plc E (.r 3 1 .nil) (fun a E=>?_)
 obtain ⟨t12,h13,H⟩:=bd H
 refine plq E S en74 (qAQ.calls k x _ _ _ _ _ S.own.sub g0_0 h13) fun u11 S a E=>plc E (.r 5 2 .nil) (fun a E=>pld ?_)
 exact J18 _ (by omega) _ (!(t12 == 0)) _ _ E .of S H
 refine plc E (.r 3 4 .nil) (fun a E=>pld ?_)
 exact J18 _ (by omega) _ true _ _ E .of S H
def qBn.f(k:Nat)(x:Int)(xf0_:qD):Option Bool:=(qBF.f k xf0_.f4 x).bind fun t4=>(some (!t4.1.f4))
def qBn.Post(W F:World)(r:Bool)(v:Value)(w':World):Prop:=∃(F':World),v = .bool r∧Sm W F w' F' []
theorem qBn.calls(k:Nat)(x:Int)(xf0_:qD)(pf0_:Nat)(Af0_4:OA)(cf0_4:Nat)(Af0_5:OA)(cf0_5:Nat)(Af0_6:OA)(cf0_6:Nat)(r:Bool)(W F:World)(hown:Sub F W)(gf0_4:Rd qA.k F Af0_4 cf0_4 xf0_.f4)(gf0_5:Rd qE.k F Af0_5 cf0_5 xf0_.f5)(gf0_6:Rd qC.k F Af0_6 cf0_6 xf0_.f6)(hpf0_:F.heap[pf0_]? = some (.cells #[iv xf0_.f0,iv xf0_.f1,iv xf0_.f2,iv xf0_.f3,.slice Af0_4 xf0_.f4.length cf0_4,.slice Af0_5 xf0_.f5.length cf0_5,.slice Af0_6 xf0_.f6.length cf0_6] 26 (0,0)))(H:qBn.f k x xf0_=some r):
    Cr 110 #[iv x,.pointer (pb pf0_)] W (qBn.Post W F r):=by
 have S:=sT hown
 unfold qBn.f at H
 refine ent 16 rfl rfl rfl (fun a E=>?_)
 refine rr E fun a E=>(sq fun K2 hK2=>pl0 (plc E (.r 0 1<|.b 1 4 (S.own.sub _ _ _ _ hpf0_)<|.r 2 1<|.nil) (fun a E=>?_)))
 obtain ⟨t4,h5,H⟩:=bd H
 refine plq E S en59 (qBF.calls k xf0_.f4 x _ _ _ _ _ S.own.sub gf0_4 h5) fun u3 S a E=>plc E (.r 4 3 .nil) (fun a E=>pla (t:=68) E S [iv 0,iv 0,iv 0,iv 0,.bool false,.bool false] fun b6 u7 hb6 S a E=>pls E S [iv t4.1.f0,iv t4.1.f1,iv t4.1.f2,iv t4.1.f3,.bool t4.1.f4,.bool t4.1.f5] fun u8 hb6 S a E=>plc E (.r 9 1 .nil) (fun a E=>pld (hK2 _ _ (rg E (.r 0 1<|.b 1 4 hb6<|.r 2 2<|.nil) fun a E=>(wp_ret ?_)))))
 replace S:=S.tail
 obtain rfl:=si H
 exact rt1 E ⟨_,rfl,_,rfl,S⟩
def qi.l5:Nat→List Int→qD→Int→Option Int
 | 0,_,_,_=>none
 | k+1,x,x1c0_,x4=>if x4<(x.length:Int) then (if 0≤x4∧x4<(x.length:Int) then ((qBn.f k (nth 0 x x4) x1c0_).bind fun t21=>(if t21=true then (some x4) else (qi.l5 k x x1c0_ (w64 (x4+1))))) else (none)) else (some (-1))
theorem qi.l5_s k x x1c0_ x4:type_of% (qi.l5.eq_2 x x1c0_ x4 k):=qi.l5.eq_2 x x1c0_ x4 k
def qi.f(k:Nat)(x:List Int)(x1c0_:qD):Option Int:=qi.l5 k x x1c0_ 0
def qi.Post(W F:World)(r:Int)(v:Value)(w':World):Prop:=∃(F':World),v=iv r∧Sm W F w' F' []
theorem qi.calls(k:Nat)(x:List Int)(x1c0_:qD)(A0_0:OA)(c0_0:Nat)(p1c0_:Nat)(A1c0_4:OA)(c1c0_4:Nat)(A1c0_5:OA)(c1c0_5:Nat)(A1c0_6:OA)(c1c0_6:Nat)(r:Int)(W F:World)(hown:Sub F W)(g0_0:Rd ki F A0_0 c0_0 x)(g1c0_4:Rd qA.k F A1c0_4 c1c0_4 x1c0_.f4)(g1c0_5:Rd qE.k F A1c0_5 c1c0_5 x1c0_.f5)(g1c0_6:Rd qC.k F A1c0_6 c1c0_6 x1c0_.f6)(hp1c0_:F.heap[p1c0_]? = some (.cells #[iv x1c0_.f0,iv x1c0_.f1,iv x1c0_.f2,iv x1c0_.f3,.slice A1c0_4 x1c0_.f4.length c1c0_4,.slice A1c0_5 x1c0_.f5.length c1c0_5,.slice A1c0_6 x1c0_.f6.length c1c0_6] 26 (0,0)))(H:qi.f k x x1c0_=some r):
    Cr 72 #[.slice A0_0 x.length c0_0,.func (.func 110) #[] #[.pointer (pb p1c0_)]] W (qi.Post W F r):=by
 have S:=sT hown
 unfold qi.f at H
 refine ent 19 rfl rfl rfl (fun a E=>?_)
 refine rr E fun a E=>(sq fun K2 hK2=>rr E fun a E=>(wp_block ?_))
 refine wp_loop_ghost (fun kq6 a w'=>∃(G:NV)(x4:Int),kq6≤k∧Env 19 G a∧At G [(0,.slice A0_0 x.length c0_0),(1,.func (.func 110) #[] #[.pointer (pb p1c0_)]),(7,iv (x.length:Int)),(8,iv x4)]∧Sm W F w' F []∧qi.l5 kq6 x x1c0_ x4=some r) k ⟨_,0,Nat.le_refl _,E,.of,S,H⟩ ?_
 rintro kq6 a u8 ⟨G,x4,hkq,E,A,S,H⟩
 obtain _ | k7:=kq6
 exact zz H
 rw [qi.l5_s]at H
 obtain ⟨J,E⟩:=E.at A
 refine rr E fun a E=>(sq fun K10 hK10=>E.ik 9 H (fun c11 E H=>?_) fun c11 E H=>?_)
 refine wp_skip (hK10 _ _ (sq fun K12 hK12=>wp_block (rr E fun a E=>(sq fun K14 hK14=>pl0 ?_))))
 obtain ⟨c15,H⟩:=gd H
 have hE_:=E
 obtain ⟨ad16,rfl⟩:=g0_0.addr c15.1 c15.2
 replace E:=hE_
 obtain ⟨cs18,rfl,hc19⟩:=g0_0.el 0 x4 c15.1 c15.2
 refine plc E (.r 0 3<|.x 3 c15<|.c 4 (S.fc hc19 0)<|.nil) (fun a E=>?_)
 obtain ⟨t21,h22,H⟩:=bd H
 refine plq E S en110 (qBn.calls k7 (nth 0 x x4) x1c0_ _ _ _ _ _ _ _ _ _ _ S.own.sub g1c0_4 g1c0_5 g1c0_6 hp1c0_ h22) fun u20 S a E=>pld (hK14 _ _ (E.ib 16 H (fun c23 E H=>?_) fun c23 E H=>?_))
 refine rr E fun a E=>(wp_ret (qCR (qCQ (qCQ (qCR (qCQ ?_))))))
 obtain rfl:=si H
 exact rt1 E ⟨_,rfl,_,rfl,S⟩
 refine wp_skip ?_
 refine qCS ?_
 refine hK12 _ _ (pl0 (plc E (.r 0 2 .nil) (fun a E=>pld ?_)))
 exact qCT ⟨k7,by omega,_,(w64 (x4+1)),by omega,E,.of,S,H⟩
 refine wp_exit ?_
 refine hK2 _ _ (rr E fun a E=>(wp_ret ?_))
 obtain rfl:=si H
 exact rt1 E ⟨_,rfl,_,rfl,S⟩
def qh.l15:Nat→List Int→qD→List Int→Int→Int→Option (List Int)
 | 0,_,_,_,_,_=>none
 | k+1,x,x1c0_,l12,x13,x14=>if x14<(x.length:Int) then (if 0≤x14∧x14<(x.length:Int) then ((qBn.f k (nth 0 l12 x14) x1c0_).bind fun t33=>(if t33=true then (qh.l15 k x x1c0_ l12 x13 (w64 (x14+1))) else (if 0≤x13∧x13<(x.length:Int) then (qh.l15 k x x1c0_ (l12.set (x13).toNat (nth 0 l12 x14)) (w64 (x13+1)) (w64 (x14+1))) else (none)))) else (none)) else (if 0≤x13∧x13≤(x.length:Int) then (some (cutl (l12.take (x13).toNat++List.replicate (x.length - (x13).toNat) 0) 0 x13)) else (none))
theorem qh.l15_s k x x1c0_ l12 x13 x14:type_of% (qh.l15.eq_2 x x1c0_ l12 x13 x14 k):=qh.l15.eq_2 x x1c0_ l12 x13 x14 k
def qh.f(k:Nat)(x:List Int)(x1c0_:qD):Option (List Int):=(qi.f k x x1c0_).bind fun t4=>(if t4=(-1) then (some x) else (qh.l15 k x x1c0_ x t4 (w64 (t4+1))))
def qh.Post(x:List Int)(x1c0_:qD)(A0_0:OA)(c0_0:Nat)(p1c0_:Nat)(A1c0_4:OA)(c1c0_4:Nat)(A1c0_5:OA)(c1c0_5:Nat)(A1c0_6:OA)(c1c0_6:Nat)(W F:World)(r:List Int)(v:Value)(w':World):Prop:=∃(F':World)(RA0_0:OA)(rc0_0:Nat),v = .slice RA0_0 r.length rc0_0∧St W (mine W [row ki 3 (.slice A0_0 x.length c0_0) x]) F w' F' [row ki 3 (.slice RA0_0 r.length rc0_0) r]
theorem qh.calls(k:Nat)(x:List Int)(x1c0_:qD)(A0_0:OA)(c0_0:Nat)(p1c0_:Nat)(A1c0_4:OA)(c1c0_4:Nat)(A1c0_5:OA)(c1c0_5:Nat)(A1c0_6:OA)(c1c0_6:Nat)(r:List Int)(W F:World)(hown:Own W F [row ki 3 (.slice A0_0 x.length c0_0) x])(g1c0_4:Rd qA.k F A1c0_4 c1c0_4 x1c0_.f4)(g1c0_5:Rd qE.k F A1c0_5 c1c0_5 x1c0_.f5)(g1c0_6:Rd qC.k F A1c0_6 c1c0_6 x1c0_.f6)(hp1c0_:F.heap[p1c0_]? = some (.cells #[iv x1c0_.f0,iv x1c0_.f1,iv x1c0_.f2,iv x1c0_.f3,.slice A1c0_4 x1c0_.f4.length c1c0_4,.slice A1c0_5 x1c0_.f5.length c1c0_5,.slice A1c0_6 x1c0_.f6.length c1c0_6] 26 (0,0)))(H:qh.f k x x1c0_=some r):
    Cr 109 #[.slice A0_0 x.length c0_0,.func (.func 110) #[] #[.pointer (pb p1c0_)]] W (qh.Post x x1c0_ A0_0 c0_0 p1c0_ A1c0_4 c1c0_4 A1c0_5 c1c0_5 A1c0_6 c1c0_6 W F r):=by
 have S:=St.start hown
 obtain ⟨N,hN⟩:∃ N,N=mine W [row ki 3 (.slice A0_0 x.length c0_0) x]:=⟨_,rfl⟩
 rw [← hN]at S
 unfold qh.f at H
 refine ent 42 rfl rfl rfl (fun a E=>?_)
 refine rr E fun a E=>(sq fun K2 hK2=>pl0 (plc E (.r 0 2 .nil) (fun a E=>?_)))
 obtain ⟨t4,h5,H⟩:=bd H
 refine plq E S en72 (qi.calls k x x1c0_ _ _ _ _ _ _ _ _ _ _ _ _ (Sub.refl _) (S.rd_at (i:=0) rfl) (g1c0_4.mono S.own.sub) (g1c0_5.mono S.own.sub) (g1c0_6.mono S.own.sub) (S.own.sub _ _ _ _ hp1c0_) h5) fun u3 S a E=>plc E (.r 3 1 .nil) (fun a E=>pld (hK2 _ _ (sq fun K6 hK6=>rr E fun a E=>(E.ik 12 H (fun c8 E H=>?_) fun c8 E H=>?_))))
 refine rr E fun a E=>(wp_ret (qCQ ?_))
 rw [hN]at S
 obtain rfl:=si H
 exact rt1 E ⟨_,rfl,_,_,_,rfl,S⟩
 refine wp_skip (hK6 _ _ (sq fun K10 hK10=>rr E fun a E=>(wp_block ?_)))
 refine wp_loop_ghost (fun kq16 a w'=>∃(G:NV)(l12:List Int)(x13:Int)(x14:Int),kq16≤k∧Env 42 G a∧At G [(0,.slice A0_0 x.length c0_0),(1,.func (.func 110) #[] #[.pointer (pb p1c0_)]),(5,iv x13),(6,iv x14)]∧St W N F w' F [row ki 3 (.slice A0_0 x.length c0_0) l12]∧qh.l15 kq16 x x1c0_ l12 x13 x14=some r) k ⟨_,x,t4,(w64 (t4+1)),Nat.le_refl _,E,.of,S,H⟩ ?_
 rintro kq16 a u18 ⟨G,l12,x13,x14,hkq,E,A,S,H⟩
 obtain _ | k17:=kq16
 exact zz H
 rw [qh.l15_s]at H
 obtain ⟨J,E⟩:=E.at A
 refine sq fun K19 hK19=>rr E fun a E=>(E.ik 19 H (fun c21 E H=>?_) fun c21 E H=>?_)
 refine wp_skip (hK19 _ _ (sq fun K22 hK22=>wp_block (sq fun K23 hK23=>pl0 ?_)))
 obtain ⟨c24,H⟩:=gd H
 have hr25:=S.ra 0
 have c26:0≤x14∧x14<(l12.length:Int):=by rw [← (qCU hr25).1]; exact c24
 have hE_:=E
 obtain ⟨b27,rfl⟩:=qCW hr25 c26.1 c26.2
 replace E:=hE_
 have hr_:=S.ra 0
 obtain ⟨cs29,rfl,hc30⟩:=qCV hr_ 0 x14 c26.1 c26.2
 refine plc E (.r 0 2<|.x 2 c24<|.c 3 (hc30 0 _ rfl)<|.r 4 1<|.nil) (fun a E=>pld (hK23 _ _ (sq fun K31 hK31=>pl0 (plc E (.r 0 2 .nil) (fun a E=>?_)))))
 obtain ⟨t33,h34,H⟩:=bd H
 refine plq E S en110 (qBn.calls k17 (nth 0 l12 x14) x1c0_ _ _ _ _ _ _ _ _ _ _ S.own.sub g1c0_4 g1c0_5 g1c0_6 hp1c0_ h34) fun u32 S a E=>plc E (.r 3 1 .nil) (fun a E=>pld (hK31 _ _ (E.ibn 29 H (fun c35 E H=>?_) fun c35 E H=>?_)))
 refine wp_skip ?_
 refine qCS ?_
 refine hK22 _ _ (pl0 (plc E (.r 0 3 .nil) (fun a E=>pld ?_)))
 exact qCT ⟨k17,by omega,_,l12,x13,(w64 (x14+1)),by omega,E,.of,S,H⟩
 refine sq fun K36 hK36=>pl0 ?_
 obtain ⟨c37,H⟩:=gd H
 have hr38:=S.ra 0
 have c39:0≤x13∧x13<(l12.length:Int):=by rw [← (qCU hr38).1]; exact c37
 have hr_:=S.ra 0
 obtain ⟨cs41,rfl,hc42⟩:=qCV hr_ 0 x13 c39.1 c39.2
 refine plc E (.r 0 3<|.x 3 c37<|.nil) (fun a E=>?_)
 obtain ⟨cs44,rfl,hc45⟩:=qCV (S.row_at (i:=0) rfl) 0 x13 c39.1 c39.2
 refine ple E (.set (d:=ki) (n:=x.length) (i:=x13) (nth 0 l12 x14) (0) (ea0 _ _) S c39 [iv (nth 0 l12 x13)] hc45 [iv (nth 0 l12 x14)] rfl) ?_
 rintro _ u43 a ⟨rfl,S,hz⟩ E
 refine pld (hK36 _ _ (pl0 (plc E (.r 0 3 .nil) (fun a E=>pld ?_))))
 refine qCS ?_
 refine hK22 _ _ (pl0 (plc E (.r 0 3 .nil) (fun a E=>pld ?_)))
 exact qCT ⟨k17,by omega,_,(l12.set (x13).toNat (nth 0 l12 x14)),(w64 (x13+1)),(w64 (x14+1)),by omega,E,.of,S,H⟩
 refine wp_exit ?_
 refine hK10 _ _ (sq fun K46 hK46=>pl0 ?_)
 obtain ⟨c47,H⟩:=gd H
 obtain ⟨A48,c49,hA50,hv51⟩:=y_suf (P:=Tryz.prog) (k:=.i64) (S.row_at (i:=0) rfl) c47
 refine plc E (.r 0 2<|.y 2 (hv51 (by kernel_rfl))<|.nil) (fun a E=>ple E (.clr (d:=ki) (n:=x.length) (c':=c49) (lo:=x13) 8 0 S c47 hA50 (by rw [zr3]; exact rfl)) ?_)
 rintro _ u52 a ⟨rfl,S,hz⟩ E
 refine pld (hK46 _ _ (sq fun K53 hK53=>pl0 ?_))
 have hv54:=S.ra 0
 replace S:=S.shrink c47
 refine plc E (.r 0 2<|.y 2 (y_pre (k:=.i64) hv54 c47)<|.r 3 1<|.nil) (fun a E=>pld (hK53 _ _ (wp_ret ?_)))
 rw [hN]at S
 obtain rfl:=si H
 exact rt1 E ⟨_,rfl,_,_,_,rfl,S⟩
def qCK.f(k:Nat)(x:qD)(y:List Int):Option (List Int):=(qh.f k y x).bind fun t8=>(some t8)
def qCK.Post(x:qD)(y:List Int)(A0_4:OA)(c0_4:Nat)(A0_5:OA)(c0_5:Nat)(A0_6:OA)(c0_6:Nat)(A1_0:OA)(c1_0:Nat)(W F:World)(r:List Int)(v:Value)(w':World):Prop:=∃(F':World)(RA0_0:OA)(rc0_0:Nat),v = .slice RA0_0 r.length rc0_0∧St W (mine W [row ki 3 (.slice A1_0 y.length c1_0) y]) F w' F' [row ki 3 (.slice RA0_0 r.length rc0_0) r]
theorem qCK.calls(k:Nat)(x:qD)(y:List Int)(A0_4:OA)(c0_4:Nat)(A0_5:OA)(c0_5:Nat)(A0_6:OA)(c0_6:Nat)(A1_0:OA)(c1_0:Nat)(r:List Int)(W F:World)(hown:Own W F [row ki 3 (.slice A1_0 y.length c1_0) y])(g0_4:Rd qA.k F A0_4 c0_4 x.f4)(g0_5:Rd qE.k F A0_5 c0_5 x.f5)(g0_6:Rd qC.k F A0_6 c0_6 x.f6)(H:qCK.f k x y=some r):
    Cr 73 #[.agg #[iv x.f0,iv x.f1,iv x.f2,iv x.f3,.slice A0_4 x.f4.length c0_4,.slice A0_5 x.f5.length c0_5,.slice A0_6 x.f6.length c0_6],.slice A1_0 y.length c1_0] W (qCK.Post x y A0_4 c0_4 A0_5 c0_5 A0_6 c0_6 A1_0 c1_0 W F r):=by
 have S:=St.start hown
 obtain ⟨N,hN⟩:∃ N,N=mine W [row ki 3 (.slice A1_0 y.length c1_0) y]:=⟨_,rfl⟩
 rw [← hN]at S
 unfold qCK.f at H
 refine ent 8 rfl rfl rfl (fun a E=>?_)
 refine sq fun K1 hK1=>pl0 (plx (t:=26) E S [iv x.f0,iv x.f1,iv x.f2,iv x.f3,.slice A0_4 x.f4.length c0_4,.slice A0_5 x.f5.length c0_5,.slice A0_6 x.f6.length c0_6] fun b2 u3 hb2 S a E=>plc E (.r 1 1 .nil) (fun a E=>pld (hK1 _ _ (sq fun K4 hK4=>pl0 (plc E (.r 0 2 .nil) (fun a E=>?_))))))
 obtain ⟨F5,hs,g6,S⟩:=S.giveb
 replace g0_4:=g0_4.mono hs
 replace g0_5:=g0_5.mono hs
 replace g0_6:=g0_6.mono hs
 obtain ⟨t8,h9,H⟩:=bd H
 refine ple E (.cl en109 (qh.calls k y x _ _ _ _ _ _ _ _ _ _ _ _ (Own.left (X:=[row ki 3 (.slice A1_0 y.length c1_0) y]) S.own) g0_4 g0_5 g0_6 g6 h9)) ?_
 rintro _ u7 a ⟨F10,A11,c12,rfl,hC⟩ E
 have hs:=hC.sub
 replace S:=S.called (X:=[row ki 3 (.slice A1_0 y.length c1_0) y]) hC
 replace g0_4:=g0_4.mono hs
 replace g0_5:=g0_5.mono hs
 replace g0_6:=g0_6.mono hs
 replace g6:=hs _ _ _ _ g6
 refine plc E (.r 3 1 .nil) (fun a E=>pld (hK4 _ _ (wp_ret ?_)))
 rw [hN]at S
 obtain rfl:=si H
 exact rt1 E ⟨_,rfl,_,_,_,rfl,S⟩
def qBN.j23:Nat→Int→qN→Bool→Option (Int × Bool)
 | 0,_,_,_=>none
 | k+1,x,y,y22=>if x=(-1) then (some (y.f1,false)) else (if y22=true then (if y.f2≥1 then (some (y.f1,(decide (y.f2≤12)))) else (some (y.f1,false))) else (some (y.f1,false)))
theorem qBN.j23_s k x y y22:type_of% (qBN.j23.eq_2 x y y22 k):=qBN.j23.eq_2 x y y22 k
def qBN.f(k:Nat)(x:Int)(y:qN):Option (Int × Bool):=if y.f0=1 then (if x=(-1) then (if y.f1=0 then (some (0,(y.f2 == 0))) else (some (0,false))) else (some (0,false))) else (if y.f0=3 then (if x=3 then (if y.f1=0 then (some ((-1),(y.f2 == 0))) else (some ((-1),false))) else (some ((-1),false))) else (if y.f0=2 then (if y.f1>x then (if y.f1≤3 then (if y.f1=2 then (qBN.j23 k x y (x == 1)) else (qBN.j23 k x y true)) else (qBN.j23 k x y false)) else (qBN.j23 k x y false)) else (some ((-1),false))))
def qBN.Post(W F:World)(r:Int × Bool)(v:Value)(w':World):Prop:=∃(F':World),v = .tuple #[iv r.1,.bool r.2]∧Sm W F w' F' []
theorem qBN.calls(k:Nat)(x:Int)(y:qN)(r:Int × Bool)(W F:World)(hown:Sub F W)(H:qBN.f k x y=some r):
    Cr 185 #[iv x,.agg #[iv y.f0,iv y.f1,iv y.f2]] W (qBN.Post W F r):=by
 have S:=sT hown
 unfold qBN.f at H
 refine ent 74 rfl rfl rfl (fun a E=>?_)
 refine sq fun K1 hK1=>pl0 (plx (t:=143) E S [iv y.f0,iv y.f1,iv y.f2] fun b2 u3 hb2 S a E=>plc E (.r 1 2 .nil) (fun a E=>pld (hK1 _ _ (sq fun K4 hK4=>rg E (.r 0 1<|.b 1 0 hb2<|.nil) fun a E=>(wp_block (rr E fun a E=>(E.ik 9 H (fun c7 E H=>?_) fun c7 E H=>?_)))))))
 refine sq fun K8 hK8=>?_
 refine drawn 14 ⟨[],[],fun q=>False⟩ mixed rfl (by kernel_rfl) (fun hst=>?_)
 replace S:=S.drew
 refine mny 11 hst E (.r 0 3 .nil) (fun a E=>?_)
 refine E.fk 13 H (fun c9 E H=>?_) fun c9 E H=>?_
 have hb2:=S.ba 0
 refine mny 5 hst E (.r 3 1<|.b 4 1 hb2<|.r 5 3<|.r 12 1<|.nil) (fun a E=>?_)
 refine E.fk 18 H (fun c10 E H=>?_) fun c10 E H=>?_
 refine mny 0 hst E (.r 8 1<|.b 9 2 hb2<|.r 10 2<|.r 13 1<|.nil) (fun a E=>?_)
 refine dn ?_
 refine hK8 _ _ (wp_ret (qCR (qCQ ?_)))
 replace S:=S.tail
 obtain rfl:=si H
 exact rtN E ⟨_,rfl,_,rfl,S⟩
 refine mny 0 hst E (.r 8 4<|.r 13 1<|.nil) (fun a E=>?_)
 refine dn ?_
 refine hK8 _ _ (wp_ret (qCR (qCQ ?_)))
 replace S:=S.tail
 obtain rfl:=si H
 exact rtN E ⟨_,rfl,_,rfl,S⟩
 refine mny 0 hst E (.r 3 11 .nil) (fun a E=>?_)
 refine dn ?_
 refine hK8 _ _ (wp_ret (qCR (qCQ ?_)))
 replace S:=S.tail
 obtain rfl:=si H
 exact rtN E ⟨_,rfl,_,rfl,S⟩
 refine rr E fun a E=>(E.ik 23 H (fun c12 E H=>?_) fun c12 E H=>?_)
 refine sq fun K13 hK13=>?_
 refine drawn 14 ⟨[],[],fun q=>False⟩ mixed rfl (by kernel_rfl) (fun hst=>?_)
 replace S:=S.drew
 refine mny 11 hst E (.r 0 3 .nil) (fun a E=>?_)
 refine E.fk 27 H (fun c14 E H=>?_) fun c14 E H=>?_
 have hb2:=S.ba 0
 refine mny 5 hst E (.r 3 1<|.b 4 1 hb2<|.r 5 3<|.r 12 1<|.nil) (fun a E=>?_)
 refine E.fk 32 H (fun c15 E H=>?_) fun c15 E H=>?_
 refine mny 0 hst E (.r 8 1<|.b 9 2 hb2<|.r 10 2<|.r 13 1<|.nil) (fun a E=>?_)
 refine dn ?_
 refine hK13 _ _ (wp_ret (qCR (qCQ ?_)))
 replace S:=S.tail
 obtain rfl:=si H
 exact rtN E ⟨_,rfl,_,rfl,S⟩
 refine mny 0 hst E (.r 8 4<|.r 13 1<|.nil) (fun a E=>?_)
 refine dn ?_
 refine hK13 _ _ (wp_ret (qCR (qCQ ?_)))
 replace S:=S.tail
 obtain rfl:=si H
 exact rtN E ⟨_,rfl,_,rfl,S⟩
 refine mny 0 hst E (.r 3 11 .nil) (fun a E=>?_)
 refine dn ?_
 refine hK13 _ _ (wp_ret (qCR (qCQ ?_)))
 replace S:=S.tail
 obtain rfl:=si H
 exact rtN E ⟨_,rfl,_,rfl,S⟩
 refine rr E fun a E=>(E.ik 37 H (fun c17 E H=>?_) fun c17 E H=>?_)
 refine sq fun K18 hK18=>?_
 have J26:∀ kq24,kq24≤k→∀(G:NV)(y22:Bool)(a:Act)(w':World),Env 74 G a→At G [(0,iv x),(3,.pointer (pb b2)),(6,.bool y22)]→Sm W F w' F [box b2 #[iv y.f0,iv y.f1,iv y.f2] 143]→qBN.j23 kq24 x y y22=some r→K18 a w':=by
  intro kq24 hkq G y22 a u27 E A S H
  obtain _ | k25:=kq24
  exact zz H
  rw [qBN.j23_s]at H
  obtain ⟨J,E⟩:=E.at A
  refine hK18 _ _ (sq fun K28 hK28=>?_)
  refine drawn 19 ⟨[],[],fun q=>False⟩ mixed rfl (by kernel_rfl) (fun hst=>?_)
  replace S:=S.drew
  have hb2:=S.ba 0
  refine mny 14 hst E (.r 0 1<|.b 1 1 hb2<|.r 2 3<|.nil) (fun a E=>?_)
  refine E.fkn 61 H (fun c29 E H=>?_) fun c29 E H=>?_
  refine mny 0 hst E (.r 5 14 .nil) (fun a E=>?_)
  refine dn ?_
  refine hK28 _ _ (wp_ret (qCR (qCQ ?_)))
  replace S:=S.tail
  obtain rfl:=si H
  exact rtN E ⟨_,rfl,_,rfl,S⟩
  refine mny 11 hst E (.r 5 3 .nil) (fun a E=>?_)
  refine E.fb 64 H (fun c30 E H=>?_) fun c30 E H=>?_
  refine mny 5 hst E (.r 8 1<|.b 9 2 hb2<|.r 10 3<|.r 17 1<|.nil) (fun a E=>?_)
  refine E.fk 69 H (fun c31 E H=>?_) fun c31 E H=>?_
  refine mny 0 hst E (.r 13 1<|.b 14 2 hb2<|.r 15 2<|.r 18 1<|.nil) (fun a E=>?_)
  refine dn ?_
  refine hK28 _ _ (wp_ret (qCR (qCQ ?_)))
  replace S:=S.tail
  obtain rfl:=si H
  exact rtN E ⟨_,rfl,_,rfl,S⟩
  refine mny 0 hst E (.r 13 4<|.r 18 1<|.nil) (fun a E=>?_)
  refine dn ?_
  refine hK28 _ _ (wp_ret (qCR (qCQ ?_)))
  replace S:=S.tail
  obtain rfl:=si H
  exact rtN E ⟨_,rfl,_,rfl,S⟩
  refine mny 0 hst E (.r 8 11 .nil) (fun a E=>?_)
  refine dn ?_
  refine hK28 _ _ (wp_ret (qCR (qCQ ?_)))
  replace S:=S.tail
  obtain rfl:=si H
  exact rtN E ⟨_,rfl,_,rfl,S⟩
 refine pl0 (plc E (.r 0 1<|.b 1 1 hb2<|.r 2 3<|.nil) (fun a E=>E.fk 43 H (fun c19 E H=>?_) fun c19 E H=>?_))
 refine plc E (.r 5 1<|.b 6 1 hb2<|.r 7 3<|.nil) (fun a E=>E.fk 48 H (fun c20 E H=>?_) fun c20 E H=>?_)
 refine plc E (.r 10 1<|.b 11 1 hb2<|.r 12 2<|.nil) (fun a E=>E.fkn 52 H (fun c21 E H=>?_) fun c21 E H=>?_)
 refine plc E (.r 14 5 .nil) (fun a E=>pld ?_)
 exact J26 _ (by omega) _ (x == 1) _ _ E .of S H
 refine plc E (.r 14 5 .nil) (fun a E=>pld ?_)
 exact J26 _ (by omega) _ true _ _ E .of S H
 refine plc E (.r 10 9 .nil) (fun a E=>pld ?_)
 exact J26 _ (by omega) _ false _ _ E .of S H
 refine plc E (.r 5 14 .nil) (fun a E=>pld ?_)
 exact J26 _ (by omega) _ false _ _ E .of S H
 refine wp_skip ?_
 refine qCS ?_
 refine hK4 _ _ (rr E fun a E=>(wp_ret ?_))
 replace S:=S.tail
 obtain rfl:=si H
 exact rtN E ⟨_,rfl,_,rfl,S⟩
mutual
def qAm.j6:Nat→List qN→Bool→Option Int
 | 0,_,_=>none
 | k+1,x,y5=>if y5=true then (some 1) else (qAm.l18 k x (-1) 0)
def qAm.l18:Nat→List qN→Int→Int→Option Int
 | 0,_,_,_=>none
 | k+1,x,x16,x17=>if x17<(x.length:Int) then (if 0≤x17∧x17<(x.length:Int) then ((qBN.f k x16 (nth qN.z x x17)).bind fun t37=>(if t37.2=true then (qAm.l18 k x t37.1 (w64 (x17+1))) else (some 1))) else (none)) else (some 0)
end
theorem qAm.j6_s k x y5:type_of% (qAm.j6.eq_2 x y5 k):=qAm.j6.eq_2 x y5 k
theorem qAm.l18_s k x x16 x17:type_of% (qAm.l18.eq_2 x x16 x17 k):=qAm.l18.eq_2 x x16 x17 k
def qAm.f(k:Nat)(x:List qN):Option Int:=if (x.length:Int)=0 then (qAm.j6 k x true) else (qAm.j6 k x (decide ((x.length:Int)>8)))
def qAm.Post(W F:World)(r:Int)(v:Value)(w':World):Prop:=∃(F':World),v=iv r∧Sm W F w' F' []
theorem qAm.calls(k:Nat)(x:List qN)(A0_0:OA)(c0_0:Nat)(r:Int)(W F:World)(hown:Sub F W)(g0_0:Rd qN.k F A0_0 c0_0 x)(H:qAm.f k x=some r):
    Cr 165 #[.slice A0_0 x.length c0_0] W (qAm.Post W F r):=by
 have S:=sT hown
 unfold qAm.f at H
 refine ent 32 rfl rfl rfl (fun a E=>?_)
 refine rr E fun a E=>(sq fun K2 hK2=>sq fun K3 hK3=>?_)
 have J9:∀ kq7,kq7≤k→∀(G:NV)(y5:Bool)(a:Act)(w':World),Env 32 G a→At G [(0,.slice A0_0 x.length c0_0),(15,.bool y5)]→Sm W F w' F []→qAm.j6 kq7 x y5=some r→K3 a w':=by
  intro kq7 hkq G y5 a u10 E A S H
  obtain _ | k8:=kq7
  exact zz H
  rw [qAm.j6_s]at H
  obtain ⟨J,E⟩:=E.at A
  refine hK3 _ _ (E.ib 15 H (fun c11 E H=>?_) fun c11 E H=>?_)
  refine rr E fun a E=>(wp_ret (qCQ ?_))
  obtain rfl:=si H
  exact rt1 E ⟨_,rfl,_,rfl,S⟩
  refine wp_skip (hK2 _ _ (rr E fun a E=>(sq fun K14 hK14=>rr E fun a E=>(wp_block ?_))))
  refine wp_loop_ghost (fun kq19 a w'=>∃(G:NV)(x16:Int)(x17:Int),kq19≤k8∧Env 32 G a∧At G [(3,iv x16),(16,.slice A0_0 x.length c0_0),(17,iv (x.length:Int)),(18,iv x17)]∧Sm W F w' F []∧qAm.l18 kq19 x x16 x17=some r) k8 ⟨_,(-1),0,Nat.le_refl _,E,.of,S,H⟩ ?_
  rintro kq19 a u21 ⟨G,x16,x17,hkq,E,A,S,H⟩
  obtain _ | k20:=kq19
  exact zz H
  rw [qAm.l18_s]at H
  obtain ⟨J,E⟩:=E.at A
  refine rr E fun a E=>(sq fun K23 hK23=>E.ik 19 H (fun c24 E H=>?_) fun c24 E H=>?_)
  refine wp_skip (hK23 _ _ (sq fun K25 hK25=>wp_block (sq fun K26 hK26=>pl0 ?_)))
  obtain ⟨c27,H⟩:=gd H
  have hE_:=E
  obtain ⟨ad28,rfl⟩:=g0_0.addr c27.1 c27.2
  replace E:=hE_
  obtain ⟨cs30,rfl,hc31⟩:=g0_0.el qN.z x17 c27.1 c27.2
  refine plc E (.x 0 c27<|.cs 1 (S.fcs hc31)<|.nil) (fun a E=>pla (t:=143) E S [iv 0,iv 0,iv 0] fun b32 u33 hb32 S a E=>pls E S [iv ((nth qN.z x x17).f0),iv ((nth qN.z x x17).f1),iv ((nth qN.z x x17).f2)] fun u34 hb32 S a E=>pld (hK26 _ _ (sq fun K35 hK35=>pl0 (plc E (.r 0 1<|.bn 1 0 3 hb32<|.nil) (fun a E=>?_)))))
  obtain ⟨t37,h38,H⟩:=bd H
  refine plq E S en185 (qBN.calls k20 x16 (nth qN.z x x17) _ _ _ S.own.sub h38) fun u36 S a E=>plc E (.r 3 5 .nil) (fun a E=>pld (hK35 _ _ (sq fun K39 hK39=>rr E fun a E=>(E.ibn 29 H (fun c41 E H=>?_) fun c41 E H=>?_))))
  refine wp_skip (hK39 _ _ (pl0 (plc E (.r 0 2 .nil) (fun a E=>pld ?_))))
  refine qCS ?_
  refine hK25 _ _ (pl0 (plc E (.r 0 2 .nil) (fun a E=>pld ?_)))
  replace S:=S.tail
  exact qCT ⟨k20,by omega,_,t37.1,(w64 (x17+1)),by omega,E,.of,S,H⟩
  refine rr E fun a E=>(wp_ret (qCQ (qCR (qCQ (qCQ (qCR (qCQ ?_)))))))
  replace S:=S.tail
  obtain rfl:=si H
  exact rt1 E ⟨_,rfl,_,rfl,S⟩
  refine wp_exit ?_
  refine hK14 _ _ (rr E fun a E=>(wp_ret ?_))
  obtain rfl:=si H
  exact rt1 E ⟨_,rfl,_,rfl,S⟩
 refine pl0 (plc E (.r 0 4 .nil) (fun a E=>E.fk 11 H (fun c4 E H=>?_) fun c4 E H=>?_))
 refine plc E (.r 4 4 .nil) (fun a E=>pld ?_)
 exact J9 _ (by omega) _ true _ _ E .of S H
 refine plc E (.r 4 4 .nil) (fun a E=>pld ?_)
 exact J9 _ (by omega) _ (decide ((x.length:Int)>8)) _ _ E .of S H
def qBa.f(x:qB)(y:Int):Option Int:=(qAu.f x.f0 y).bind fun t6=>(some t6)
def qBa.Post(W F:World)(r:Int)(v:Value)(w':World):Prop:=∃(F':World),v=iv r∧Sm W F w' F' []
theorem qBa.calls(x:qB)(y:Int)(r:Int)(W F:World)(hown:Sub F W)(H:qBa.f x y=some r):
    Cr 163 #[.agg #[iv x.f0,iv x.f1],iv y] W (qBa.Post W F r):=by
 have S:=sT hown
 unfold qBa.f at H
 refine ent 9 rfl rfl rfl (fun a E=>?_)
 refine sq fun K1 hK1=>pl0 (plx (t:=139) E S [iv x.f0,iv x.f1] fun b2 u3 hb2 S a E=>plc E (.r 1 1 .nil) (fun a E=>pld (hK1 _ _ (sq fun K4 hK4=>pl0 (plc E (.r 0 1<|.b 1 0 hb2<|.r 2 1<|.nil) (fun a E=>?_))))))
 obtain ⟨t6,h7,H⟩:=bd H
 refine plq E S en90 (qAu.calls x.f0 y _ _ _ S.own.sub h7) fun u5 S a E=>plc E (.r 4 1 .nil) (fun a E=>pld (hK4 _ _ (wp_ret ?_)))
 replace S:=S.tail
 obtain rfl:=si H
 exact rt1 E ⟨_,rfl,_,rfl,S⟩
def qBp.f(x:qA):Option Bool:=some true
def qBp.Post(W F:World)(r:Bool)(v:Value)(w':World):Prop:=∃(F':World),v = .bool r∧Sm W F w' F' []
theorem qBp.calls(x:qA)(r:Bool)(W F:World)(hown:Sub F W)(H:qBp.f x=some r):
    Cr 138 #[.agg #[iv x.f0,iv x.f1,iv x.f2,iv x.f3,.bool x.f4,.bool x.f5]] W (qBp.Post W F r):=by
 have S:=sT hown
 unfold qBp.f at H
 refine ent 3 rfl rfl rfl (fun a E=>?_)
 refine sq fun K1 hK1=>pl0 (plx (t:=68) E S [iv x.f0,iv x.f1,iv x.f2,iv x.f3,.bool x.f4,.bool x.f5] fun b2 u3 hb2 S a E=>plc E (.r 1 1 .nil) (fun a E=>pld (hK1 _ _ (rr E fun a E=>(wp_ret ?_)))))
 replace S:=S.tail
 obtain rfl:=si H
 exact rt1 E ⟨_,rfl,_,rfl,S⟩
def qBc.f(x:qA):Option Int:=some x.f1
def qBc.Post(W F:World)(r:Int)(v:Value)(w':World):Prop:=∃(F':World),v=iv r∧Sm W F w' F' []
theorem qBc.calls(x:qA)(r:Int)(W F:World)(hown:Sub F W)(H:qBc.f x=some r):
    Cr 139 #[.agg #[iv x.f0,iv x.f1,iv x.f2,iv x.f3,.bool x.f4,.bool x.f5]] W (qBc.Post W F r):=by
 have S:=sT hown
 unfold qBc.f at H
 refine ent 5 rfl rfl rfl (fun a E=>?_)
 refine sq fun K1 hK1=>pl0 (plx (t:=68) E S [iv x.f0,iv x.f1,iv x.f2,iv x.f3,.bool x.f4,.bool x.f5] fun b2 u3 hb2 S a E=>plc E (.r 1 1 .nil) (fun a E=>pld (hK1 _ _ (rg E (.r 0 1<|.b 1 1 hb2<|.r 2 1<|.nil) fun a E=>(wp_ret ?_)))))
 replace S:=S.tail
 obtain rfl:=si H
 exact rt1 E ⟨_,rfl,_,rfl,S⟩
def qJ.l7:Nat→List qB→Int→Int→Int→Option (Int × Bool)
 | 0,_,_,_,_=>none
 | k+1,x,y,x5,x6=>if x5<x6 then (if 0≤(w64 ((IntKind.u64.wrap (w64 (x5+x6))).fdiv 2))∧(w64 ((IntKind.u64.wrap (w64 (x5+x6))).fdiv 2))<(x.length:Int) then ((qBa.f (nth qB.z x (w64 ((IntKind.u64.wrap (w64 (x5+x6))).fdiv 2))) y).bind fun t22=>(if t22<0 then (qJ.l7 k x y (w64 ((w64 ((IntKind.u64.wrap (w64 (x5+x6))).fdiv 2))+1)) x6) else (qJ.l7 k x y x5 (w64 ((IntKind.u64.wrap (w64 (x5+x6))).fdiv 2))))) else (none)) else (if x5<(x.length:Int) then (if 0≤x5∧x5<(x.length:Int) then ((qBa.f (nth qB.z x x5) y).bind fun t33=>(some (x5,(t33 == 0)))) else (none)) else (some (x5,false)))
theorem qJ.l7_s k x y x5 x6:type_of% (qJ.l7.eq_2 x y x5 x6 k):=qJ.l7.eq_2 x y x5 x6 k
def qJ.f(k:Nat)(x:List qB)(y:Int):Option (Int × Bool):=qJ.l7 k x y 0 (x.length:Int)
def qJ.Post(W F:World)(r:Int × Bool)(v:Value)(w':World):Prop:=∃(F':World),v = .tuple #[iv r.1,.bool r.2]∧Sm W F w' F' []
theorem qJ.calls(k:Nat)(x:List qB)(y:Int)(A0_0:OA)(c0_0:Nat)(r:Int × Bool)(W F:World)(hown:Sub F W)(g0_0:Rd qB.k F A0_0 c0_0 x)(H:qJ.f k x y=some r):
    Cr 162 #[.slice A0_0 x.length c0_0,iv y,.func (.func 163) #[] #[]] W (qJ.Post W F r):=by
 have S:=sT hown
 unfold qJ.f at H
 refine ent 49 rfl rfl rfl (fun a E=>?_)
 refine rr E fun a E=>(rr E fun a E=>(rr E fun a E=>(sq fun K4 hK4=>wp_block ?_)))
 refine wp_loop_ghost (fun kq8 a w'=>∃(G:NV)(x5:Int)(x6:Int),kq8≤k∧Env 49 G a∧At G [(0,.slice A0_0 x.length c0_0),(1,iv y),(2,.func (.func 163) #[] #[]),(8,iv (x.length:Int)),(9,iv x5),(10,iv x6)]∧Sm W F w' F []∧qJ.l7 kq8 x y x5 x6=some r) k ⟨_,0,(x.length:Int),Nat.le_refl _,E,.of,S,H⟩ ?_
 rintro kq8 a u10 ⟨G,x5,x6,hkq,E,A,S,H⟩
 obtain _ | k9:=kq8
 exact zz H
 rw [qJ.l7_s]at H
 obtain ⟨J,E⟩:=E.at A
 refine sq fun K11 hK11=>rr E fun a E=>(E.ik 17 H (fun c13 E H=>?_) fun c13 E H=>?_)
 refine wp_skip (hK11 _ _ (wp_block (rr E fun a E=>(sq fun K15 hK15=>pl0 ?_))))
 obtain ⟨c16,H⟩:=gd H
 have hE_:=E
 obtain ⟨ad17,rfl⟩:=g0_0.addr c16.1 c16.2
 replace E:=hE_
 obtain ⟨cs19,rfl,hc20⟩:=g0_0.el qB.z (w64 ((IntKind.u64.wrap (w64 (x5+x6))).fdiv 2)) c16.1 c16.2
 refine plc E (.r 0 3<|.x 3 c16<|.cs 4 (S.fcs hc20)<|.r 5 1<|.nil) (fun a E=>?_)
 obtain ⟨t22,h23,H⟩:=bd H
 refine plq E S en163 (qBa.calls (nth qB.z x (w64 ((IntKind.u64.wrap (w64 (x5+x6))).fdiv 2))) y _ _ _ S.own.sub h23) fun u21 S a E=>plc E (.r 7 1 .nil) (fun a E=>pld (hK15 _ _ (E.ik 31 H (fun c24 E H=>?_) fun c24 E H=>?_)))
 refine pl0 (plc E (.r 0 3 .nil) (fun a E=>pld ?_))
 refine qCS ?_
 exact qCT ⟨k9,by omega,_,(w64 ((w64 ((IntKind.u64.wrap (w64 (x5+x6))).fdiv 2))+1)),x6,by omega,E,.of,S,H⟩
 refine pl0 (plc E (.r 0 2 .nil) (fun a E=>pld ?_))
 refine qCS ?_
 exact qCT ⟨k9,by omega,_,x5,(w64 ((IntKind.u64.wrap (w64 (x5+x6))).fdiv 2)),by omega,E,.of,S,H⟩
 refine wp_exit ?_
 refine hK4 _ _ (sq fun K25 hK25=>pl0 (plc E (.r 0 5 .nil) (fun a E=>E.fk 39 H (fun c26 E H=>?_) fun c26 E H=>?_)))
 obtain ⟨c27,H⟩:=gd H
 have hE_:=E
 obtain ⟨ad28,rfl⟩:=g0_0.addr c27.1 c27.2
 replace E:=hE_
 obtain ⟨cs30,rfl,hc31⟩:=g0_0.el qB.z x5 c27.1 c27.2
 refine plc E (.r 5 3<|.x 8 c27<|.cs 9 (S.fcs hc31)<|.r 10 1<|.nil) (fun a E=>?_)
 obtain ⟨t33,h34,H⟩:=bd H
 refine plq E S en163 (qBa.calls (nth qB.z x x5) y _ _ _ S.own.sub h34) fun u32 S a E=>plc E (.r 12 4 .nil) (fun a E=>pld (hK25 _ _ (wp_ret ?_)))
 obtain rfl:=si H
 exact rtN E ⟨_,rfl,_,rfl,S⟩
 refine plc E (.r 5 11 .nil) (fun a E=>pld (hK25 _ _ (wp_ret ?_)))
 obtain rfl:=si H
 exact rtN E ⟨_,rfl,_,rfl,S⟩
def qz.f(p:List qB)(s:Int)(t:List qB):Option (List qB):=match t with
 | [x]=>if 0≤s∧s≤(p.length:Int)∧p.length≤1000000 then some (p.take s.toNat++x :: p.drop s.toNat) else none
 | _=>none
def qz.Post(p:List qB)(s:Int)(t:List qB)(A0_0:OA)(c0_0:Nat)(A2_0:OA)(c2_0:Nat)(W F:World)(r:List qB)(v:Value)(w':World):Prop:=∃(F':World)(RA0_0:OA)(rc0_0:Nat),v = .slice RA0_0 r.length rc0_0∧St W (mine W [row qB.k 139 (.slice A0_0 p.length c0_0) p,row qB.k 139 (.slice A2_0 t.length c2_0) t]) F w' F' [row qB.k 139 (.slice RA0_0 r.length rc0_0) r]
set_option maxHeartbeats 4000000 in
set_option maxRecDepth 100000 in
theorem qz.calls(p:List qB)(s:Int)(t:List qB)(A0_0:OA)(c0_0:Nat)(A2_0:OA)(c2_0:Nat)(r:List qB)(W F:World)(hown:Own W F [row qB.k 139 (.slice A0_0 p.length c0_0) p,row qB.k 139 (.slice A2_0 t.length c2_0) t])(H:qz.f p s t=some r):
    Cr 164 #[.slice A0_0 p.length c0_0,iv s,.slice A2_0 t.length c2_0] W (qz.Post p s t A0_0 c0_0 A2_0 c2_0 W F r):=by
 have S:=St.start hown
 unfold qz.f at H
 rcases t with _ | ⟨x,_ | ⟨y,l⟩⟩
 ·
  cases H
 rotate_left
 ·
  cases H
 replace H:(if 0≤s∧s≤(p.length:Int)∧p.length≤1000000 then some (p.take s.toNat++x :: p.drop s.toNat) else none)=some r:=H
 by_cases hc:0≤s∧s≤(p.length:Int)∧p.length≤1000000
 rotate_left
 ·
  rw [if_neg hc]at H; cases H
 rw [if_pos hc]at H
 have hr:=Option.some.inj H
 clear H
 obtain ⟨h0,h1,hm⟩:=hc
 obtain ⟨j,rfl⟩:∃ j:Nat,s=j:=⟨s.toNat,by omega⟩
 simp only [Int.toNat_natCast]at hr
 refine enter (n:=95) rfl rfl rfl (Nat.le_of_ble_eq_true rfl) (fun a E=>?_)
 obtain ⟨A12,c12,hA12,hv12⟩:=y_suf (P:=Tryz.prog) (k:=.i64) (S.row_at (i:=0) rfl) ⟨h0,h1⟩
 refine rr E fun a E=>(rg E (.r 0 2<|.y 2 (hv12 (by kernel_rfl)) .nil) fun a E=>(rr E fun a E=>(sq fun K3 hK3=>rr E fun a E=>(cf E (wp_skip (hK3 _ _ (rr E fun a E=>(sq fun K6 hK6=>rr E fun a E=>?_))))))))
 by_cases hi:(j:Int)=(p.length:Int)
 ·
  replace E:=E.kt 22 hi
  refine ct E ?_
  obtain rfl:j=p.length:=by omega
  obtain rfl:p++[x]=r:=by rw [← hr]; simp
  refine sq fun K8 hK8=>pl0 (plc E (.r 0 2 .nil) (fun a E=>ple E (.ap (d:=qB.k) 16 S (qCX (S.row_at (i:=1) rfl)) (by simp only [List.length_cons,List.length_nil]; omega) c2_0) ?_))
  rintro _ w1 a ⟨A1,c1,rfl,S,hz⟩ E
  refine plc E (.r 3 1 .nil) (fun a E=>pld (hK8 _ _ (wp_ret (qCQ ?_))))
  replace S:=S.pm [0] 2
  exact rt1 E ⟨_,rfl,F,_,_,rfl,S⟩
 replace E:=E.kf 22 hi
 refine cf E (wp_skip (hK6 _ _ ?_))
 have hlt:j<p.length:=by omega
 have hxc:p.length≤c0_0∧c0_0≤maxLen:=by
  obtain ⟨_,q1,q2,_⟩:=qCU (S.row_at (i:=0) rfl)
  exact ⟨q1,q2⟩
 have hxc2:[x].length≤c2_0:=(qCU (S.row_at (i:=1) rfl)).2.1
 have hE_:=E
 obtain ⟨g,cur,rfl,hsz,hrep,S⟩:=S.unrow (by omega)
 replace S:=S.front 1 rfl
 obtain ⟨g2,cur2,rfl,hsz2,hrep2,S⟩:=S.unrow (by simp)
 replace E:=hE_
 have hne:g2≠g:=S.ne (i:=0) (j:=1) rfl rfl (by decide)
 obtain ⟨cs,hcs⟩:∃ cs,cs=cur2.toList.take 2:=⟨_,rfl⟩
 have hx:(qB.k).K F x cs:=by
  have h5:=hrep2.2 0 x rfl
  rw [Nat.zero_mul,List.drop_zero,List.take_take]at h5
  rw [hcs]
  exact h5
 have hcl:cs.length=2:=(qB.k).len hx
 have hcget:∀ q u,cs[q]? = some u→cur2[q]? = some u:=fun q u hq=>by
  rw [hcs,List.getElem?_take]at hq
  split at hq
  ·
   rwa [Array.getElem?_toList]at hq
  ·
   cases hq
 have hcone:∀ u ∈ cs,u.oneCell'=true:=(qB.k).one hx
 obtain ⟨inner,hin⟩:∃ inner,inner=cur.toList.take (p.length * 2):=⟨_,rfl⟩
 replace hrep:RepsK qB.k F p inner:=by rw [hin]; exact hrep
 have hil:inner.length=p.length * 2:=hrep.1
 have hione:∀ u ∈ inner.drop (j * 2),u.oneCell'=true:=fun u hu=>hrep.one u (List.mem_of_mem_drop hu)
 have hidl:(inner.drop (j * 2)).length=(p.length - j) * 2:=by rw [List.length_drop,hil,Nat.sub_mul]
 have higet:∀ q u,(inner.drop (j * 2))[q]? = some u→cur[j * 2+q]? = some u:=fun q u hq=>by
  rw [List.getElem?_drop,hin,List.getElem?_take]at hq
  split at hq
  ·
   rwa [Array.getElem?_toList]at hq
  ·
   cases hq
 replace hsz:cur.size=c0_0 * 2:=hsz
 have hw1:w64 ((p.length:Int)+(([x].length:Nat):Int))=((p.length+1:Nat):Int):=by
  simp only [List.length_cons,List.length_nil]
  rw [qCY (by omega) (by omega)]
  omega
 have hw2:w64 ((j:Int)+(([x].length:Nat):Int))=((j+1:Nat):Int):=by
  simp only [List.length_cons,List.length_nil]
  rw [qCY (by omega) (by omega)]
  omega
 refine sq fun K9 hK9=>rg E (.r 0 4<|.y 4 (y_cap (A:=some ⟨g,0,none⟩) (n:=p.length) (c:=c0_0))<|.r 5 1 .nil) fun a E=>?_
 by_cases hroom:w64 ((p.length:Int)+(([x].length:Nat):Int))>(c0_0:Int)
 ·
  replace E:=E.kt 31 hroom
  rw [hw1]at hroom
  refine ct E ?_
  have hw3:w64 (w64 ((p.length:Int)+(([x].length:Nat):Int)) - (j:Int))=((p.length+1 - j:Nat):Int):=by
   rw [hw1,qCY (by omega) (by omega)]
   omega
  refine sq fun K11 hK11=>pl0 (plc E (.r 0 2<|.y 2 (y_hi (e:=139) (z:=2) (g:=g) (n:=p.length) (c:=c0_0) (k:=.i64) (hi:=(j:Int)) ⟨by omega,by omega⟩)<|.r 3 5 .nil) (fun a E=>ple E (.gro (e:=139) (g:=g) (c:=c0_0) (j:=j) (z:=2) (bytes:=16) (k:=w64 (w64 ((p.length:Int)+(([x].length:Nat):Int)) - (j:Int))) S (S.ba 1) (by omega) (by omega) (by rw [hsz]; exact Nat.mul_le_mul_right _ (by omega)) (by rw [hw3]; omega) (by kernel_rfl)) ?_))
  rintro _ w1 a ⟨b,arr,cc,rfl,has,hc1,hc2,hpre,S,hag⟩ E
  rw [hw3]at hc1 E
  have hnb:g2≠b:=S.ne (i:=1) (j:=0) rfl rfl (by decide)
  have hgb:g≠b:=S.ne (i:=2) (j:=0) rfl rfl (by decide)
  have hk3:j+((p.length+1 - j:Nat):Int).toNat=p.length+1:=by rw [Int.toNat_natCast]; omega
  rw [hk3]at hc1 E
  have hpi:arr.toList.take (j * 2)=inner.take (j * 2):=by
   rw [hpre,hin,List.take_take,Nat.min_eq_left (Nat.mul_le_mul_right _ (by omega))]
  obtain ⟨s1,s2,s3⟩:=qDk (sz:=2) (n:=p.length) (i:=j) (cap:=cc) (c0:=arr.toList) (inner:=inner) (cs:=cs) hpi hil hcl (by omega) hc1 (by rw [Array.length_toList]; exact has)
  obtain ⟨C1,hC1⟩:∃ C1,C1=arr.toList.take (j * 2)++cs++arr.toList.drop (j * 2+cs.length):=⟨_,rfl⟩
  rw [← hC1]at s1 s2 s3
  obtain ⟨C2,hC2⟩:∃ C2,C2=C1.take ((j+1) * 2)++inner.drop (j * 2)++C1.drop ((j+1) * 2+(inner.drop (j * 2)).length):=⟨_,rfl⟩
  rw [← hC2]at s1 s2
  refine plc E (.r 9 1 .nil) (fun a E=>pld (hK11 _ _ (sq fun K12 hK12=>pl0 (plc E (.r 0 2<|.y 2 (y_lo (e:=139) (z:=2) (g:=b) (n:=p.length+1) (c:=cc) (k:=.i64) (lo:=(j:Int)) ⟨by omega,by omega⟩ (by omega))<|.r 3 1 .nil) (fun a E=>?_)))))
  have hb2:=S.ba 1
  have hbg:=S.ba 2
  have hmin1:Nat.min [x].length (p.length+1 - (j:Int).toNat)=1:=by
   rw [Int.toNat_natCast]
   simp only [List.length_cons,List.length_nil]
   exact Nat.min_eq_left (by omega)
  refine ple E (.cpy (e:=139) (z:=2) (off:=(j:Int).toNat * 2) (dn:=p.length+1 - (j:Int).toNat) (dc:=cc - (j:Int).toNat) (sn:=[x].length) (sc:=c2_0) (sa:=⟨g2,0,none⟩) S cs (by rw [hmin1,hcl]) (fun q u hq=>by rw [qCc,Nat.zero_add]; exact qCZ hb2 (hcget q u hq)) hcone (by
      rw [Int.toNat_natCast,has,hcl]
      have:=Nat.mul_le_mul_right 2 (show j+1≤cc by omega)
      omega) (by kernel_rfl)) ?_
  rintro _ w2 a ⟨rfl,S,hz,hnew,hoth⟩ E
  simp only [Int.toNat_natCast]at S hnew
  rw [← hC1]at S hnew
  refine pld (hK12 _ _ (sq fun K13 hK13=>?_))
  refine drawn 9 ⟨[8],[],fun q=>False⟩ mixed rfl (by kernel_rfl) (fun hst=>?_)
  replace S:=S.drew
  have hbg2:=S.ba 2
  refine mny 1 hst E (.r 0 4<|.y 4 (y_lo (e:=139) (z:=2) (g:=b) (n:=p.length+1) (c:=cc) (k:=.i64) (lo:=w64 ((j:Int)+(([x].length:Nat):Int))) ⟨by omega,by omega⟩ (by omega))<|.r 5 2<|.y 7 (y_lo (e:=139) (z:=2) (g:=g) (n:=p.length) (c:=c0_0) (k:=.i64) (lo:=(j:Int)) ⟨by omega,by omega⟩ (by omega)) .nil) (fun a E=>?_)
  refine on1 8 E (.cpy (e:=139) (z:=2) (off:=(w64 ((j:Int)+(([x].length:Nat):Int))).toNat * 2) (dn:=p.length+1 - (w64 ((j:Int)+(([x].length:Nat):Int))).toNat) (dc:=cc - (w64 ((j:Int)+(([x].length:Nat):Int))).toNat) (sn:=p.length - (j:Int).toNat) (sc:=c0_0 - (j:Int).toNat) (sa:=⟨g,(j:Int).toNat * 2,none⟩) S (inner.drop (j * 2)) (by
      rw [hw2,Int.toNat_natCast,Int.toNat_natCast,hidl,show p.length+1 - (j+1)=p.length - j by omega]
      congr 1
      exact (Nat.min_self _).symm) (fun q u hq=>by rw [qCc,Int.toNat_natCast]; exact qCZ hbg2 (higet q u hq)) hione (by
      rw [hw2,Int.toNat_natCast,hidl,List.size_toArray,s3,← Nat.add_mul]
      exact Nat.mul_le_mul_right _ (by omega)) (by kernel_rfl)) ?_
  rintro _ w3 a ⟨rfl,S,hz,hnew,hoth⟩ E
  refine ⟨.d,?_⟩
  refine dn ?_
  rw [hw2,Int.toNat_natCast]at S
  simp only [List.toList_toArray]at S
  rw [← hC2]at S
  refine hK13 _ _ (rr E fun a E=>(wp_ret (qCQ ?_)))
  have hrl:r.length=p.length+1:=by rw [← hr]; simp; omega
  have hrr:RepsK qB.k F r (C2.toArray.toList.take (r.length * (qB.k).sz)):=by
   rw [hrl]
   show RepsK qB.k F r (C2.take ((p.length+1) * 2))
   rw [s1,← hr]
   exact qCq hrep hx (by omega) rfl
  have hS2:=S.rerow (c:=cc) r (show C2.toArray.size=cc * 2 by simpa using s2) (by omega) hc2 hrr
  replace hS2:=hS2.front 1 rfl
  replace hS2:=hS2.tail
  replace hS2:=hS2.front 1 rfl
  replace hS2:=hS2.tail
  rw [← hrl]at E
  exact rt1 E ⟨_,rfl,F,_,_,rfl,hS2⟩
 replace E:=E.kf 31 hroom
 rw [hw1]at hroom
 have hrm:p.length+1≤c0_0:=by omega
 refine cf E (wp_skip (hK9 _ _ ?_))
 obtain ⟨s1,s2,s3⟩:=qEJ (sz:=2) (n:=p.length) (i:=j) (cap:=c0_0) (cur:=cur.toList) (inner:=inner) (cs:=cs) hin.symm hcl (by omega) hrm (by rw [Array.length_toList]; exact hsz)
 obtain ⟨C1,hC1⟩:∃ C1,C1=cur.toList.take ((j+1) * 2)++inner.drop (j * 2)++cur.toList.drop ((j+1) * 2+(inner.drop (j * 2)).length):=⟨_,rfl⟩
 rw [← hC1]at s1 s2 s3
 obtain ⟨C2,hC2⟩:∃ C2,C2=C1.take (j * 2)++cs++C1.drop (j * 2+cs.length):=⟨_,rfl⟩
 rw [← hC2]at s1 s2
 refine rg E (.r 0 4<|.y 4 (y_hi (e:=139) (z:=2) (g:=g) (n:=p.length) (c:=c0_0) (k:=.i64) (hi:=w64 ((p.length:Int)+(([x].length:Nat):Int))) ⟨by omega,by omega⟩)<|.r 5 1 .nil) fun a E=>?_
 have hn1:(w64 ((p.length:Int)+(([x].length:Nat):Int))).toNat=p.length+1:=by rw [hw1,Int.toNat_natCast]
 rw [hn1]at E
 refine sq fun K16 hK16=>sq fun K17 hK17=>pl0 (plc E (.r 0 5<|.y 5 (y_lo (e:=139) (z:=2) (g:=g) (n:=p.length+1) (c:=c0_0) (k:=.i64) (lo:=w64 ((j:Int)+(([x].length:Nat):Int))) ⟨by omega,by omega⟩ (by omega)) .nil) (fun a E=>?_))
 have hb2:=S.ba 0
 have hbg:=S.ba 1
 have hcz:cur.size≠0:=by rw [hsz]; exact Nat.mul_ne_zero (by omega) (by decide)
 refine ple E (.ext (f:=183) (args:=[.slice (pb g2) [x].length c2_0,.slice (some ⟨g,(w64 ((j:Int)+(([x].length:Nat):Int))).toNat * 2,none⟩) (p.length+1 - (w64 ((j:Int)+(([x].length:Nat):Int))).toNat) (c0_0 - (w64 ((j:Int)+(([x].length:Nat):Int))).toNat)]) (v:=.bool false) (R:=fun v w'=>v = .bool false∧w'=_) (by
    rw [run_callFunc_extern Tryz.func183 (by kernel_rfl) (by kernel_rfl) (by kernel_rfl) (e:=Extern.SlicesOverlaps.overlaps #[136,136] #[4]) (by kernel_rfl)]
    refine (congrArg (fun r:Result Value=>r.andThen fun v w'=>Result.ok (Next.value v) w') (Lib.run_overlaps_apart _ 136 4 139 Tryz.underlying136 2 (fun _=>by kernel_rfl) ⟨g2,0,none⟩ ⟨g,(w64 ((j:Int)+(([x].length:Nat):Int))).toNat * 2,none⟩ [x].length c2_0 _ _ hne 139 139 cur2.size cur.size (by simp [World.shape?,hb2]) (by simp [World.shape?,hbg]) hcz (by simp [World.frozen?,hb2]) (by simp [World.frozen?,hb2]))).trans rfl) ⟨rfl,rfl⟩) ?_
 rintro _ _ a ⟨rfl,rfl⟩ E
 refine plc E (.r 7 1 .nil) (fun a E=>pld (hK17 _ _ (ct E (sq fun K18 hK18=>?_))))
 refine drawn 9 ⟨[8],[],fun q=>False⟩ mixed rfl (by kernel_rfl) (fun hst=>?_)
 replace S:=S.drew
 replace S:=S.front 1 rfl
 have hbg2:=S.ba 0
 refine mny 1 hst E (.r 0 4<|.y 4 (y_lo (e:=139) (z:=2) (g:=g) (n:=p.length+1) (c:=c0_0) (k:=.i64) (lo:=w64 ((j:Int)+(([x].length:Nat):Int))) ⟨by omega,by omega⟩ (by omega))<|.r 5 2<|.y 7 (y_lo (e:=139) (z:=2) (g:=g) (n:=p.length+1) (c:=c0_0) (k:=.i64) (lo:=(j:Int)) ⟨by omega,by omega⟩ (by omega)) .nil) (fun a E=>?_)
 refine on1 8 E (.cpy (e:=139) (z:=2) (off:=(w64 ((j:Int)+(([x].length:Nat):Int))).toNat * 2) (dn:=p.length+1 - (w64 ((j:Int)+(([x].length:Nat):Int))).toNat) (dc:=c0_0 - (w64 ((j:Int)+(([x].length:Nat):Int))).toNat) (sn:=p.length+1 - (j:Int).toNat) (sc:=c0_0 - (j:Int).toNat) (sa:=⟨g,(j:Int).toNat * 2,none⟩) S (inner.drop (j * 2)) (by
    rw [hw2,Int.toNat_natCast,Int.toNat_natCast,hidl,show p.length+1 - (j+1)=p.length - j by omega]
    congr 1
    exact (Nat.min_eq_right (by omega)).symm) (fun q u hq=>by rw [qCc,Int.toNat_natCast]; exact qCZ hbg2 (higet q u hq)) hione (by
    rw [hw2,Int.toNat_natCast,hidl,hsz,← Nat.add_mul]
    exact Nat.mul_le_mul_right _ (by omega)) (by kernel_rfl)) ?_
 rintro _ w2 a ⟨rfl,S,hz,hnew,hoth⟩ E
 refine ⟨.d,?_⟩
 refine dn ?_
 rw [hw2,Int.toNat_natCast,← hC1]at S
 refine hK18 _ _ (sq fun K19 hK19=>pl0 ?_)
 have hb3:=S.ba 1
 refine plc E (.r 0 2<|.y 2 (y_lo (e:=139) (z:=2) (g:=g) (n:=p.length+1) (c:=c0_0) (k:=.i64) (lo:=(j:Int)) ⟨by omega,by omega⟩ (by omega))<|.r 3 1 .nil) (fun a E=>?_)
 have hmin1:Nat.min [x].length (p.length+1 - (j:Int).toNat)=1:=by
  rw [Int.toNat_natCast]
  simp only [List.length_cons,List.length_nil]
  exact Nat.min_eq_left (by omega)
 refine ple E (.cpy (e:=139) (z:=2) (off:=(j:Int).toNat * 2) (dn:=p.length+1 - (j:Int).toNat) (dc:=c0_0 - (j:Int).toNat) (sn:=[x].length) (sc:=c2_0) (sa:=⟨g2,0,none⟩) S cs (by rw [hmin1,hcl]) (fun q u hq=>by rw [qCc,Nat.zero_add]; exact qCZ hb3 (hcget q u hq)) hcone (by
    rw [Int.toNat_natCast,List.size_toArray,s3,hcl]
    have:=Nat.mul_le_mul_right 2 (show j+1≤c0_0 by omega)
    omega) (by kernel_rfl)) ?_
 rintro _ w3 a ⟨rfl,S,hz,hnew,hoth⟩ E
 simp only [Int.toNat_natCast,List.toList_toArray]at S
 rw [← hC2]at S
 refine pld (hK19 _ _ (rr E fun a E=>(wp_ret (qCQ ?_))))
 have hrl:r.length=p.length+1:=by rw [← hr]; simp; omega
 have hrr:RepsK qB.k F r (C2.toArray.toList.take (r.length * (qB.k).sz)):=by
  rw [hrl]
  show RepsK qB.k F r (C2.take ((p.length+1) * 2))
  rw [s1,← hr]
  exact qCq hrep hx (by omega) rfl
 have hS2:=S.rerow (c:=c0_0) r (show C2.toArray.size=c0_0 * 2 by simpa using s2) (by omega) hxc.2 hrr
 replace hS2:=hS2.front 1 rfl
 replace hS2:=hS2.tail
 rw [← hrl]at E
 exact rt1 E ⟨_,rfl,F,_,_,rfl,hS2⟩
mutual
def qU.l19:Nat→List qA→List qB→Int→Option (List qB)
 | 0,_,_,_=>none
 | k+1,x,l16,x17=>if x17<(x.length:Int) then (if 0≤x17∧x17<(x.length:Int) then ((qBp.f (nth qA.z x x17)).bind fun t39=>(if t39=true then ((qBc.f (nth qA.z x x17)).bind fun t44=>((qJ.f k l16 t44).bind fun t47=>(if t47.2=true then (qU.j72 k x x17 t47 l16) else ((qBc.f (nth qA.z x x17)).bind fun t53=>((qz.f l16 t47.1 [(⟨t53,0⟩:qB)]).bind fun t60=>(qU.j72 k x x17 t47 t60)))))) else (qU.l19 k x l16 (w64 (x17+1))))) else (none)) else (some l16)
def qU.j72:Nat→List qA→Int→Int × Bool→List qB→Option (List qB)
 | 0,_,_,_,_=>none
 | k+1,x,x17,t47,l70=>if ((nth qA.z x x17).f5)=true then (if 0≤t47.1∧t47.1<(l70.length:Int) then (qU.l19 k x (l70.set (t47.1).toNat (⟨(nth qB.z l70 t47.1).f0,(if (w64 ((nth qB.z l70 t47.1).f1+(nth qA.z x x17).f3))<65536 then (w64 ((nth qB.z l70 t47.1).f1+(nth qA.z x x17).f3)) else 65536)⟩:qB)) (w64 (x17+1))) else (none)) else (qU.l19 k x l70 (w64 (x17+1)))
end
theorem qU.l19_s k x l16 x17:type_of% (qU.l19.eq_2 x l16 x17 k):=qU.l19.eq_2 x l16 x17 k
theorem qU.j72_s k x x17 t47 l70:type_of% (qU.j72.eq_2 x x17 t47 l70 k):=qU.j72.eq_2 x x17 t47 l70 k
def qU.f(k:Nat)(x:List qA):Option (List qB):=(qAQ.f k x).bind fun t6=>(if t6=0 then (qU.l19 k x [] 0) else (some []))
def qU.Post(W F:World)(r:List qB)(v:Value)(w':World):Prop:=∃(F':World)(RA0_0:OA)(rc0_0:Nat),v = .slice RA0_0 r.length rc0_0∧Sm W F w' F' [row qB.k 139 (.slice RA0_0 r.length rc0_0) r]
theorem qU.calls(k:Nat)(x:List qA)(A0_0:OA)(c0_0:Nat)(r:List qB)(W F:World)(hown:Sub F W)(g0_0:Rd qA.k F A0_0 c0_0 x)(H:qU.f k x=some r):
    Cr 137 #[.slice A0_0 x.length c0_0,.func (.func 138) #[] #[],.func (.func 139) #[] #[]] W (qU.Post W F r):=by
 have S:=sT hown
 unfold qU.f at H
 refine ent 60 rfl rfl rfl (fun a E=>?_)
 refine rr E fun a E=>(rr E fun a E=>(sq fun K3 hK3=>sq fun K4 hK4=>pl0 (plc E (.r 0 1 .nil) (fun a E=>?_))))
 obtain ⟨t6,h7,H⟩:=bd H
 refine plq E S en74 (qAQ.calls k x _ _ _ _ _ S.own.sub g0_0 h7) fun u5 S a E=>plc E (.r 2 1 .nil) (fun a E=>pld (hK4 _ _ (E.ikn 14 H (fun c8 E H=>?_) fun c8 E H=>?_)))
 refine wp_skip (hK3 _ _ (sq fun K11 hK11=>rr E fun a E=>(wp_block ?_)))
 replace S:=S.nilrow qB.k 139
 refine wp_loop_ghost (fun kq20 a w'=>∃(G:NV)(A14:OA)(c15:Nat)(l16:List qB)(x17:Int)(F18:World),kq20≤k∧Env 60 G a∧At G [(1,.func (.func 138) #[] #[]),(2,.func (.func 139) #[] #[]),(7,.slice A14 l16.length c15),(15,.slice A0_0 x.length c0_0),(16,iv (x.length:Int)),(17,iv x17)]∧Sm W F w' F18 [row qB.k 139 (.slice A14 l16.length c15) l16]∧Rd qA.k F18 A0_0 c0_0 x∧qU.l19 kq20 x l16 x17=some r) k ⟨_,none,0,[],0,F,Nat.le_refl _,E,.of,S,g0_0,H⟩ ?_
 rintro kq20 a u22 ⟨G,A14,c15,l16,x17,F18,hkq,E,A,S,g0_0,H⟩
 obtain _ | k21:=kq20
 exact zz H
 rw [qU.l19_s]at H
 obtain ⟨J,E⟩:=E.at A
 refine rr E fun a E=>(sq fun K24 hK24=>E.ik 18 H (fun c25 E H=>?_) fun c25 E H=>?_)
 refine wp_skip (hK24 _ _ (sq fun K26 hK26=>wp_block (sq fun K27 hK27=>pl0 ?_)))
 obtain ⟨c28,H⟩:=gd H
 have hE_:=E
 obtain ⟨ad29,rfl⟩:=g0_0.addr c28.1 c28.2
 replace E:=hE_
 obtain ⟨cs31,rfl,hc32⟩:=g0_0.el qA.z x17 c28.1 c28.2
 refine plc E (.x 0 c28<|.cs 1 (S.fcs hc32)<|.nil) (fun a E=>pla (t:=68) E S [iv 0,iv 0,iv 0,iv 0,.bool false,.bool false] fun b33 u34 hb33 S a E=>pls E S [iv ((nth qA.z x x17).f0),iv ((nth qA.z x x17).f1),iv ((nth qA.z x x17).f2),iv ((nth qA.z x x17).f3),.bool ((nth qA.z x x17).f4),.bool ((nth qA.z x x17).f5)] fun u35 hb33 S a E=>pld (hK27 _ _ (sq fun K36 hK36=>sq fun K37 hK37=>pl0 (plc E (.r 0 1<|.bn 1 0 6 hb33<|.nil) (fun a E=>?_)))))
 obtain ⟨t39,h40,H⟩:=bd H
 refine plq E S en138 (qBp.calls (nth qA.z x x17) _ _ _ S.own.sub h40) fun u38 S a E=>plc E (.r 3 1 .nil) (fun a E=>pld (hK37 _ _ (E.ibn 24 H (fun c41 E H=>?_) fun c41 E H=>?_)))
 refine wp_skip (hK36 _ _ (sq fun K42 hK42=>pl0 ?_))
 have hb33:=S.ba 0
 refine plc E (.r 0 2<|.bn 2 0 6 hb33<|.nil) (fun a E=>?_)
 obtain ⟨t44,h45,H⟩:=bd H
 refine plq E S en139 (qBc.calls (nth qA.z x x17) _ _ _ S.own.sub h45) fun u43 S a E=>?_
 obtain ⟨t47,h48,H⟩:=bd H
 refine plq E S en162 (qJ.calls k21 l16 t44 _ _ _ _ _ (Sub.refl _) (S.rd_at (i:=1) rfl) h48) fun u46 S a E=>plc E (.r 5 5 .nil) (fun a E=>pld (hK42 _ _ (sq fun K49 hK49=>?_)))
 have J75:∀ kq73,kq73≤k21→∀(G:NV)(A68:OA)(c69:Nat)(l70:List qB)(F71:World)(a:Act)(w':World),Env 60 G a→At G [(1,.func (.func 138) #[] #[]),(2,.func (.func 139) #[] #[]),(7,.slice A68 l70.length c69),(9,.pointer (pb b33)),(10,iv t47.1),(15,.slice (some ad29) x.length c0_0),(16,iv (x.length:Int)),(17,iv x17)]→Sm W F w' F71 [box b33 #[iv ((nth qA.z x x17).f0),iv ((nth qA.z x x17).f1),iv ((nth qA.z x x17).f2),iv ((nth qA.z x x17).f3),.bool ((nth qA.z x x17).f4),.bool ((nth qA.z x x17).f5)] 68,row qB.k 139 (.slice A68 l70.length c69) l70]→Rd qA.k F71 (some ad29) c0_0 x→qU.j72 kq73 x x17 t47 l70=some r→K49 a w':=by
  intro kq73 hkq G A68 c69 l70 F71 a u76 E A S g0_0 H
  obtain _ | k74:=kq73
  exact zz H
  rw [qU.j72_s]at H
  obtain ⟨J,E⟩:=E.at A
  refine hK49 _ _ (sq fun K77 hK77=>pl0 ?_)
  have hb33:=S.ba 0
  refine plc E (.r 0 1<|.b 1 5 hb33<|.nil) (fun a E=>pld (hK77 _ _ (E.ib 44 H (fun c78 E H=>?_) fun c78 E H=>?_)))
  refine drawn 14 ⟨[13],[],fun q=>False⟩ mixed rfl (by kernel_rfl) (fun hst=>?_)
  replace S:=S.drew
  obtain ⟨c79,H⟩:=gd H
  have hr80:=S.ra 1
  have hE_:=E
  obtain ⟨b81,rfl⟩:=qCW hr80 c79.1 c79.2
  replace E:=hE_
  have hr_:=S.ra 1
  obtain ⟨cs83,rfl,hc84⟩:=qCV hr_ qB.z t47.1 c79.1 c79.2
  have hb33:=S.ba 0
  have hr85:=S.ra 1
  refine mny 1 hst E (.r 0 4<|.x 4 c79<|.r 5 1<|.c 6 (hc84 1 _ rfl)<|.r 7 1<|.b 8 3 hb33<|.r 9 2<|.x 11 c79<|.r 12 1<|.nil) (fun a E=>?_)
  replace S:=S.front 1 rfl
  obtain ⟨cs90,rfl,hc91⟩:=qCV (S.row_at (i:=0) rfl) qB.z t47.1 c79.1 c79.2
  refine on1 13 E (.set (d:=qB.k) (n:=l70.length) (i:=t47.1) (⟨(nth qB.z l70 t47.1).f0,(if (w64 ((nth qB.z l70 t47.1).f1+(nth qA.z x x17).f3))<65536 then (w64 ((nth qB.z l70 t47.1).f1+(nth qA.z x x17).f3)) else 65536)⟩:qB) 1 (ea1 _ _ _) S c79 [iv ((nth qB.z l70 t47.1).f0),iv ((nth qB.z l70 t47.1).f1)] hc91 [iv ((nth qB.z l70 t47.1).f0),iv (if (w64 ((nth qB.z l70 t47.1).f1+(nth qA.z x x17).f3))<65536 then (w64 ((nth qB.z l70 t47.1).f1+(nth qA.z x x17).f3)) else 65536)] rfl) ?_
  rintro _ u89 a ⟨rfl,S,hz⟩ E
  refine ⟨.d,?_⟩
  refine dn ?_
  refine qCS ?_
  refine hK26 _ _ (pl0 (plc E (.r 0 2 .nil) (fun a E=>pld ?_)))
  have hn92:=(qCU (S.row_at (i:=0) rfl)).1
  replace E:=E.set (d:=7) (v:=.slice (pb b81) ((l70.set (t47.1).toNat (⟨(nth qB.z l70 t47.1).f0,(if (w64 ((nth qB.z l70 t47.1).f1+(nth qA.z x x17).f3))<65536 then (w64 ((nth qB.z l70 t47.1).f1+(nth qA.z x x17).f3)) else 65536)⟩:qB)).length) c69) (Eq.trans (b:=.slice (pb b81) l70.length c69) (by kernel_rfl) (by rw [← hn92]))
  replace S:Sm W F u89 F71 [row qB.k 139 (.slice (pb b81) ((l70.set (t47.1).toNat (⟨(nth qB.z l70 t47.1).f0,(if (w64 ((nth qB.z l70 t47.1).f1+(nth qA.z x x17).f3))<65536 then (w64 ((nth qB.z l70 t47.1).f1+(nth qA.z x x17).f3)) else 65536)⟩:qB)).length) c69) (l70.set (t47.1).toNat (⟨(nth qB.z l70 t47.1).f0,(if (w64 ((nth qB.z l70 t47.1).f1+(nth qA.z x x17).f3))<65536 then (w64 ((nth qB.z l70 t47.1).f1+(nth qA.z x x17).f3)) else 65536)⟩:qB)),box b33 #[iv ((nth qA.z x x17).f0),iv ((nth qA.z x x17).f1),iv ((nth qA.z x x17).f2),iv ((nth qA.z x x17).f3),.bool ((nth qA.z x x17).f4),.bool ((nth qA.z x x17).f5)] 68]:=by rw [← hn92]; exact S
  replace S:=S.pm [0] 2
  exact qCT ⟨k74,by omega,_,(pb b81),c69,(l70.set (t47.1).toNat (⟨(nth qB.z l70 t47.1).f0,(if (w64 ((nth qB.z l70 t47.1).f1+(nth qA.z x x17).f3))<65536 then (w64 ((nth qB.z l70 t47.1).f1+(nth qA.z x x17).f3)) else 65536)⟩:qB)),(w64 (x17+1)),F71,by omega,E,.of,S,g0_0,H⟩
  refine wp_skip ?_
  refine qCS ?_
  refine hK26 _ _ (pl0 (plc E (.r 0 2 .nil) (fun a E=>pld ?_)))
  replace S:=S.tail
  exact qCT ⟨k74,by omega,_,A68,c69,l70,(w64 (x17+1)),F71,by omega,E,.of,S,g0_0,H⟩
 refine rr E fun a E=>(E.ibn 34 H (fun c51 E H=>?_) fun c51 E H=>?_)
 refine wp_skip ?_
 exact J75 _ (by omega) _ A14 c15 l16 F18 _ _ E .of S g0_0 H
 refine pl0 (plc E (.r 0 3<|.bn 3 0 6 (S.ba 0)<|.nil) (fun a E=>?_))
 obtain ⟨t53,h54,H⟩:=bd H
 refine plq E S en139 (qBc.calls (nth qA.z x x17) _ _ _ S.own.sub h54) fun u52 S a E=>plc E (.r 5 1 .nil) (fun a E=>ple E (.lit (d:=qB.k) (e:=139) S [(⟨t53,0⟩:qB)] (.cons rfl .nil)) ?_)
 rintro _ u55 a ⟨A56,c57,rfl,S,hg⟩ E
 replace S:=S.front 2 rfl
 obtain ⟨t60,h61,H⟩:=bd H
 refine ple E (.cl en164 (qz.calls l16 t47.1 [(⟨t53,0⟩:qB)] _ _ _ _ _ _ _ (Own.left (X:=[row qB.k 139 (.slice A14 l16.length c15) l16,row qB.k 139 (.slice A56 ([(⟨t53,0⟩:qB)].length) c57) [(⟨t53,0⟩:qB)]]) S.own) h61)) ?_
 rintro _ u59 a ⟨F62,A63,c64,rfl,hC⟩ E
 have hs:=hC.sub
 replace S:=S.called (X:=[row qB.k 139 (.slice A14 l16.length c15) l16,row qB.k 139 (.slice A56 ([(⟨t53,0⟩:qB)].length) c57) [(⟨t53,0⟩:qB)]]) hC
 replace g0_0:=g0_0.mono hs
 refine plc E (.r 8 1 .nil) (fun a E=>pld ?_)
 replace S:=S.front 1 rfl
 exact J75 _ (by omega) _ A63 c64 t60 F62 _ _ E .of S g0_0 H
 refine wp_exit ?_
 refine hK26 _ _ (pl0 (plc E (.r 0 2 .nil) (fun a E=>pld ?_)))
 replace S:=S.tail
 exact qCT ⟨k21,by omega,_,A14,c15,l16,(w64 (x17+1)),F18,by omega,E,.of,S,g0_0,H⟩
 refine wp_exit ?_
 refine hK11 _ _ (rr E fun a E=>(wp_ret ?_))
 obtain rfl:=si H
 exact rt1 E ⟨_,rfl,_,_,_,rfl,S⟩
 refine rr E fun a E=>(wp_ret (qCQ ?_))
 replace S:=S.nilrow qB.k 139
 obtain rfl:=si H
 exact rt1 E ⟨_,rfl,_,_,_,rfl,S⟩
def qBo.f(k:Nat)(x:List qA):Option (List qB):=(qU.f k x).bind fun t4=>(some t4)
def qBo.Post(W F:World)(r:List qB)(v:Value)(w':World):Prop:=∃(F':World)(RA0_0:OA)(rc0_0:Nat),v = .slice RA0_0 r.length rc0_0∧Sm W F w' F' [row qB.k 139 (.slice RA0_0 r.length rc0_0) r]
theorem qBo.calls(k:Nat)(x:List qA)(A0_0:OA)(c0_0:Nat)(r:List qB)(W F:World)(hown:Sub F W)(g0_0:Rd qA.k F A0_0 c0_0 x)(H:qBo.f k x=some r):
    Cr 113 #[.slice A0_0 x.length c0_0] W (qBo.Post W F r):=by
 have S:=sT hown
 unfold qBo.f at H
 refine ent 5 rfl rfl rfl (fun a E=>?_)
 refine rr E fun a E=>(sq fun K2 hK2=>pl0 (plc E (.r 0 1 .nil) (fun a E=>?_)))
 obtain ⟨t4,h5,H⟩:=bd H
 refine ple E (.cl en137 (qU.calls k x _ _ _ _ _ S.own.sub g0_0 h5)) ?_
 rintro _ u3 a ⟨F6,A7,c8,rfl,hC⟩ E
 have hs:=hC.sub
 replace S:=S.called (X:=[]) hC
 replace g0_0:=g0_0.mono hs
 refine plc E (.r 2 1 .nil) (fun a E=>pld (hK2 _ _ (wp_ret ?_)))
 obtain rfl:=si H
 exact rt1 E ⟨_,rfl,_,_,_,rfl,S⟩
def qBd.f(x:qA):Option Int:=some x.f2
def qBd.Post(W F:World)(r:Int)(v:Value)(w':World):Prop:=∃(F':World),v=iv r∧Sm W F w' F' []
theorem qBd.calls(x:qA)(r:Int)(W F:World)(hown:Sub F W)(H:qBd.f x=some r):
    Cr 200 #[.agg #[iv x.f0,iv x.f1,iv x.f2,iv x.f3,.bool x.f4,.bool x.f5]] W (qBd.Post W F r):=by
 have S:=sT hown
 unfold qBd.f at H
 refine ent 5 rfl rfl rfl (fun a E=>?_)
 refine sq fun K1 hK1=>pl0 (plx (t:=68) E S [iv x.f0,iv x.f1,iv x.f2,iv x.f3,.bool x.f4,.bool x.f5] fun b2 u3 hb2 S a E=>plc E (.r 1 1 .nil) (fun a E=>pld (hK1 _ _ (rg E (.r 0 1<|.b 1 2 hb2<|.r 2 1<|.nil) fun a E=>(wp_ret ?_)))))
 replace S:=S.tail
 obtain rfl:=si H
 exact rt1 E ⟨_,rfl,_,rfl,S⟩
def qBq.f(x:qA)(xf0_:Int):Option Bool:=some (x.f1 == xf0_)
def qBq.Post(W F:World)(r:Bool)(v:Value)(w':World):Prop:=∃(F':World),v = .bool r∧Sm W F w' F' []
theorem qBq.calls(x:qA)(xf0_:Int)(pf0_:Nat)(r:Bool)(W F:World)(hown:Sub F W)(hpf0_:F.heap[pf0_]? = some (.cells #[iv xf0_] 3 (0,0)))(H:qBq.f x xf0_=some r):
    Cr 199 #[.agg #[iv x.f0,iv x.f1,iv x.f2,iv x.f3,.bool x.f4,.bool x.f5],.pointer (pb pf0_)] W (qBq.Post W F r):=by
 have S:=sT hown
 unfold qBq.f at H
 refine ent 8 rfl rfl rfl (fun a E=>?_)
 refine sq fun K1 hK1=>pl0 (plx (t:=68) E S [iv x.f0,iv x.f1,iv x.f2,iv x.f3,.bool x.f4,.bool x.f5] fun b2 u3 hb2 S a E=>plc E (.r 1 1 .nil) (fun a E=>pld (hK1 _ _ (rg E (.r 0 1<|.b 1 1 hb2<|.b 2 0 (S.own.sub _ _ _ _ hpf0_)<|.r 3 2<|.nil) fun a E=>(wp_ret ?_)))))
 replace S:=S.tail
 obtain rfl:=si H
 exact rt1 E ⟨_,rfl,_,rfl,S⟩
mutual
def qV.l19:Nat→List qA→Int→List qB→Int→Option (List qB)
 | 0,_,_,_,_=>none
 | k+1,x,x1c0_,l16,x17=>if x17<(x.length:Int) then (if 0≤x17∧x17<(x.length:Int) then ((qBq.f (nth qA.z x x17) x1c0_).bind fun t39=>(if t39=true then ((qBd.f (nth qA.z x x17)).bind fun t44=>((qJ.f k l16 t44).bind fun t47=>(if t47.2=true then (qV.j72 k x x1c0_ x17 t47 l16) else ((qBd.f (nth qA.z x x17)).bind fun t53=>((qz.f l16 t47.1 [(⟨t53,0⟩:qB)]).bind fun t60=>(qV.j72 k x x1c0_ x17 t47 t60)))))) else (qV.l19 k x x1c0_ l16 (w64 (x17+1))))) else (none)) else (some l16)
def qV.j72:Nat→List qA→Int→Int→Int × Bool→List qB→Option (List qB)
 | 0,_,_,_,_,_=>none
 | k+1,x,x1c0_,x17,t47,l70=>if ((nth qA.z x x17).f5)=true then (if 0≤t47.1∧t47.1<(l70.length:Int) then (qV.l19 k x x1c0_ (l70.set (t47.1).toNat (⟨(nth qB.z l70 t47.1).f0,(if (w64 ((nth qB.z l70 t47.1).f1+(nth qA.z x x17).f3))<65536 then (w64 ((nth qB.z l70 t47.1).f1+(nth qA.z x x17).f3)) else 65536)⟩:qB)) (w64 (x17+1))) else (none)) else (qV.l19 k x x1c0_ l70 (w64 (x17+1)))
end
theorem qV.l19_s k x x1c0_ l16 x17:type_of% (qV.l19.eq_2 x x1c0_ l16 x17 k):=qV.l19.eq_2 x x1c0_ l16 x17 k
theorem qV.j72_s k x x1c0_ x17 t47 l70:type_of% (qV.j72.eq_2 x x1c0_ x17 t47 l70 k):=qV.j72.eq_2 x x1c0_ x17 t47 l70 k
def qV.f(k:Nat)(x:List qA)(x1c0_:Int):Option (List qB):=(qAQ.f k x).bind fun t6=>(if t6=0 then (qV.l19 k x x1c0_ [] 0) else (some []))
def qV.Post(W F:World)(r:List qB)(v:Value)(w':World):Prop:=∃(F':World)(RA0_0:OA)(rc0_0:Nat),v = .slice RA0_0 r.length rc0_0∧Sm W F w' F' [row qB.k 139 (.slice RA0_0 r.length rc0_0) r]
theorem qV.calls(k:Nat)(x:List qA)(x1c0_:Int)(A0_0:OA)(c0_0:Nat)(p1c0_:Nat)(r:List qB)(W F:World)(hown:Sub F W)(g0_0:Rd qA.k F A0_0 c0_0 x)(hp1c0_:F.heap[p1c0_]? = some (.cells #[iv x1c0_] 3 (0,0)))(H:qV.f k x x1c0_=some r):
    Cr 137 #[.slice A0_0 x.length c0_0,.func (.func 199) #[] #[.pointer (pb p1c0_)],.func (.func 200) #[] #[]] W (qV.Post W F r):=by
 have S:=sT hown
 unfold qV.f at H
 refine ent 60 rfl rfl rfl (fun a E=>?_)
 refine rr E fun a E=>(rr E fun a E=>(sq fun K3 hK3=>sq fun K4 hK4=>pl0 (plc E (.r 0 1 .nil) (fun a E=>?_))))
 obtain ⟨t6,h7,H⟩:=bd H
 refine plq E S en74 (qAQ.calls k x _ _ _ _ _ S.own.sub g0_0 h7) fun u5 S a E=>plc E (.r 2 1 .nil) (fun a E=>pld (hK4 _ _ (E.ikn 14 H (fun c8 E H=>?_) fun c8 E H=>?_)))
 refine wp_skip (hK3 _ _ (sq fun K11 hK11=>rr E fun a E=>(wp_block ?_)))
 replace S:=S.nilrow qB.k 139
 refine wp_loop_ghost (fun kq20 a w'=>∃(G:NV)(A14:OA)(c15:Nat)(l16:List qB)(x17:Int)(F18:World),kq20≤k∧Env 60 G a∧At G [(1,.func (.func 199) #[] #[.pointer (pb p1c0_)]),(2,.func (.func 200) #[] #[]),(7,.slice A14 l16.length c15),(15,.slice A0_0 x.length c0_0),(16,iv (x.length:Int)),(17,iv x17)]∧Sm W F w' F18 [row qB.k 139 (.slice A14 l16.length c15) l16]∧Rd qA.k F18 A0_0 c0_0 x∧F18.heap[p1c0_]? = some (.cells #[iv x1c0_] 3 (0,0))∧qV.l19 kq20 x x1c0_ l16 x17=some r) k ⟨_,none,0,[],0,F,Nat.le_refl _,E,.of,S,g0_0,hp1c0_,H⟩ ?_
 rintro kq20 a u22 ⟨G,A14,c15,l16,x17,F18,hkq,E,A,S,g0_0,hp1c0_,H⟩
 obtain _ | k21:=kq20
 exact zz H
 rw [qV.l19_s]at H
 obtain ⟨J,E⟩:=E.at A
 refine rr E fun a E=>(sq fun K24 hK24=>E.ik 18 H (fun c25 E H=>?_) fun c25 E H=>?_)
 refine wp_skip (hK24 _ _ (sq fun K26 hK26=>wp_block (sq fun K27 hK27=>pl0 ?_)))
 obtain ⟨c28,H⟩:=gd H
 have hE_:=E
 obtain ⟨ad29,rfl⟩:=g0_0.addr c28.1 c28.2
 replace E:=hE_
 obtain ⟨cs31,rfl,hc32⟩:=g0_0.el qA.z x17 c28.1 c28.2
 refine plc E (.x 0 c28<|.cs 1 (S.fcs hc32)<|.nil) (fun a E=>pla (t:=68) E S [iv 0,iv 0,iv 0,iv 0,.bool false,.bool false] fun b33 u34 hb33 S a E=>pls E S [iv ((nth qA.z x x17).f0),iv ((nth qA.z x x17).f1),iv ((nth qA.z x x17).f2),iv ((nth qA.z x x17).f3),.bool ((nth qA.z x x17).f4),.bool ((nth qA.z x x17).f5)] fun u35 hb33 S a E=>pld (hK27 _ _ (sq fun K36 hK36=>sq fun K37 hK37=>pl0 (plc E (.r 0 1<|.bn 1 0 6 hb33<|.nil) (fun a E=>?_)))))
 obtain ⟨t39,h40,H⟩:=bd H
 refine plq E S en199 (qBq.calls (nth qA.z x x17) x1c0_ _ _ _ _ S.own.sub hp1c0_ h40) fun u38 S a E=>plc E (.r 3 1 .nil) (fun a E=>pld (hK37 _ _ (E.ibn 24 H (fun c41 E H=>?_) fun c41 E H=>?_)))
 refine wp_skip (hK36 _ _ (sq fun K42 hK42=>pl0 ?_))
 have hb33:=S.ba 0
 refine plc E (.r 0 2<|.bn 2 0 6 hb33<|.nil) (fun a E=>?_)
 obtain ⟨t44,h45,H⟩:=bd H
 refine plq E S en200 (qBd.calls (nth qA.z x x17) _ _ _ S.own.sub h45) fun u43 S a E=>?_
 obtain ⟨t47,h48,H⟩:=bd H
 refine plq E S en162 (qJ.calls k21 l16 t44 _ _ _ _ _ (Sub.refl _) (S.rd_at (i:=1) rfl) h48) fun u46 S a E=>plc E (.r 5 5 .nil) (fun a E=>pld (hK42 _ _ (sq fun K49 hK49=>?_)))
 have J75:∀ kq73,kq73≤k21→∀(G:NV)(A68:OA)(c69:Nat)(l70:List qB)(F71:World)(a:Act)(w':World),Env 60 G a→At G [(1,.func (.func 199) #[] #[.pointer (pb p1c0_)]),(2,.func (.func 200) #[] #[]),(7,.slice A68 l70.length c69),(9,.pointer (pb b33)),(10,iv t47.1),(15,.slice (some ad29) x.length c0_0),(16,iv (x.length:Int)),(17,iv x17)]→Sm W F w' F71 [box b33 #[iv ((nth qA.z x x17).f0),iv ((nth qA.z x x17).f1),iv ((nth qA.z x x17).f2),iv ((nth qA.z x x17).f3),.bool ((nth qA.z x x17).f4),.bool ((nth qA.z x x17).f5)] 68,row qB.k 139 (.slice A68 l70.length c69) l70]→Rd qA.k F71 (some ad29) c0_0 x→F71.heap[p1c0_]? = some (.cells #[iv x1c0_] 3 (0,0))→qV.j72 kq73 x x1c0_ x17 t47 l70=some r→K49 a w':=by
  intro kq73 hkq G A68 c69 l70 F71 a u76 E A S g0_0 hp1c0_ H
  obtain _ | k74:=kq73
  exact zz H
  rw [qV.j72_s]at H
  obtain ⟨J,E⟩:=E.at A
  refine hK49 _ _ (sq fun K77 hK77=>pl0 ?_)
  have hb33:=S.ba 0
  refine plc E (.r 0 1<|.b 1 5 hb33<|.nil) (fun a E=>pld (hK77 _ _ (E.ib 44 H (fun c78 E H=>?_) fun c78 E H=>?_)))
  refine drawn 14 ⟨[13],[],fun q=>False⟩ mixed rfl (by kernel_rfl) (fun hst=>?_)
  replace S:=S.drew
  obtain ⟨c79,H⟩:=gd H
  have hr80:=S.ra 1
  have hE_:=E
  obtain ⟨b81,rfl⟩:=qCW hr80 c79.1 c79.2
  replace E:=hE_
  have hr_:=S.ra 1
  obtain ⟨cs83,rfl,hc84⟩:=qCV hr_ qB.z t47.1 c79.1 c79.2
  have hb33:=S.ba 0
  have hr85:=S.ra 1
  refine mny 1 hst E (.r 0 4<|.x 4 c79<|.r 5 1<|.c 6 (hc84 1 _ rfl)<|.r 7 1<|.b 8 3 hb33<|.r 9 2<|.x 11 c79<|.r 12 1<|.nil) (fun a E=>?_)
  replace S:=S.front 1 rfl
  obtain ⟨cs90,rfl,hc91⟩:=qCV (S.row_at (i:=0) rfl) qB.z t47.1 c79.1 c79.2
  refine on1 13 E (.set (d:=qB.k) (n:=l70.length) (i:=t47.1) (⟨(nth qB.z l70 t47.1).f0,(if (w64 ((nth qB.z l70 t47.1).f1+(nth qA.z x x17).f3))<65536 then (w64 ((nth qB.z l70 t47.1).f1+(nth qA.z x x17).f3)) else 65536)⟩:qB) 1 (ea1 _ _ _) S c79 [iv ((nth qB.z l70 t47.1).f0),iv ((nth qB.z l70 t47.1).f1)] hc91 [iv ((nth qB.z l70 t47.1).f0),iv (if (w64 ((nth qB.z l70 t47.1).f1+(nth qA.z x x17).f3))<65536 then (w64 ((nth qB.z l70 t47.1).f1+(nth qA.z x x17).f3)) else 65536)] rfl) ?_
  rintro _ u89 a ⟨rfl,S,hz⟩ E
  refine ⟨.d,?_⟩
  refine dn ?_
  refine qCS ?_
  refine hK26 _ _ (pl0 (plc E (.r 0 2 .nil) (fun a E=>pld ?_)))
  have hn92:=(qCU (S.row_at (i:=0) rfl)).1
  replace E:=E.set (d:=7) (v:=.slice (pb b81) ((l70.set (t47.1).toNat (⟨(nth qB.z l70 t47.1).f0,(if (w64 ((nth qB.z l70 t47.1).f1+(nth qA.z x x17).f3))<65536 then (w64 ((nth qB.z l70 t47.1).f1+(nth qA.z x x17).f3)) else 65536)⟩:qB)).length) c69) (Eq.trans (b:=.slice (pb b81) l70.length c69) (by kernel_rfl) (by rw [← hn92]))
  replace S:Sm W F u89 F71 [row qB.k 139 (.slice (pb b81) ((l70.set (t47.1).toNat (⟨(nth qB.z l70 t47.1).f0,(if (w64 ((nth qB.z l70 t47.1).f1+(nth qA.z x x17).f3))<65536 then (w64 ((nth qB.z l70 t47.1).f1+(nth qA.z x x17).f3)) else 65536)⟩:qB)).length) c69) (l70.set (t47.1).toNat (⟨(nth qB.z l70 t47.1).f0,(if (w64 ((nth qB.z l70 t47.1).f1+(nth qA.z x x17).f3))<65536 then (w64 ((nth qB.z l70 t47.1).f1+(nth qA.z x x17).f3)) else 65536)⟩:qB)),box b33 #[iv ((nth qA.z x x17).f0),iv ((nth qA.z x x17).f1),iv ((nth qA.z x x17).f2),iv ((nth qA.z x x17).f3),.bool ((nth qA.z x x17).f4),.bool ((nth qA.z x x17).f5)] 68]:=by rw [← hn92]; exact S
  replace S:=S.pm [0] 2
  exact qCT ⟨k74,by omega,_,(pb b81),c69,(l70.set (t47.1).toNat (⟨(nth qB.z l70 t47.1).f0,(if (w64 ((nth qB.z l70 t47.1).f1+(nth qA.z x x17).f3))<65536 then (w64 ((nth qB.z l70 t47.1).f1+(nth qA.z x x17).f3)) else 65536)⟩:qB)),(w64 (x17+1)),F71,by omega,E,.of,S,g0_0,hp1c0_,H⟩
  refine wp_skip ?_
  refine qCS ?_
  refine hK26 _ _ (pl0 (plc E (.r 0 2 .nil) (fun a E=>pld ?_)))
  replace S:=S.tail
  exact qCT ⟨k74,by omega,_,A68,c69,l70,(w64 (x17+1)),F71,by omega,E,.of,S,g0_0,hp1c0_,H⟩
 refine rr E fun a E=>(E.ibn 34 H (fun c51 E H=>?_) fun c51 E H=>?_)
 refine wp_skip ?_
 exact J75 _ (by omega) _ A14 c15 l16 F18 _ _ E .of S g0_0 hp1c0_ H
 refine pl0 (plc E (.r 0 3<|.bn 3 0 6 (S.ba 0)<|.nil) (fun a E=>?_))
 obtain ⟨t53,h54,H⟩:=bd H
 refine plq E S en200 (qBd.calls (nth qA.z x x17) _ _ _ S.own.sub h54) fun u52 S a E=>plc E (.r 5 1 .nil) (fun a E=>ple E (.lit (d:=qB.k) (e:=139) S [(⟨t53,0⟩:qB)] (.cons rfl .nil)) ?_)
 rintro _ u55 a ⟨A56,c57,rfl,S,hg⟩ E
 replace S:=S.front 2 rfl
 obtain ⟨t60,h61,H⟩:=bd H
 refine ple E (.cl en164 (qz.calls l16 t47.1 [(⟨t53,0⟩:qB)] _ _ _ _ _ _ _ (Own.left (X:=[row qB.k 139 (.slice A14 l16.length c15) l16,row qB.k 139 (.slice A56 ([(⟨t53,0⟩:qB)].length) c57) [(⟨t53,0⟩:qB)]]) S.own) h61)) ?_
 rintro _ u59 a ⟨F62,A63,c64,rfl,hC⟩ E
 have hs:=hC.sub
 replace S:=S.called (X:=[row qB.k 139 (.slice A14 l16.length c15) l16,row qB.k 139 (.slice A56 ([(⟨t53,0⟩:qB)].length) c57) [(⟨t53,0⟩:qB)]]) hC
 replace g0_0:=g0_0.mono hs
 replace hp1c0_:=hs _ _ _ _ hp1c0_
 refine plc E (.r 8 1 .nil) (fun a E=>pld ?_)
 replace S:=S.front 1 rfl
 exact J75 _ (by omega) _ A63 c64 t60 F62 _ _ E .of S g0_0 hp1c0_ H
 refine wp_exit ?_
 refine hK26 _ _ (pl0 (plc E (.r 0 2 .nil) (fun a E=>pld ?_)))
 replace S:=S.tail
 exact qCT ⟨k21,by omega,_,A14,c15,l16,(w64 (x17+1)),F18,by omega,E,.of,S,g0_0,hp1c0_,H⟩
 refine wp_exit ?_
 refine hK11 _ _ (rr E fun a E=>(wp_ret ?_))
 obtain rfl:=si H
 exact rt1 E ⟨_,rfl,_,_,_,rfl,S⟩
 refine rr E fun a E=>(wp_ret (qCQ ?_))
 replace S:=S.nilrow qB.k 139
 obtain rfl:=si H
 exact rt1 E ⟨_,rfl,_,_,_,rfl,S⟩
def qCA.f(k:Nat)(x:List qA)(y:Int):Option (List qB):=(qV.f k x y).bind fun t8=>(some t8)
def qCA.Post(W F:World)(r:List qB)(v:Value)(w':World):Prop:=∃(F':World)(RA0_0:OA)(rc0_0:Nat),v = .slice RA0_0 r.length rc0_0∧Sm W F w' F' [row qB.k 139 (.slice RA0_0 r.length rc0_0) r]
theorem qCA.calls(k:Nat)(x:List qA)(y:Int)(A0_0:OA)(c0_0:Nat)(r:List qB)(W F:World)(hown:Sub F W)(g0_0:Rd qA.k F A0_0 c0_0 x)(H:qCA.f k x y=some r):
    Cr 186 #[.slice A0_0 x.length c0_0,iv y] W (qCA.Post W F r):=by
 have S:=sT hown
 unfold qCA.f at H
 refine ent 8 rfl rfl rfl (fun a E=>?_)
 refine sq fun K1 hK1=>pl0 (plx (t:=3) E S [iv y] fun b2 u3 hb2 S a E=>plc E (.r 1 1 .nil) (fun a E=>pld (hK1 _ _ (sq fun K4 hK4=>pl0 (plc E (.r 0 2 .nil) (fun a E=>?_))))))
 obtain ⟨F5,hs,g6,S⟩:=S.giveb
 replace g0_0:=g0_0.mono hs
 obtain ⟨t8,h9,H⟩:=bd H
 refine ple E (.cl en137 (qV.calls k x y _ _ _ _ _ _ S.own.sub g0_0 g6 h9)) ?_
 rintro _ u7 a ⟨F10,A11,c12,rfl,hC⟩ E
 have hs:=hC.sub
 replace S:=S.called (X:=[]) hC
 replace g0_0:=g0_0.mono hs
 replace g6:=hs _ _ _ _ g6
 refine plc E (.r 3 1 .nil) (fun a E=>pld (hK4 _ _ (wp_ret ?_)))
 obtain rfl:=si H
 exact rt1 E ⟨_,rfl,_,_,_,rfl,S⟩
def qBX.f(x:qA):Option Int:=some x.f0
def qBX.Post(W F:World)(r:Int)(v:Value)(w':World):Prop:=∃(F':World),v=iv r∧Sm W F w' F' []
theorem qBX.calls(x:qA)(r:Int)(W F:World)(hown:Sub F W)(H:qBX.f x=some r):
    Cr 202 #[.agg #[iv x.f0,iv x.f1,iv x.f2,iv x.f3,.bool x.f4,.bool x.f5]] W (qBX.Post W F r):=by
 have S:=sT hown
 unfold qBX.f at H
 refine ent 5 rfl rfl rfl (fun a E=>?_)
 refine sq fun K1 hK1=>pl0 (plx (t:=68) E S [iv x.f0,iv x.f1,iv x.f2,iv x.f3,.bool x.f4,.bool x.f5] fun b2 u3 hb2 S a E=>plc E (.r 1 1 .nil) (fun a E=>pld (hK1 _ _ (rg E (.r 0 1<|.b 1 0 hb2<|.r 2 1<|.nil) fun a E=>(wp_ret ?_)))))
 replace S:=S.tail
 obtain rfl:=si H
 exact rt1 E ⟨_,rfl,_,rfl,S⟩
def qBY.f(x:qA)(xf0_:Int)(xf1_:Int):Option Bool:=if xf0_=0 then (if xf1_=0 then (some true) else (some (x.f2 == xf1_))) else (if x.f1=xf0_ then (if xf1_=0 then (some true) else (some (x.f2 == xf1_))) else (some false))
def qBY.Post(W F:World)(r:Bool)(v:Value)(w':World):Prop:=∃(F':World),v = .bool r∧Sm W F w' F' []
theorem qBY.calls(x:qA)(xf0_:Int)(xf1_:Int)(pf0_:Nat)(pf1_:Nat)(r:Bool)(W F:World)(hown:Sub F W)(hpf0_:F.heap[pf0_]? = some (.cells #[iv xf0_] 3 (0,0)))(hpf1_:F.heap[pf1_]? = some (.cells #[iv xf1_] 3 (0,0)))(H:qBY.f x xf0_ xf1_=some r):
    Cr 201 #[.agg #[iv x.f0,iv x.f1,iv x.f2,iv x.f3,.bool x.f4,.bool x.f5],.pointer (pb pf0_),.pointer (pb pf1_)] W (qBY.Post W F r):=by
 have S:=sT hown
 unfold qBY.f at H
 refine ent 23 rfl rfl rfl (fun a E=>?_)
 refine sq fun K1 hK1=>pl0 (plx (t:=68) E S [iv x.f0,iv x.f1,iv x.f2,iv x.f3,.bool x.f4,.bool x.f5] fun b2 u3 hb2 S a E=>plc E (.r 1 1 .nil) (fun a E=>pld (hK1 _ _ (sq fun K4 hK4=>pl0 (plc E (.b 0 0 (S.own.sub _ _ _ _ hpf0_)<|.r 1 2<|.nil) (fun a E=>E.fk 7 H (fun c5 E H=>?_) fun c5 E H=>?_))))))
 refine plc E (.r 3 6<|.b 9 0 (S.own.sub _ _ _ _ hpf1_)<|.r 10 2<|.nil) (fun a E=>E.fk 16 H (fun c6 E H=>?_) fun c6 E H=>?_)
 refine plc E (.r 12 7 .nil) (fun a E=>pld (hK4 _ _ (wp_ret ?_)))
 replace S:=S.tail
 obtain rfl:=si H
 exact rt1 E ⟨_,rfl,_,rfl,S⟩
 refine plc E (.r 12 1<|.b 13 2 hb2<|.b 14 0 (S.own.sub _ _ _ _ hpf1_)<|.r 15 4<|.nil) (fun a E=>pld (hK4 _ _ (wp_ret ?_)))
 replace S:=S.tail
 obtain rfl:=si H
 exact rt1 E ⟨_,rfl,_,rfl,S⟩
 refine plc E (.r 3 1<|.b 4 1 hb2<|.b 5 0 (S.own.sub _ _ _ _ hpf0_)<|.r 6 3<|.nil) (fun a E=>E.fk 13 H (fun c7 E H=>?_) fun c7 E H=>?_)
 refine plc E (.b 9 0 (S.own.sub _ _ _ _ hpf1_)<|.r 10 2<|.nil) (fun a E=>E.fk 16 H (fun c8 E H=>?_) fun c8 E H=>?_)
 refine plc E (.r 12 7 .nil) (fun a E=>pld (hK4 _ _ (wp_ret ?_)))
 replace S:=S.tail
 obtain rfl:=si H
 exact rt1 E ⟨_,rfl,_,rfl,S⟩
 refine plc E (.r 12 1<|.b 13 2 hb2<|.b 14 0 (S.own.sub _ _ _ _ hpf1_)<|.r 15 4<|.nil) (fun a E=>pld (hK4 _ _ (wp_ret ?_)))
 replace S:=S.tail
 obtain rfl:=si H
 exact rt1 E ⟨_,rfl,_,rfl,S⟩
 refine plc E (.r 9 10 .nil) (fun a E=>pld (hK4 _ _ (wp_ret ?_)))
 replace S:=S.tail
 obtain rfl:=si H
 exact rt1 E ⟨_,rfl,_,rfl,S⟩
mutual
def qR.l19:Nat→List qA→Int→Int→List qB→Int→Option (List qB)
 | 0,_,_,_,_,_=>none
 | k+1,x,x1c0_,x1c1_,l16,x17=>if x17<(x.length:Int) then (if 0≤x17∧x17<(x.length:Int) then ((qBY.f (nth qA.z x x17) x1c0_ x1c1_).bind fun t39=>(if t39=true then ((qBX.f (nth qA.z x x17)).bind fun t44=>((qJ.f k l16 t44).bind fun t47=>(if t47.2=true then (qR.j72 k x x1c0_ x1c1_ x17 t47 l16) else ((qBX.f (nth qA.z x x17)).bind fun t53=>((qz.f l16 t47.1 [(⟨t53,0⟩:qB)]).bind fun t60=>(qR.j72 k x x1c0_ x1c1_ x17 t47 t60)))))) else (qR.l19 k x x1c0_ x1c1_ l16 (w64 (x17+1))))) else (none)) else (some l16)
def qR.j72:Nat→List qA→Int→Int→Int→Int × Bool→List qB→Option (List qB)
 | 0,_,_,_,_,_,_=>none
 | k+1,x,x1c0_,x1c1_,x17,t47,l70=>if ((nth qA.z x x17).f5)=true then (if 0≤t47.1∧t47.1<(l70.length:Int) then (qR.l19 k x x1c0_ x1c1_ (l70.set (t47.1).toNat (⟨(nth qB.z l70 t47.1).f0,(if (w64 ((nth qB.z l70 t47.1).f1+(nth qA.z x x17).f3))<65536 then (w64 ((nth qB.z l70 t47.1).f1+(nth qA.z x x17).f3)) else 65536)⟩:qB)) (w64 (x17+1))) else (none)) else (qR.l19 k x x1c0_ x1c1_ l70 (w64 (x17+1)))
end
theorem qR.l19_s k x x1c0_ x1c1_ l16 x17:type_of% (qR.l19.eq_2 x x1c0_ x1c1_ l16 x17 k):=qR.l19.eq_2 x x1c0_ x1c1_ l16 x17 k
theorem qR.j72_s k x x1c0_ x1c1_ x17 t47 l70:type_of% (qR.j72.eq_2 x x1c0_ x1c1_ x17 t47 l70 k):=qR.j72.eq_2 x x1c0_ x1c1_ x17 t47 l70 k
def qR.f(k:Nat)(x:List qA)(x1c0_:Int)(x1c1_:Int):Option (List qB):=(qAQ.f k x).bind fun t6=>(if t6=0 then (qR.l19 k x x1c0_ x1c1_ [] 0) else (some []))
def qR.Post(W F:World)(r:List qB)(v:Value)(w':World):Prop:=∃(F':World)(RA0_0:OA)(rc0_0:Nat),v = .slice RA0_0 r.length rc0_0∧Sm W F w' F' [row qB.k 139 (.slice RA0_0 r.length rc0_0) r]
theorem qR.calls(k:Nat)(x:List qA)(x1c0_:Int)(x1c1_:Int)(A0_0:OA)(c0_0:Nat)(p1c0_:Nat)(p1c1_:Nat)(r:List qB)(W F:World)(hown:Sub F W)(g0_0:Rd qA.k F A0_0 c0_0 x)(hp1c0_:F.heap[p1c0_]? = some (.cells #[iv x1c0_] 3 (0,0)))(hp1c1_:F.heap[p1c1_]? = some (.cells #[iv x1c1_] 3 (0,0)))(H:qR.f k x x1c0_ x1c1_=some r):
    Cr 137 #[.slice A0_0 x.length c0_0,.func (.func 201) #[] #[.pointer (pb p1c0_),.pointer (pb p1c1_)],.func (.func 202) #[] #[]] W (qR.Post W F r):=by
 have S:=sT hown
 unfold qR.f at H
 refine ent 60 rfl rfl rfl (fun a E=>?_)
 refine rr E fun a E=>(rr E fun a E=>(sq fun K3 hK3=>sq fun K4 hK4=>pl0 (plc E (.r 0 1 .nil) (fun a E=>?_))))
 obtain ⟨t6,h7,H⟩:=bd H
 refine plq E S en74 (qAQ.calls k x _ _ _ _ _ S.own.sub g0_0 h7) fun u5 S a E=>plc E (.r 2 1 .nil) (fun a E=>pld (hK4 _ _ (E.ikn 14 H (fun c8 E H=>?_) fun c8 E H=>?_)))
 refine wp_skip (hK3 _ _ (sq fun K11 hK11=>rr E fun a E=>(wp_block ?_)))
 replace S:=S.nilrow qB.k 139
 refine wp_loop_ghost (fun kq20 a w'=>∃(G:NV)(A14:OA)(c15:Nat)(l16:List qB)(x17:Int)(F18:World),kq20≤k∧Env 60 G a∧At G [(1,.func (.func 201) #[] #[.pointer (pb p1c0_),.pointer (pb p1c1_)]),(2,.func (.func 202) #[] #[]),(7,.slice A14 l16.length c15),(15,.slice A0_0 x.length c0_0),(16,iv (x.length:Int)),(17,iv x17)]∧Sm W F w' F18 [row qB.k 139 (.slice A14 l16.length c15) l16]∧Rd qA.k F18 A0_0 c0_0 x∧F18.heap[p1c0_]? = some (.cells #[iv x1c0_] 3 (0,0))∧F18.heap[p1c1_]? = some (.cells #[iv x1c1_] 3 (0,0))∧qR.l19 kq20 x x1c0_ x1c1_ l16 x17=some r) k ⟨_,none,0,[],0,F,Nat.le_refl _,E,.of,S,g0_0,hp1c0_,hp1c1_,H⟩ ?_
 rintro kq20 a u22 ⟨G,A14,c15,l16,x17,F18,hkq,E,A,S,g0_0,hp1c0_,hp1c1_,H⟩
 obtain _ | k21:=kq20
 exact zz H
 rw [qR.l19_s]at H
 obtain ⟨J,E⟩:=E.at A
 refine rr E fun a E=>(sq fun K24 hK24=>E.ik 18 H (fun c25 E H=>?_) fun c25 E H=>?_)
 refine wp_skip (hK24 _ _ (sq fun K26 hK26=>wp_block (sq fun K27 hK27=>pl0 ?_)))
 obtain ⟨c28,H⟩:=gd H
 have hE_:=E
 obtain ⟨ad29,rfl⟩:=g0_0.addr c28.1 c28.2
 replace E:=hE_
 obtain ⟨cs31,rfl,hc32⟩:=g0_0.el qA.z x17 c28.1 c28.2
 refine plc E (.x 0 c28<|.cs 1 (S.fcs hc32)<|.nil) (fun a E=>pla (t:=68) E S [iv 0,iv 0,iv 0,iv 0,.bool false,.bool false] fun b33 u34 hb33 S a E=>pls E S [iv ((nth qA.z x x17).f0),iv ((nth qA.z x x17).f1),iv ((nth qA.z x x17).f2),iv ((nth qA.z x x17).f3),.bool ((nth qA.z x x17).f4),.bool ((nth qA.z x x17).f5)] fun u35 hb33 S a E=>pld (hK27 _ _ (sq fun K36 hK36=>sq fun K37 hK37=>pl0 (plc E (.r 0 1<|.bn 1 0 6 hb33<|.nil) (fun a E=>?_)))))
 obtain ⟨t39,h40,H⟩:=bd H
 refine plq E S en201 (qBY.calls (nth qA.z x x17) x1c0_ x1c1_ _ _ _ _ _ S.own.sub hp1c0_ hp1c1_ h40) fun u38 S a E=>plc E (.r 3 1 .nil) (fun a E=>pld (hK37 _ _ (E.ibn 24 H (fun c41 E H=>?_) fun c41 E H=>?_)))
 refine wp_skip (hK36 _ _ (sq fun K42 hK42=>pl0 ?_))
 have hb33:=S.ba 0
 refine plc E (.r 0 2<|.bn 2 0 6 hb33<|.nil) (fun a E=>?_)
 obtain ⟨t44,h45,H⟩:=bd H
 refine plq E S en202 (qBX.calls (nth qA.z x x17) _ _ _ S.own.sub h45) fun u43 S a E=>?_
 obtain ⟨t47,h48,H⟩:=bd H
 refine plq E S en162 (qJ.calls k21 l16 t44 _ _ _ _ _ (Sub.refl _) (S.rd_at (i:=1) rfl) h48) fun u46 S a E=>plc E (.r 5 5 .nil) (fun a E=>pld (hK42 _ _ (sq fun K49 hK49=>?_)))
 have J75:∀ kq73,kq73≤k21→∀(G:NV)(A68:OA)(c69:Nat)(l70:List qB)(F71:World)(a:Act)(w':World),Env 60 G a→At G [(1,.func (.func 201) #[] #[.pointer (pb p1c0_),.pointer (pb p1c1_)]),(2,.func (.func 202) #[] #[]),(7,.slice A68 l70.length c69),(9,.pointer (pb b33)),(10,iv t47.1),(15,.slice (some ad29) x.length c0_0),(16,iv (x.length:Int)),(17,iv x17)]→Sm W F w' F71 [box b33 #[iv ((nth qA.z x x17).f0),iv ((nth qA.z x x17).f1),iv ((nth qA.z x x17).f2),iv ((nth qA.z x x17).f3),.bool ((nth qA.z x x17).f4),.bool ((nth qA.z x x17).f5)] 68,row qB.k 139 (.slice A68 l70.length c69) l70]→Rd qA.k F71 (some ad29) c0_0 x→F71.heap[p1c0_]? = some (.cells #[iv x1c0_] 3 (0,0))→F71.heap[p1c1_]? = some (.cells #[iv x1c1_] 3 (0,0))→qR.j72 kq73 x x1c0_ x1c1_ x17 t47 l70=some r→K49 a w':=by
  intro kq73 hkq G A68 c69 l70 F71 a u76 E A S g0_0 hp1c0_ hp1c1_ H
  obtain _ | k74:=kq73
  exact zz H
  rw [qR.j72_s]at H
  obtain ⟨J,E⟩:=E.at A
  refine hK49 _ _ (sq fun K77 hK77=>pl0 ?_)
  have hb33:=S.ba 0
  refine plc E (.r 0 1<|.b 1 5 hb33<|.nil) (fun a E=>pld (hK77 _ _ (E.ib 44 H (fun c78 E H=>?_) fun c78 E H=>?_)))
  refine drawn 14 ⟨[13],[],fun q=>False⟩ mixed rfl (by kernel_rfl) (fun hst=>?_)
  replace S:=S.drew
  obtain ⟨c79,H⟩:=gd H
  have hr80:=S.ra 1
  have hE_:=E
  obtain ⟨b81,rfl⟩:=qCW hr80 c79.1 c79.2
  replace E:=hE_
  have hr_:=S.ra 1
  obtain ⟨cs83,rfl,hc84⟩:=qCV hr_ qB.z t47.1 c79.1 c79.2
  have hb33:=S.ba 0
  have hr85:=S.ra 1
  refine mny 1 hst E (.r 0 4<|.x 4 c79<|.r 5 1<|.c 6 (hc84 1 _ rfl)<|.r 7 1<|.b 8 3 hb33<|.r 9 2<|.x 11 c79<|.r 12 1<|.nil) (fun a E=>?_)
  replace S:=S.front 1 rfl
  obtain ⟨cs90,rfl,hc91⟩:=qCV (S.row_at (i:=0) rfl) qB.z t47.1 c79.1 c79.2
  refine on1 13 E (.set (d:=qB.k) (n:=l70.length) (i:=t47.1) (⟨(nth qB.z l70 t47.1).f0,(if (w64 ((nth qB.z l70 t47.1).f1+(nth qA.z x x17).f3))<65536 then (w64 ((nth qB.z l70 t47.1).f1+(nth qA.z x x17).f3)) else 65536)⟩:qB) 1 (ea1 _ _ _) S c79 [iv ((nth qB.z l70 t47.1).f0),iv ((nth qB.z l70 t47.1).f1)] hc91 [iv ((nth qB.z l70 t47.1).f0),iv (if (w64 ((nth qB.z l70 t47.1).f1+(nth qA.z x x17).f3))<65536 then (w64 ((nth qB.z l70 t47.1).f1+(nth qA.z x x17).f3)) else 65536)] rfl) ?_
  rintro _ u89 a ⟨rfl,S,hz⟩ E
  refine ⟨.d,?_⟩
  refine dn ?_
  refine qCS ?_
  refine hK26 _ _ (pl0 (plc E (.r 0 2 .nil) (fun a E=>pld ?_)))
  have hn92:=(qCU (S.row_at (i:=0) rfl)).1
  replace E:=E.set (d:=7) (v:=.slice (pb b81) ((l70.set (t47.1).toNat (⟨(nth qB.z l70 t47.1).f0,(if (w64 ((nth qB.z l70 t47.1).f1+(nth qA.z x x17).f3))<65536 then (w64 ((nth qB.z l70 t47.1).f1+(nth qA.z x x17).f3)) else 65536)⟩:qB)).length) c69) (Eq.trans (b:=.slice (pb b81) l70.length c69) (by kernel_rfl) (by rw [← hn92]))
  replace S:Sm W F u89 F71 [row qB.k 139 (.slice (pb b81) ((l70.set (t47.1).toNat (⟨(nth qB.z l70 t47.1).f0,(if (w64 ((nth qB.z l70 t47.1).f1+(nth qA.z x x17).f3))<65536 then (w64 ((nth qB.z l70 t47.1).f1+(nth qA.z x x17).f3)) else 65536)⟩:qB)).length) c69) (l70.set (t47.1).toNat (⟨(nth qB.z l70 t47.1).f0,(if (w64 ((nth qB.z l70 t47.1).f1+(nth qA.z x x17).f3))<65536 then (w64 ((nth qB.z l70 t47.1).f1+(nth qA.z x x17).f3)) else 65536)⟩:qB)),box b33 #[iv ((nth qA.z x x17).f0),iv ((nth qA.z x x17).f1),iv ((nth qA.z x x17).f2),iv ((nth qA.z x x17).f3),.bool ((nth qA.z x x17).f4),.bool ((nth qA.z x x17).f5)] 68]:=by rw [← hn92]; exact S
  replace S:=S.pm [0] 2
  exact qCT ⟨k74,by omega,_,(pb b81),c69,(l70.set (t47.1).toNat (⟨(nth qB.z l70 t47.1).f0,(if (w64 ((nth qB.z l70 t47.1).f1+(nth qA.z x x17).f3))<65536 then (w64 ((nth qB.z l70 t47.1).f1+(nth qA.z x x17).f3)) else 65536)⟩:qB)),(w64 (x17+1)),F71,by omega,E,.of,S,g0_0,hp1c0_,hp1c1_,H⟩
  refine wp_skip ?_
  refine qCS ?_
  refine hK26 _ _ (pl0 (plc E (.r 0 2 .nil) (fun a E=>pld ?_)))
  replace S:=S.tail
  exact qCT ⟨k74,by omega,_,A68,c69,l70,(w64 (x17+1)),F71,by omega,E,.of,S,g0_0,hp1c0_,hp1c1_,H⟩
 refine rr E fun a E=>(E.ibn 34 H (fun c51 E H=>?_) fun c51 E H=>?_)
 refine wp_skip ?_
 exact J75 _ (by omega) _ A14 c15 l16 F18 _ _ E .of S g0_0 hp1c0_ hp1c1_ H
 refine pl0 (plc E (.r 0 3<|.bn 3 0 6 (S.ba 0)<|.nil) (fun a E=>?_))
 obtain ⟨t53,h54,H⟩:=bd H
 refine plq E S en202 (qBX.calls (nth qA.z x x17) _ _ _ S.own.sub h54) fun u52 S a E=>plc E (.r 5 1 .nil) (fun a E=>ple E (.lit (d:=qB.k) (e:=139) S [(⟨t53,0⟩:qB)] (.cons rfl .nil)) ?_)
 rintro _ u55 a ⟨A56,c57,rfl,S,hg⟩ E
 replace S:=S.front 2 rfl
 obtain ⟨t60,h61,H⟩:=bd H
 refine ple E (.cl en164 (qz.calls l16 t47.1 [(⟨t53,0⟩:qB)] _ _ _ _ _ _ _ (Own.left (X:=[row qB.k 139 (.slice A14 l16.length c15) l16,row qB.k 139 (.slice A56 ([(⟨t53,0⟩:qB)].length) c57) [(⟨t53,0⟩:qB)]]) S.own) h61)) ?_
 rintro _ u59 a ⟨F62,A63,c64,rfl,hC⟩ E
 have hs:=hC.sub
 replace S:=S.called (X:=[row qB.k 139 (.slice A14 l16.length c15) l16,row qB.k 139 (.slice A56 ([(⟨t53,0⟩:qB)].length) c57) [(⟨t53,0⟩:qB)]]) hC
 replace g0_0:=g0_0.mono hs
 replace hp1c0_:=hs _ _ _ _ hp1c0_
 replace hp1c1_:=hs _ _ _ _ hp1c1_
 refine plc E (.r 8 1 .nil) (fun a E=>pld ?_)
 replace S:=S.front 1 rfl
 exact J75 _ (by omega) _ A63 c64 t60 F62 _ _ E .of S g0_0 hp1c0_ hp1c1_ H
 refine wp_exit ?_
 refine hK26 _ _ (pl0 (plc E (.r 0 2 .nil) (fun a E=>pld ?_)))
 replace S:=S.tail
 exact qCT ⟨k21,by omega,_,A14,c15,l16,(w64 (x17+1)),F18,by omega,E,.of,S,g0_0,hp1c0_,hp1c1_,H⟩
 refine wp_exit ?_
 refine hK11 _ _ (rr E fun a E=>(wp_ret ?_))
 obtain rfl:=si H
 exact rt1 E ⟨_,rfl,_,_,_,rfl,S⟩
 refine rr E fun a E=>(wp_ret (qCQ ?_))
 replace S:=S.nilrow qB.k 139
 obtain rfl:=si H
 exact rt1 E ⟨_,rfl,_,_,_,rfl,S⟩
def qBu.f(k:Nat)(x:List qA)(y:Int)(z:Int):Option (List qB):=(qR.f k x y z).bind fun t12=>(some t12)
def qBu.Post(W F:World)(r:List qB)(v:Value)(w':World):Prop:=∃(F':World)(RA0_0:OA)(rc0_0:Nat),v = .slice RA0_0 r.length rc0_0∧Sm W F w' F' [row qB.k 139 (.slice RA0_0 r.length rc0_0) r]
theorem qBu.calls(k:Nat)(x:List qA)(y:Int)(z:Int)(A0_0:OA)(c0_0:Nat)(r:List qB)(W F:World)(hown:Sub F W)(g0_0:Rd qA.k F A0_0 c0_0 x)(H:qBu.f k x y z=some r):
    Cr 187 #[.slice A0_0 x.length c0_0,iv y,iv z] W (qBu.Post W F r):=by
 have S:=sT hown
 unfold qBu.f at H
 refine ent 10 rfl rfl rfl (fun a E=>?_)
 refine sq fun K1 hK1=>pl0 (plx (t:=3) E S [iv y] fun b2 u3 hb2 S a E=>plx (t:=3) E S [iv z] fun b4 u5 hb4 S a E=>plc E (.r 2 1 .nil) (fun a E=>pld (hK1 _ _ (sq fun K6 hK6=>pl0 (plc E (.r 0 2 .nil) (fun a E=>?_))))))
 replace S:=S.front 1 rfl
 obtain ⟨F7,hs,g8,S⟩:=S.giveb
 replace g0_0:=g0_0.mono hs
 obtain ⟨F9,hs,g10,S⟩:=S.giveb
 replace g0_0:=g0_0.mono hs
 replace g8:=hs _ _ _ _ g8
 obtain ⟨t12,h13,H⟩:=bd H
 refine ple E (.cl en137 (qR.calls k x y z _ _ _ _ _ _ _ S.own.sub g0_0 g8 g10 h13)) ?_
 rintro _ u11 a ⟨F14,A15,c16,rfl,hC⟩ E
 have hs:=hC.sub
 replace S:=S.called (X:=[]) hC
 replace g0_0:=g0_0.mono hs
 replace g8:=hs _ _ _ _ g8
 replace g10:=hs _ _ _ _ g10
 refine plc E (.r 3 1 .nil) (fun a E=>pld (hK6 _ _ (wp_ret ?_)))
 obtain rfl:=si H
 exact rt1 E ⟨_,rfl,_,_,_,rfl,S⟩
mutual
def qAq.l9:Nat→List qB→Int→Option Int
 | 0,_,_=>none
 | k+1,x,x8=>if x8<(x.length:Int) then (if 0≤x8∧x8<(x.length:Int) then (if (nth qB.z x x8).f0<0 then (qAq.j37 k x x8 true) else (if (nth qB.z x x8).f0>2147483647 then (qAq.j37 k x x8 true) else (if (nth qB.z x x8).f1<0 then (qAq.j37 k x x8 true) else (if (nth qB.z x x8).f1>65536 then (qAq.j37 k x x8 true) else (if x8>0 then (if 0≤(w64 (x8 - 1))∧(w64 (x8 - 1))<(x.length:Int) then (qAq.j37 k x x8 (decide ((nth qB.z x x8).f0≤(nth qB.z x (w64 (x8 - 1))).f0))) else (none)) else (qAq.j37 k x x8 false)))))) else (none)) else (some 0)
def qAq.j37:Nat→List qB→Int→Bool→Option Int
 | 0,_,_,_=>none
 | k+1,x,x8,y36=>if y36=true then (some 1) else (qAq.l9 k x (w64 (x8+1)))
end
theorem qAq.l9_s k x x8:type_of% (qAq.l9.eq_2 x x8 k):=qAq.l9.eq_2 x x8 k
theorem qAq.j37_s k x x8 y36:type_of% (qAq.j37.eq_2 x x8 y36 k):=qAq.j37.eq_2 x x8 y36 k
def qAq.f(k:Nat)(x:List qB):Option Int:=if (x.length:Int)>64 then (some 1) else (qAq.l9 k x 0)
def qAq.Post(W F:World)(r:Int)(v:Value)(w':World):Prop:=∃(F':World),v=iv r∧Sm W F w' F' []
theorem qAq.calls(k:Nat)(x:List qB)(A0_0:OA)(c0_0:Nat)(r:Int)(W F:World)(hown:Sub F W)(g0_0:Rd qB.k F A0_0 c0_0 x)(H:qAq.f k x=some r):
    Cr 203 #[.slice A0_0 x.length c0_0] W (qAq.Post W F r):=by
 have S:=sT hown
 unfold qAq.f at H
 refine ent 49 rfl rfl rfl (fun a E=>?_)
 refine rr E fun a E=>(sq fun K2 hK2=>rr E fun a E=>(E.ik 7 H (fun c4 E H=>?_) fun c4 E H=>?_))
 refine rr E fun a E=>(wp_ret (qCQ ?_))
 obtain rfl:=si H
 exact rt1 E ⟨_,rfl,_,rfl,S⟩
 refine wp_skip (hK2 _ _ (sq fun K6 hK6=>rr E fun a E=>(wp_block ?_)))
 refine wp_loop_ghost (fun kq10 a w'=>∃(G:NV)(x8:Int),kq10≤k∧Env 49 G a∧At G [(0,.slice A0_0 x.length c0_0),(8,.slice A0_0 x.length c0_0),(9,iv (x.length:Int)),(10,iv x8)]∧Sm W F w' F []∧qAq.l9 kq10 x x8=some r) k ⟨_,0,Nat.le_refl _,E,.of,S,H⟩ ?_
 rintro kq10 a u12 ⟨G,x8,hkq,E,A,S,H⟩
 obtain _ | k11:=kq10
 exact zz H
 rw [qAq.l9_s]at H
 obtain ⟨J,E⟩:=E.at A
 refine rr E fun a E=>(sq fun K14 hK14=>E.ik 11 H (fun c15 E H=>?_) fun c15 E H=>?_)
 refine wp_skip (hK14 _ _ (sq fun K16 hK16=>wp_block (sq fun K17 hK17=>pl0 ?_)))
 obtain ⟨c18,H⟩:=gd H
 have hE_:=E
 obtain ⟨ad19,rfl⟩:=g0_0.addr c18.1 c18.2
 replace E:=hE_
 obtain ⟨cs21,rfl,hc22⟩:=g0_0.el qB.z x8 c18.1 c18.2
 refine plc E (.r 0 1<|.x 1 c18<|.cs 2 (S.fcs hc22)<|.nil) (fun a E=>pla (t:=139) E S [iv 0,iv 0] fun b23 u24 hb23 S a E=>plc E (.r 4 1 .nil) (fun a E=>pls E S [iv ((nth qB.z x x8).f0),iv ((nth qB.z x x8).f1)] fun u25 hb23 S a E=>pld (hK17 _ _ (sq fun K26 hK26=>?_))))
 have J40:∀ kq38,kq38≤k11→∀(G:NV)(y36:Bool)(a:Act)(w':World),Env 49 G a→At G [(0,.slice (some ad19) x.length c0_0),(8,.slice (some ad19) x.length c0_0),(9,iv (x.length:Int)),(10,iv x8),(47,.bool y36)]→Sm W F w' F [box b23 #[iv ((nth qB.z x x8).f0),iv ((nth qB.z x x8).f1)] 139]→qAq.j37 kq38 x x8 y36=some r→K26 a w':=by
  intro kq38 hkq G y36 a u41 E A S H
  obtain _ | k39:=kq38
  exact zz H
  rw [qAq.j37_s]at H
  obtain ⟨J,E⟩:=E.at A
  refine hK26 _ _ (E.ib 47 H (fun c42 E H=>?_) fun c42 E H=>?_)
  refine rr E fun a E=>(wp_ret (qCR (qCQ (qCQ (qCR (qCQ ?_))))))
  replace S:=S.tail
  obtain rfl:=si H
  exact rt1 E ⟨_,rfl,_,rfl,S⟩
  refine wp_skip ?_
  refine qCS ?_
  refine hK16 _ _ (pl0 (plc E (.r 0 2 .nil) (fun a E=>pld ?_)))
  replace S:=S.tail
  exact qCT ⟨k39,by omega,_,(w64 (x8+1)),by omega,E,.of,S,H⟩
 refine drawn 33 ⟨[],[],fun q=>False⟩ mixed rfl (by kernel_rfl) (fun hst=>?_)
 replace S:=S.drew
 have hb23:=S.ba 0
 refine mny 29 hst E (.r 0 1<|.b 1 0 hb23<|.r 2 2<|.nil) (fun a E=>?_)
 refine E.fk 18 H (fun c27 E H=>?_) fun c27 E H=>?_
 refine mny 0 hst E (.r 4 29 .nil) (fun a E=>?_)
 refine dn ?_
 exact J40 _ (by omega) _ true _ _ E .of S H
 refine mny 24 hst E (.r 4 1<|.b 5 0 hb23<|.r 6 3<|.nil) (fun a E=>?_)
 refine E.fk 23 H (fun c28 E H=>?_) fun c28 E H=>?_
 refine mny 0 hst E (.r 9 24 .nil) (fun a E=>?_)
 refine dn ?_
 exact J40 _ (by omega) _ true _ _ E .of S H
 refine mny 19 hst E (.r 9 1<|.b 10 1 hb23<|.r 11 3<|.nil) (fun a E=>?_)
 refine E.fk 28 H (fun c29 E H=>?_) fun c29 E H=>?_
 refine mny 0 hst E (.r 14 19 .nil) (fun a E=>?_)
 refine dn ?_
 exact J40 _ (by omega) _ true _ _ E .of S H
 refine mny 14 hst E (.r 14 1<|.b 15 1 hb23<|.r 16 3<|.nil) (fun a E=>?_)
 refine E.fk 33 H (fun c30 E H=>?_) fun c30 E H=>?_
 refine mny 0 hst E (.r 19 14 .nil) (fun a E=>?_)
 refine dn ?_
 exact J40 _ (by omega) _ true _ _ E .of S H
 refine mny 11 hst E (.r 19 3 .nil) (fun a E=>?_)
 refine E.fk 36 H (fun c31 E H=>?_) fun c31 E H=>?_
 obtain ⟨c32,H⟩:=gd H
 obtain ⟨cs34,rfl,hc35⟩:=g0_0.el qB.z (w64 (x8 - 1)) c32.1 c32.2
 refine mny 0 hst E (.r 22 1<|.b 23 0 hb23<|.r 24 3<|.x 27 c32<|.r 28 1<|.c 29 (S.fc hc35 0)<|.r 30 3<|.nil) (fun a E=>?_)
 refine dn ?_
 exact J40 _ (by omega) _ (decide ((nth qB.z x x8).f0≤(nth qB.z x (w64 (x8 - 1))).f0)) _ _ E .of S H
 refine mny 0 hst E (.r 22 11 .nil) (fun a E=>?_)
 refine dn ?_
 exact J40 _ (by omega) _ false _ _ E .of S H
 refine wp_exit ?_
 refine hK6 _ _ (rr E fun a E=>(wp_ret ?_))
 obtain rfl:=si H
 exact rt1 E ⟨_,rfl,_,rfl,S⟩
def qAg.f(x:List qB):Option (List qB):=if ((([]:List qB).length:Int)+(x.length:Int)) * 16≤140737488355328 then (some (([]:List qB)++x)) else (none)
def qAg.Post(W F:World)(r:List qB)(v:Value)(w':World):Prop:=∃(F':World)(RA0_0:OA)(rc0_0:Nat),v = .slice RA0_0 r.length rc0_0∧Sm W F w' F' [row qB.k 139 (.slice RA0_0 r.length rc0_0) r]
theorem qAg.calls(x:List qB)(A0_0:OA)(c0_0:Nat)(r:List qB)(W F:World)(hown:Sub F W)(g0_0:Rd qB.k F A0_0 c0_0 x)(H:qAg.f x=some r):
    Cr 205 #[.slice A0_0 x.length c0_0] W (qAg.Post W F r):=by
 have S:=sT hown
 unfold qAg.f at H
 refine ent 8 rfl rfl rfl (fun a E=>?_)
 rcases A0_0 with _ | ad1
 have hnil:=g0_0.none_nil
 replace H:(some [])=some r:=by simpa [hnil] using H
 refine rr E fun a E=>(sq fun K3 hK3=>rr E fun a E=>(ct E (rr E fun a E=>(wp_ret (qCQ ?_)))))
 replace S:=S.nilrow qB.k 139
 obtain rfl:=si H
 exact rt1 E ⟨_,rfl,_,_,_,rfl,S⟩
 refine rr E fun a E=>(sq fun K8 hK8=>rr E fun a E=>(cf E (wp_skip (hK8 _ _ (sq fun K10 hK10=>pl0 (ple E (.lit (d:=qB.k) (e:=139) S ([]:List qB) (.nil)) ?_))))))
 rintro _ u11 a ⟨A12,c13,rfl,S,hg⟩ E
 refine plc E (.r 1 1 .nil) (fun a E=>?_)
 obtain ⟨c15,H⟩:=gd H
 refine ple E (.ap (d:=qB.k) 16 S (g0_0.src S.own.sub) c15 c0_0) ?_
 rintro _ u18 a ⟨A16,c17,rfl,S,hz⟩ E
 refine plc E (.r 3 1 .nil) (fun a E=>pld (hK10 _ _ (wp_ret ?_)))
 obtain rfl:=si H
 exact rt1 E ⟨_,rfl,_,_,_,rfl,S⟩
def qBk.f(x:qB):Option Bool:=some (x.f1 == 0)
def qBk.Post(W F:World)(r:Bool)(v:Value)(w':World):Prop:=∃(F':World),v = .bool r∧Sm W F w' F' []
theorem qBk.calls(x:qB)(r:Bool)(W F:World)(hown:Sub F W)(H:qBk.f x=some r):
    Cr 206 #[.agg #[iv x.f0,iv x.f1]] W (qBk.Post W F r):=by
 have S:=sT hown
 unfold qBk.f at H
 refine ent 6 rfl rfl rfl (fun a E=>?_)
 refine sq fun K1 hK1=>pl0 (plx (t:=139) E S [iv x.f0,iv x.f1] fun b2 u3 hb2 S a E=>plc E (.r 1 1 .nil) (fun a E=>pld (hK1 _ _ (rg E (.r 0 1<|.b 1 1 hb2<|.r 2 2<|.nil) fun a E=>(wp_ret ?_)))))
 replace S:=S.tail
 obtain rfl:=si H
 exact rt1 E ⟨_,rfl,_,rfl,S⟩
end Go.Proofs.YthgfhlbjkmjlpaaGreat.PG
