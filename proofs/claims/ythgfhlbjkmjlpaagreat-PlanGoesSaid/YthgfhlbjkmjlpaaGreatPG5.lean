import Derived.Test.YthgfhlbjkmjlpaaGreatPG4
namespace Go.Proofs.YthgfhlbjkmjlpaaGreat.PG
open Go Go.RowKit Go.Proofs.YthgfhlbjkmjlpaaGreat.Sl
set_option linter.unusedVariables false
set_option linter.unusedSimpArgs false
set_option maxHeartbeats 4000000
set_option maxRecDepth 100000
def qBi.l6:Nat→Int→Int→Option Int
 | 0,_,_=>none
 | k+1,x4,x5=>if x5<2 then (qBi.l6 k (IntKind.u64.wrap ((IntKind.u64.wrap (((BitVec.ofInt 64 x4 ^^^ BitVec.ofInt 64 (x4.fdiv 4294967296)).toNat:Int))) * 15485907386658061715)) (w64 (x5+1))) else (some (IntKind.u64.wrap (((BitVec.ofInt 64 x4 ^^^ BitVec.ofInt 64 (x4.fdiv 4294967296)).toNat:Int))))
theorem qBi.l6_s k x4 x5:type_of% (qBi.l6.eq_2 x4 x5 k):=qBi.l6.eq_2 x4 x5 k
def qBi.f(k:Nat)(x:Int):Option Int:=qBi.l6 k x 0
def qBi.Post(W F:World)(r:Int)(v:Value)(w':World):Prop:=∃(F':World),v = .int .u64 r∧Sm W F w' F' []
theorem qBi.calls(k:Nat)(x:Int)(r:Int)(W F:World)(hown:Sub F W)(H:qBi.f k x=some r):
    Cr 210 #[.int .u64 x] W (qBi.Post W F r):=by
 have S:=sT hown
 unfold qBi.f at H
 refine ent 16 rfl rfl rfl (fun a E=>?_)
 refine rr E fun a E=>(sq fun K2 hK2=>rr E fun a E=>(wp_block ?_))
 refine wp_loop_ghost (fun kq7 a w'=>∃(G:NV)(x4:Int)(x5:Int),kq7≤k∧Env 16 G a∧At G [(0,.int .u64 x4),(3,iv x5)]∧Sm W F w' F []∧qBi.l6 kq7 x4 x5=some r) k ⟨_,x,0,Nat.le_refl _,E,.of,S,H⟩ ?_
 rintro kq7 a u9 ⟨G,x4,x5,hkq,E,A,S,H⟩
 obtain _ | k8:=kq7
 exact zz H
 rw [qBi.l6_s]at H
 obtain ⟨J,E⟩:=E.at A
 refine rr E fun a E=>(sq fun K11 hK11=>E.ik 4 H (fun c12 E H=>?_) fun c12 E H=>?_)
 refine wp_skip (hK11 _ _ (sq fun K13 hK13=>wp_block (rr E fun a E=>(pl0 (plc E (.r 0 3 .nil) (fun a E=>pld ?_))))))
 refine qCS ?_
 refine hK13 _ _ (pl0 (plc E (.r 0 2 .nil) (fun a E=>pld ?_)))
 exact qCT ⟨k8,by omega,_,(IntKind.u64.wrap ((IntKind.u64.wrap (((BitVec.ofInt 64 x4 ^^^ BitVec.ofInt 64 (x4.fdiv 4294967296)).toNat:Int))) * 15485907386658061715)),(w64 (x5+1)),by omega,E,.of,S,H⟩
 refine wp_exit ?_
 refine hK2 _ _ (rr E fun a E=>(wp_ret ?_))
 obtain rfl:=si H
 exact rt1 E ⟨_,rfl,_,rfl,S⟩
def qBU.l10:Nat→List Int→Int→Int→Option Int
 | 0,_,_,_=>none
 | k+1,y,x8,x9=>if x9<(y.length:Int) then (if 0≤x9∧x9<(y.length:Int) then ((qBi.f k (IntKind.u64.wrap ((IntKind.u64.wrap (((BitVec.ofInt 64 x8 ^^^ BitVec.ofInt 64 (nth 0 y x9)).toNat:Int)))+11400714819323198485))).bind fun t25=>(qBU.l10 k y t25 (w64 (x9+1)))) else (none)) else (some x8)
theorem qBU.l10_s k y x8 x9:type_of% (qBU.l10.eq_2 y x8 x9 k):=qBU.l10.eq_2 y x8 x9 k
def qBU.f(k:Nat)(x:Int)(y:List Int):Option Int:=(qBi.f k x).bind fun t4=>(qBU.l10 k y t4 0)
def qBU.Post(W F:World)(r:Int)(v:Value)(w':World):Prop:=∃(F':World),v = .int .u64 r∧Sm W F w' F' []
theorem qBU.calls(k:Nat)(x:Int)(y:List Int)(A1_0:OA)(c1_0:Nat)(r:Int)(W F:World)(hown:Sub F W)(g1_0:Rd (Kn.int .u64) F A1_0 c1_0 y)(H:qBU.f k x y=some r):
    Cr 189 #[.int .u64 x,.slice A1_0 y.length c1_0] W (qBU.Post W F r):=by
 have S:=sT hown
 unfold qBU.f at H
 refine ent 23 rfl rfl rfl (fun a E=>?_)
 refine rr E fun a E=>(sq fun K2 hK2=>pl0 (plc E (.r 0 1 .nil) (fun a E=>?_)))
 obtain ⟨t4,h5,H⟩:=bd H
 refine plq E S en210 (qBi.calls k x _ _ _ S.own.sub h5) fun u3 S a E=>plc E (.r 2 1 .nil) (fun a E=>pld (hK2 _ _ (sq fun K6 hK6=>rr E fun a E=>(wp_block ?_))))
 refine wp_loop_ghost (fun kq11 a w'=>∃(G:NV)(x8:Int)(x9:Int),kq11≤k∧Env 23 G a∧At G [(5,.int .u64 x8),(10,.slice A1_0 y.length c1_0),(11,iv (y.length:Int)),(12,iv x9)]∧Sm W F w' F []∧qBU.l10 kq11 y x8 x9=some r) k ⟨_,t4,0,Nat.le_refl _,E,.of,S,H⟩ ?_
 rintro kq11 a u13 ⟨G,x8,x9,hkq,E,A,S,H⟩
 obtain _ | k12:=kq11
 exact zz H
 rw [qBU.l10_s]at H
 obtain ⟨J,E⟩:=E.at A
 refine rr E fun a E=>(sq fun K15 hK15=>E.ik 13 H (fun c16 E H=>?_) fun c16 E H=>?_)
 refine wp_skip (hK15 _ _ (sq fun K17 hK17=>wp_block (sq fun K18 hK18=>pl0 ?_)))
 obtain ⟨c19,H⟩:=gd H
 have hE_:=E
 obtain ⟨ad20,rfl⟩:=g1_0.addr c19.1 c19.2
 replace E:=hE_
 obtain ⟨cs22,rfl,hc23⟩:=g1_0.el 0 x9 c19.1 c19.2
 refine plc E (.x 0 c19<|.c 1 (S.fc hc23 0)<|.r 2 1<|.nil) (fun a E=>pld (hK18 _ _ (pl0 (plc E (.r 0 4 .nil) (fun a E=>?_)))))
 obtain ⟨t25,h26,H⟩:=bd H
 refine plq E S en210 (qBi.calls k12 (IntKind.u64.wrap ((IntKind.u64.wrap (((BitVec.ofInt 64 x8 ^^^ BitVec.ofInt 64 (nth 0 y x9)).toNat:Int)))+11400714819323198485)) _ _ _ S.own.sub h26) fun u24 S a E=>plc E (.r 5 1 .nil) (fun a E=>pld ?_)
 refine qCS ?_
 refine hK17 _ _ (pl0 (plc E (.r 0 2 .nil) (fun a E=>pld ?_)))
 exact qCT ⟨k12,by omega,_,t25,(w64 (x9+1)),by omega,E,.of,S,H⟩
 refine wp_exit ?_
 refine hK6 _ _ (rr E fun a E=>(wp_ret ?_))
 obtain rfl:=si H
 exact rt1 E ⟨_,rfl,_,rfl,S⟩
mutual
def qAO.j6:Nat→Int→Bool→Option Int
 | 0,_,_=>none
 | k+1,x,y5=>if y5=true then (some 0) else (qAO.l17 k x 0)
def qAO.l17:Nat→Int→Int→Option Int
 | 0,_,_=>none
 | k+1,x15,x16=>if x15≤32768 then (qAO.l17 k (w64 (x15 * 2)) (w64 (x16+1))) else (qAO.l31 k x16 (IntKind.u64.wrap ((IntKind.u64.wrap x15) * 32768)) 0 0)
def qAO.l31:Nat→Int→Int→Int→Int→Option Int
 | 0,_,_,_,_=>none
 | k+1,x16,x28,x29,x30=>if x30<16 then (if (IntKind.u64.wrap ((IntKind.u64.wrap (x28 * x28)).tdiv 2147483648))≤1073741824 then (qAO.l31 k x16 (IntKind.u64.wrap ((IntKind.u64.wrap ((IntKind.u64.wrap (x28 * x28)).tdiv 2147483648)) * 2)) (w64 ((w64 (x29 * 2))+1)) (w64 (x30+1))) else (qAO.l31 k x16 (IntKind.u64.wrap ((IntKind.u64.wrap (x28 * x28)).tdiv 2147483648)) (w64 (x29 * 2)) (w64 (x30+1)))) else (some (w64 ((w64 (x16 * 65536))+x29)))
end
theorem qAO.j6_s k x y5:type_of% (qAO.j6.eq_2 x y5 k):=qAO.j6.eq_2 x y5 k
theorem qAO.l17_s k x15 x16:type_of% (qAO.l17.eq_2 x15 x16 k):=qAO.l17.eq_2 x15 x16 k
theorem qAO.l31_s k x16 x28 x29 x30:type_of% (qAO.l31.eq_2 x16 x28 x29 x30 k):=qAO.l31.eq_2 x16 x28 x29 x30 k
def qAO.f(k:Nat)(x:Int):Option Int:=if x<1 then (qAO.j6 k x true) else (qAO.j6 k x (decide (x>65536)))
def qAO.Post(W F:World)(r:Int)(v:Value)(w':World):Prop:=∃(F':World),v=iv r∧Sm W F w' F' []
theorem qAO.calls(k:Nat)(x:Int)(r:Int)(W F:World)(hown:Sub F W)(H:qAO.f k x=some r):
    Cr 225 #[iv x] W (qAO.Post W F r):=by
 have S:=sT hown
 unfold qAO.f at H
 refine ent 40 rfl rfl rfl (fun a E=>?_)
 refine rr E fun a E=>(sq fun K2 hK2=>sq fun K3 hK3=>?_)
 have J9:∀ kq7,kq7≤k→∀(G:NV)(y5:Bool)(a:Act)(w':World),Env 40 G a→At G [(0,iv x),(11,.bool y5)]→Sm W F w' F []→qAO.j6 kq7 x y5=some r→K3 a w':=by
  intro kq7 hkq G y5 a u10 E A S H
  obtain _ | k8:=kq7
  exact zz H
  rw [qAO.j6_s]at H
  obtain ⟨J,E⟩:=E.at A
  refine hK3 _ _ (E.ib 11 H (fun c11 E H=>?_) fun c11 E H=>?_)
  refine rr E fun a E=>(wp_ret (qCQ ?_))
  obtain rfl:=si H
  exact rt1 E ⟨_,rfl,_,rfl,S⟩
  refine wp_skip (hK2 _ _ (rr E fun a E=>(sq fun K14 hK14=>wp_block ?_)))
  refine wp_loop_ghost (fun kq18 a w'=>∃(G:NV)(x15:Int)(x16:Int),kq18≤k8∧Env 40 G a∧At G [(0,iv x15),(3,iv x16)]∧Sm W F w' F []∧qAO.l17 kq18 x15 x16=some r) k8 ⟨_,x,0,Nat.le_refl _,E,.of,S,H⟩ ?_
  rintro kq18 a u20 ⟨G,x15,x16,hkq,E,A,S,H⟩
  obtain _ | k19:=kq18
  exact zz H
  rw [qAO.l17_s]at H
  obtain ⟨J,E⟩:=E.at A
  refine sq fun K21 hK21=>rr E fun a E=>(E.ik 13 H (fun c23 E H=>?_) fun c23 E H=>?_)
  refine wp_skip (hK21 _ _ (sq fun K24 hK24=>wp_block (pl0 (plc E (.r 0 3 .nil) (fun a E=>pld ?_)))))
  refine qCS ?_
  refine hK24 _ _ (pl0 (plc E (.r 0 3 .nil) (fun a E=>pld ?_)))
  exact qCT ⟨k19,by omega,_,(w64 (x15 * 2)),(w64 (x16+1)),by omega,E,.of,S,H⟩
  refine wp_exit ?_
  refine hK14 _ _ (rr E fun a E=>(sq fun K26 hK26=>rr E fun a E=>(wp_block ?_)))
  refine wp_loop_ghost (fun kq32 a w'=>∃(G:NV)(x28:Int)(x29:Int)(x30:Int),kq32≤k19∧Env 40 G a∧At G [(3,iv x16),(4,.int .u64 x28),(5,iv x29),(21,iv x30)]∧Sm W F w' F []∧qAO.l31 kq32 x16 x28 x29 x30=some r) k19 ⟨_,(IntKind.u64.wrap ((IntKind.u64.wrap x15) * 32768)),0,0,Nat.le_refl _,E,.of,S,H⟩ ?_
  rintro kq32 a u34 ⟨G,x28,x29,x30,hkq,E,A,S,H⟩
  obtain _ | k33:=kq32
  exact zz H
  rw [qAO.l31_s]at H
  obtain ⟨J,E⟩:=E.at A
  refine rr E fun a E=>(sq fun K36 hK36=>E.ik 22 H (fun c37 E H=>?_) fun c37 E H=>?_)
  refine wp_skip (hK36 _ _ (sq fun K38 hK38=>wp_block (rr E fun a E=>(rr E fun a E=>(rr E fun a E=>(E.ik 30 H (fun c42 E H=>?_) fun c42 E H=>?_))))))
  refine rr E fun a E=>(pl0 (plc E (.r 0 3 .nil) (fun a E=>pld ?_)))
  refine qCS ?_
  refine hK38 _ _ (pl0 (plc E (.r 0 2 .nil) (fun a E=>pld ?_)))
  exact qCT ⟨k33,by omega,_,(IntKind.u64.wrap ((IntKind.u64.wrap ((IntKind.u64.wrap (x28 * x28)).tdiv 2147483648)) * 2)),(w64 ((w64 (x29 * 2))+1)),(w64 (x30+1)),by omega,E,.of,S,H⟩
  refine wp_skip ?_
  refine qCS ?_
  refine hK38 _ _ (pl0 (plc E (.r 0 2 .nil) (fun a E=>pld ?_)))
  exact qCT ⟨k33,by omega,_,(IntKind.u64.wrap ((IntKind.u64.wrap (x28 * x28)).tdiv 2147483648)),(w64 (x29 * 2)),(w64 (x30+1)),by omega,E,.of,S,H⟩
  refine wp_exit ?_
  refine hK26 _ _ (rr E fun a E=>(wp_ret ?_))
  obtain rfl:=si H
  exact rt1 E ⟨_,rfl,_,rfl,S⟩
 refine pl0 (plc E (.r 0 3 .nil) (fun a E=>E.fk 8 H (fun c4 E H=>?_) fun c4 E H=>?_))
 refine plc E (.r 3 3 .nil) (fun a E=>pld ?_)
 exact J9 _ (by omega) _ true _ _ E .of S H
 refine plc E (.r 3 3 .nil) (fun a E=>pld ?_)
 exact J9 _ (by omega) _ (decide (x>65536)) _ _ E .of S H
def qBy.f(k:Nat)(x:Int)(y:Int):Option Int:=(qBU.f k x [(IntKind.u64.wrap y)]).bind fun t8=>((qAO.f k (w64 (1+(w64 (t8.fdiv 281474976710656))))).bind fun t11=>(some t11))
def qBy.Post(W F:World)(r:Int)(v:Value)(w':World):Prop:=∃(F':World),v=iv r∧Sm W F w' F' []
theorem qBy.calls(k:Nat)(x:Int)(y:Int)(r:Int)(W F:World)(hown:Sub F W)(H:qBy.f k x y=some r):
    Cr 215 #[.int .u64 x,iv y] W (qBy.Post W F r):=by
 have S:=sT hown
 unfold qBy.f at H
 refine ent 14 rfl rfl rfl (fun a E=>?_)
 refine rr E fun a E=>(sq fun K2 hK2=>pl0 (plc E (.r 0 3 .nil) (fun a E=>ple E (.lit (d:=(Kn.int .u64)) (e:=148) S [(IntKind.u64.wrap y)] (.cons rfl .nil)) ?_)))
 rintro _ u3 a ⟨A4,c5,rfl,S,hg⟩ E
 obtain ⟨t8,h9,H⟩:=bd H
 refine plq E S en189 (qBU.calls k x [(IntKind.u64.wrap y)] _ _ _ _ _ (Sub.refl _) (S.rd_at (i:=0) rfl) h9) fun u7 S a E=>plc E (.r 5 3 .nil) (fun a E=>?_)
 obtain ⟨t11,h12,H⟩:=bd H
 refine plq E S en225 (qAO.calls k (w64 (1+(w64 (t8.fdiv 281474976710656)))) _ _ _ S.own.sub h12) fun u10 S a E=>plc E (.r 9 1 .nil) (fun a E=>pld (hK2 _ _ (wp_ret ?_)))
 replace S:=S.tail
 obtain rfl:=si H
 exact rt1 E ⟨_,rfl,_,rfl,S⟩
def qBg.f(x:Int):Option Bool:=if x≥0 then (some (decide (x≤2147483647))) else (some false)
def qBg.Post(W F:World)(r:Bool)(v:Value)(w':World):Prop:=∃(F':World),v = .bool r∧Sm W F w' F' []
theorem qBg.calls(x:Int)(r:Bool)(W F:World)(hown:Sub F W)(H:qBg.f x=some r):
    Cr 226 #[iv x] W (qBg.Post W F r):=by
 have S:=sT hown
 unfold qBg.f at H
 refine ent 9 rfl rfl rfl (fun a E=>?_)
 refine rr E fun a E=>(sq fun K2 hK2=>pl0 (plc E (.r 0 3 .nil) (fun a E=>E.fk 5 H (fun c3 E H=>?_) fun c3 E H=>?_)))
 refine plc E (.r 3 4 .nil) (fun a E=>pld (hK2 _ _ (wp_ret ?_)))
 obtain rfl:=si H
 exact rt1 E ⟨_,rfl,_,rfl,S⟩
 refine plc E (.r 3 4 .nil) (fun a E=>pld (hK2 _ _ (wp_ret ?_)))
 obtain rfl:=si H
 exact rt1 E ⟨_,rfl,_,rfl,S⟩
def qBV.f(x:Int)(y:Int)(z:Int)(p:Int):Option Bool:=(qBg.f x).bind fun t4=>(if t4=true then ((qBg.f y).bind fun t8=>(if t8=true then ((qBg.f z).bind fun t12=>(if t12=true then ((qBg.f p).bind fun t16=>(if t16=true then (if y>0 then (if p>0 then (some (decide ((w64 (x * p))<(w64 (z * y))))) else (some false)) else (some false)) else (some false))) else (some false))) else (some false))) else (some false))
def qBV.Post(W F:World)(r:Bool)(v:Value)(w':World):Prop:=∃(F':World),v = .bool r∧Sm W F w' F' []
theorem qBV.calls(x:Int)(y:Int)(z:Int)(p:Int)(r:Bool)(W F:World)(hown:Sub F W)(H:qBV.f x y z p=some r):
    Cr 216 #[iv x,iv y,iv z,iv p] W (qBV.Post W F r):=by
 have S:=sT hown
 unfold qBV.f at H
 refine ent 40 rfl rfl rfl (fun a E=>?_)
 refine rr E fun a E=>(sq fun K2 hK2=>pl0 (plc E (.r 0 1 .nil) (fun a E=>?_)))
 obtain ⟨t4,h5,H⟩:=bd H
 refine plq E S en226 (qBg.calls x _ _ _ S.own.sub h5) fun u3 S a E=>plc E (.r 2 1 .nil) (fun a E=>E.fb 11 H (fun c6 E H=>?_) fun c6 E H=>?_)
 refine plc E (.r 3 1 .nil) (fun a E=>?_)
 obtain ⟨t8,h9,H⟩:=bd H
 refine plq E S en226 (qBg.calls y _ _ _ S.own.sub h9) fun u7 S a E=>plc E (.r 5 2 .nil) (fun a E=>E.fb 15 H (fun c10 E H=>?_) fun c10 E H=>?_)
 refine plc E (.r 7 1 .nil) (fun a E=>?_)
 obtain ⟨t12,h13,H⟩:=bd H
 refine plq E S en226 (qBg.calls z _ _ _ S.own.sub h13) fun u11 S a E=>plc E (.r 9 2 .nil) (fun a E=>E.fb 19 H (fun c14 E H=>?_) fun c14 E H=>?_)
 refine plc E (.r 11 1 .nil) (fun a E=>?_)
 obtain ⟨t16,h17,H⟩:=bd H
 refine plq E S en226 (qBg.calls p _ _ _ S.own.sub h17) fun u15 S a E=>plc E (.r 13 2 .nil) (fun a E=>E.fb 23 H (fun c18 E H=>?_) fun c18 E H=>?_)
 refine plc E (.r 15 4 .nil) (fun a E=>E.fk 27 H (fun c19 E H=>?_) fun c19 E H=>?_)
 refine plc E (.r 19 4 .nil) (fun a E=>E.fk 31 H (fun c20 E H=>?_) fun c20 E H=>?_)
 refine plc E (.r 23 9 .nil) (fun a E=>pld (hK2 _ _ (wp_ret ?_)))
 obtain rfl:=si H
 exact rt1 E ⟨_,rfl,_,rfl,S⟩
 refine plc E (.r 23 9 .nil) (fun a E=>pld (hK2 _ _ (wp_ret ?_)))
 obtain rfl:=si H
 exact rt1 E ⟨_,rfl,_,rfl,S⟩
 refine plc E (.r 19 13 .nil) (fun a E=>pld (hK2 _ _ (wp_ret ?_)))
 obtain rfl:=si H
 exact rt1 E ⟨_,rfl,_,rfl,S⟩
 refine plc E (.r 15 17 .nil) (fun a E=>pld (hK2 _ _ (wp_ret ?_)))
 obtain rfl:=si H
 exact rt1 E ⟨_,rfl,_,rfl,S⟩
 refine plc E (.r 11 21 .nil) (fun a E=>pld (hK2 _ _ (wp_ret ?_)))
 obtain rfl:=si H
 exact rt1 E ⟨_,rfl,_,rfl,S⟩
 refine plc E (.r 7 25 .nil) (fun a E=>pld (hK2 _ _ (wp_ret ?_)))
 obtain rfl:=si H
 exact rt1 E ⟨_,rfl,_,rfl,S⟩
 refine plc E (.r 3 29 .nil) (fun a E=>pld (hK2 _ _ (wp_ret ?_)))
 obtain rfl:=si H
 exact rt1 E ⟨_,rfl,_,rfl,S⟩
def qBl.f(k:Nat)(x:Int)(y:qB)(z:qB):Option Int:=(qBy.f k x y.f0).bind fun t8=>((qBy.f k x z.f0).bind fun t11=>((qBV.f t8 y.f1 t11 z.f1).bind fun t16=>(if t16=true then (some (-1)) else ((qBV.f t11 z.f1 t8 y.f1).bind fun t22=>(if t22=true then (some 1) else (some (w64 (y.f0 - z.f0))))))))
def qBl.Post(W F:World)(r:Int)(v:Value)(w':World):Prop:=∃(F':World),v=iv r∧Sm W F w' F' []
theorem qBl.calls(k:Nat)(x:Int)(y:qB)(z:qB)(r:Int)(W F:World)(hown:Sub F W)(H:qBl.f k x y z=some r):
    Cr 209 #[.int .u64 x,.agg #[iv y.f0,iv y.f1],.agg #[iv z.f0,iv z.f1]] W (qBl.Post W F r):=by
 have S:=sT hown
 unfold qBl.f at H
 refine ent 38 rfl rfl rfl (fun a E=>?_)
 refine sq fun K1 hK1=>pl0 (plx (t:=139) E S [iv y.f0,iv y.f1] fun b2 u3 hb2 S a E=>plx (t:=139) E S [iv z.f0,iv z.f1] fun b4 u5 hb4 S a E=>plc E (.r 2 1 .nil) (fun a E=>pld (hK1 _ _ (sq fun K6 hK6=>?_))))
 refine drawn 10 ⟨[],[],fun q=>False⟩ mixed rfl (by kernel_rfl) (fun hst=>?_)
 replace S:=S.drew
 have hb2:=S.ba 1
 have hb4:=S.ba 0
 refine mny 4 hst E (.r 0 2<|.b 2 0 hb2<|.r 4 2<|.b 6 0 hb4<|.nil) (fun a E=>?_)
 obtain ⟨t8,h9,H⟩:=bd H
 refine on1 3 E (.cl en215 (qBy.calls k x y.f0 _ _ _ S.own.sub h9)) ?_
 rintro _ u7 a ⟨_,rfl,hC⟩ E
 refine ⟨.of hC.agr,?_⟩
 replace S:=S.lent hC
 obtain ⟨t11,h12,H⟩:=bd H
 refine on1 7 E (.cl en215 (qBy.calls k x z.f0 _ _ _ S.own.sub h12)) ?_
 rintro _ u10 a ⟨_,rfl,hC⟩ E
 refine ⟨.of hC.agr,?_⟩
 replace S:=S.lent hC
 refine mny 0 hst E (.r 8 2 .nil) (fun a E=>?_)
 refine dn ?_
 refine hK6 _ _ (sq fun K13 hK13=>wp_block (sq fun K14 hK14=>pl0 (plc E (.r 0 2<|.b 2 1 (S.ba 1)<|.r 3 2<|.b 5 1 (S.ba 0)<|.nil) (fun a E=>?_))))
 obtain ⟨t16,h17,H⟩:=bd H
 refine plq E S en216 (qBV.calls t8 y.f1 t11 z.f1 _ _ _ S.own.sub h17) fun u15 S a E=>plc E (.r 7 1 .nil) (fun a E=>pld (hK14 _ _ (E.ib 17 H (fun c18 E H=>?_) fun c18 E H=>?_)))
 refine rr E fun a E=>(wp_ret (qCR (qCQ ?_)))
 replace S:=S.pm [] 2
 obtain rfl:=si H
 exact rt1 E ⟨_,rfl,_,rfl,S⟩
 refine sq fun K20 hK20=>pl0 (plc E (.r 0 2<|.b 2 1 (S.ba 0)<|.r 3 2<|.b 5 1 (S.ba 1)<|.nil) (fun a E=>?_))
 obtain ⟨t22,h23,H⟩:=bd H
 refine plq E S en216 (qBV.calls t11 z.f1 t8 y.f1 _ _ _ S.own.sub h23) fun u21 S a E=>plc E (.r 7 1 .nil) (fun a E=>pld (hK20 _ _ (E.ib 25 H (fun c24 E H=>?_) fun c24 E H=>?_)))
 refine rr E fun a E=>(wp_ret (qCR (qCQ ?_)))
 replace S:=S.pm [] 2
 obtain rfl:=si H
 exact rt1 E ⟨_,rfl,_,rfl,S⟩
 refine wp_skip ?_
 refine qCS ?_
 refine hK13 _ _ (rg E (.r 0 1<|.b 1 0 (S.ba 1)<|.r 2 1<|.b 3 0 (S.ba 0)<|.r 4 2<|.nil) fun a E=>(wp_ret ?_))
 replace S:=S.pm [] 2
 obtain rfl:=si H
 exact rt1 E ⟨_,rfl,_,rfl,S⟩
def qM.l5:Nat→List qB→Int→Option Int
 | 0,_,_=>none
 | k+1,x,x4=>if x4<(x.length:Int) then (if 0≤x4∧x4<(x.length:Int) then ((qBk.f (nth qB.z x x4)).bind fun t21=>(if t21=true then (some x4) else (qM.l5 k x (w64 (x4+1))))) else (none)) else (some (-1))
theorem qM.l5_s k x x4:type_of% (qM.l5.eq_2 x x4 k):=qM.l5.eq_2 x x4 k
def qM.f(k:Nat)(x:List qB):Option Int:=qM.l5 k x 0
def qM.Post(W F:World)(r:Int)(v:Value)(w':World):Prop:=∃(F':World),v=iv r∧Sm W F w' F' []
theorem qM.calls(k:Nat)(x:List qB)(A0_0:OA)(c0_0:Nat)(r:Int)(W F:World)(hown:Sub F W)(g0_0:Rd qB.k F A0_0 c0_0 x)(H:qM.f k x=some r):
    Cr 213 #[.slice A0_0 x.length c0_0,.func (.func 206) #[] #[]] W (qM.Post W F r):=by
 have S:=sT hown
 unfold qM.f at H
 refine ent 19 rfl rfl rfl (fun a E=>?_)
 refine rr E fun a E=>(sq fun K2 hK2=>rr E fun a E=>(wp_block ?_))
 refine wp_loop_ghost (fun kq6 a w'=>∃(G:NV)(x4:Int),kq6≤k∧Env 19 G a∧At G [(0,.slice A0_0 x.length c0_0),(1,.func (.func 206) #[] #[]),(7,iv (x.length:Int)),(8,iv x4)]∧Sm W F w' F []∧qM.l5 kq6 x x4=some r) k ⟨_,0,Nat.le_refl _,E,.of,S,H⟩ ?_
 rintro kq6 a u8 ⟨G,x4,hkq,E,A,S,H⟩
 obtain _ | k7:=kq6
 exact zz H
 rw [qM.l5_s]at H
 obtain ⟨J,E⟩:=E.at A
 refine rr E fun a E=>(sq fun K10 hK10=>E.ik 9 H (fun c11 E H=>?_) fun c11 E H=>?_)
 refine wp_skip (hK10 _ _ (sq fun K12 hK12=>wp_block (rr E fun a E=>(sq fun K14 hK14=>pl0 ?_))))
 obtain ⟨c15,H⟩:=gd H
 have hE_:=E
 obtain ⟨ad16,rfl⟩:=g0_0.addr c15.1 c15.2
 replace E:=hE_
 obtain ⟨cs18,rfl,hc19⟩:=g0_0.el qB.z x4 c15.1 c15.2
 refine plc E (.r 0 3<|.x 3 c15<|.cs 4 (S.fcs hc19)<|.nil) (fun a E=>?_)
 obtain ⟨t21,h22,H⟩:=bd H
 refine plq E S en206 (qBk.calls (nth qB.z x x4) _ _ _ S.own.sub h22) fun u20 S a E=>pld (hK14 _ _ (E.ib 16 H (fun c23 E H=>?_) fun c23 E H=>?_))
 refine rr E fun a E=>(wp_ret (qCR (qCQ (qCQ (qCR (qCQ ?_))))))
 obtain rfl:=si H
 exact rt1 E ⟨_,rfl,_,rfl,S⟩
 refine wp_skip ?_
 refine qCS ?_
 refine hK12 _ _ (pl0 (plc E (.r 0 2 .nil) (fun a E=>pld ?_)))
 exact qCT ⟨k7,by omega,_,(w64 (x4+1)),by omega,E,.of,S,H⟩
 refine wp_exit ?_
 refine hK2 _ _ (rr E fun a E=>(wp_ret ?_))
 obtain rfl:=si H
 exact rt1 E ⟨_,rfl,_,rfl,S⟩
def qO.l15:Nat→List qB→List qB→Int→Int→Option (List qB)
 | 0,_,_,_,_=>none
 | k+1,x,l12,x13,x14=>if x14<(x.length:Int) then (if 0≤x14∧x14<(x.length:Int) then ((qBk.f (nth qB.z l12 x14)).bind fun t36=>(if t36=true then (qO.l15 k x l12 x13 (w64 (x14+1))) else (if 0≤x13∧x13<(x.length:Int) then (qO.l15 k x (l12.set (x13).toNat (nth qB.z l12 x14)) (w64 (x13+1)) (w64 (x14+1))) else (none)))) else (none)) else (if 0≤x13∧x13≤(x.length:Int) then (some (cutl (l12.take (x13).toNat++List.replicate (x.length - (x13).toNat) qB.z) 0 x13)) else (none))
theorem qO.l15_s k x l12 x13 x14:type_of% (qO.l15.eq_2 x l12 x13 x14 k):=qO.l15.eq_2 x l12 x13 x14 k
def qO.f(k:Nat)(x:List qB):Option (List qB):=(qM.f k x).bind fun t4=>(if t4=(-1) then (some x) else (qO.l15 k x x t4 (w64 (t4+1))))
def qO.Post(x:List qB)(A0_0:OA)(c0_0:Nat)(W F:World)(r:List qB)(v:Value)(w':World):Prop:=∃(F':World)(RA0_0:OA)(rc0_0:Nat),v = .slice RA0_0 r.length rc0_0∧St W (mine W [row qB.k 139 (.slice A0_0 x.length c0_0) x]) F w' F' [row qB.k 139 (.slice RA0_0 r.length rc0_0) r]
theorem qO.calls(k:Nat)(x:List qB)(A0_0:OA)(c0_0:Nat)(r:List qB)(W F:World)(hown:Own W F [row qB.k 139 (.slice A0_0 x.length c0_0) x])(H:qO.f k x=some r):
    Cr 204 #[.slice A0_0 x.length c0_0,.func (.func 206) #[] #[]] W (qO.Post x A0_0 c0_0 W F r):=by
 have S:=St.start hown
 obtain ⟨N,hN⟩:∃ N,N=mine W [row qB.k 139 (.slice A0_0 x.length c0_0) x]:=⟨_,rfl⟩
 rw [← hN]at S
 unfold qO.f at H
 refine ent 42 rfl rfl rfl (fun a E=>?_)
 refine rr E fun a E=>(sq fun K2 hK2=>pl0 (plc E (.r 0 2 .nil) (fun a E=>?_)))
 obtain ⟨t4,h5,H⟩:=bd H
 refine plq E S en213 (qM.calls k x _ _ _ _ _ (Sub.refl _) (S.rd_at (i:=0) rfl) h5) fun u3 S a E=>plc E (.r 3 1 .nil) (fun a E=>pld (hK2 _ _ (sq fun K6 hK6=>rr E fun a E=>(E.ik 12 H (fun c8 E H=>?_) fun c8 E H=>?_))))
 refine rr E fun a E=>(wp_ret (qCQ ?_))
 rw [hN]at S
 obtain rfl:=si H
 exact rt1 E ⟨_,rfl,_,_,_,rfl,S⟩
 refine wp_skip (hK6 _ _ (sq fun K10 hK10=>rr E fun a E=>(wp_block ?_)))
 refine wp_loop_ghost (fun kq16 a w'=>∃(G:NV)(l12:List qB)(x13:Int)(x14:Int),kq16≤k∧Env 42 G a∧At G [(0,.slice A0_0 x.length c0_0),(1,.func (.func 206) #[] #[]),(5,iv x13),(6,iv x14)]∧St W N F w' F [row qB.k 139 (.slice A0_0 x.length c0_0) l12]∧qO.l15 kq16 x l12 x13 x14=some r) k ⟨_,x,t4,(w64 (t4+1)),Nat.le_refl _,E,.of,S,H⟩ ?_
 rintro kq16 a u18 ⟨G,l12,x13,x14,hkq,E,A,S,H⟩
 obtain _ | k17:=kq16
 exact zz H
 rw [qO.l15_s]at H
 obtain ⟨J,E⟩:=E.at A
 refine sq fun K19 hK19=>rr E fun a E=>(E.ik 19 H (fun c21 E H=>?_) fun c21 E H=>?_)
 refine wp_skip (hK19 _ _ (sq fun K22 hK22=>wp_block (sq fun K23 hK23=>pl0 ?_)))
 obtain ⟨c24,H⟩:=gd H
 have hr25:=S.ra 0
 have c26:0≤x14∧x14<(l12.length:Int):=by rw [← (qCU hr25).1]; exact c24
 have hE_:=E
 obtain ⟨b27,rfl⟩:=qCW hr25 c26.1 c26.2
 replace E:=hE_
 have hr_:=S.ra 0
 obtain ⟨cs29,rfl,hc30⟩:=qCV hr_ qB.z x14 c26.1 c26.2
 refine plc E (.r 0 2<|.x 2 c24<|.cs 3 hc30<|.nil) (fun a E=>pla (t:=139) E S [iv 0,iv 0] fun b31 u32 hb31 S a E=>pls E S [iv ((nth qB.z l12 x14).f0),iv ((nth qB.z l12 x14).f1)] fun u33 hb31 S a E=>pld (hK23 _ _ (sq fun K34 hK34=>pl0 (plc E (.r 0 1<|.bn 1 0 2 hb31<|.nil) (fun a E=>?_)))))
 obtain ⟨t36,h37,H⟩:=bd H
 refine plq E S en206 (qBk.calls (nth qB.z l12 x14) _ _ _ S.own.sub h37) fun u35 S a E=>plc E (.r 3 1 .nil) (fun a E=>pld (hK34 _ _ (E.ibn 29 H (fun c38 E H=>?_) fun c38 E H=>?_)))
 refine wp_skip ?_
 refine qCS ?_
 refine hK22 _ _ (pl0 (plc E (.r 0 3 .nil) (fun a E=>pld ?_)))
 replace S:=S.tail
 exact qCT ⟨k17,by omega,_,l12,x13,(w64 (x14+1)),by omega,E,.of,S,H⟩
 refine sq fun K39 hK39=>pl0 ?_
 have hb31:=S.ba 0
 obtain ⟨c40,H⟩:=gd H
 have hr41:=S.ra 1
 have c42:0≤x13∧x13<(l12.length:Int):=by rw [← (qCU hr41).1]; exact c40
 have hr_:=S.ra 1
 obtain ⟨cs44,rfl,hc45⟩:=qCV hr_ qB.z x13 c42.1 c42.2
 refine plc E (.r 0 2<|.bn 2 0 2 hb31<|.x 3 c40<|.nil) (fun a E=>?_)
 replace S:=S.front 1 rfl
 obtain ⟨cs47,rfl,hc48⟩:=qCV (S.row_at (i:=0) rfl) qB.z x13 c42.1 c42.2
 refine ple E (.set (d:=qB.k) (n:=x.length) (i:=x13) (nth qB.z l12 x14) (0) (ea0 _ _) S c42 [iv ((nth qB.z l12 x13).f0),iv ((nth qB.z l12 x13).f1)] hc48 [iv ((nth qB.z l12 x14).f0),iv ((nth qB.z l12 x14).f1)] rfl) ?_
 rintro _ u46 a ⟨rfl,S,hz⟩ E
 refine pld (hK39 _ _ (pl0 (plc E (.r 0 3 .nil) (fun a E=>pld ?_))))
 refine qCS ?_
 refine hK22 _ _ (pl0 (plc E (.r 0 3 .nil) (fun a E=>pld ?_)))
 replace S:=S.pm [0] 2
 exact qCT ⟨k17,by omega,_,(l12.set (x13).toNat (nth qB.z l12 x14)),(w64 (x13+1)),(w64 (x14+1)),by omega,E,.of,S,H⟩
 refine wp_exit ?_
 refine hK10 _ _ (sq fun K49 hK49=>pl0 ?_)
 obtain ⟨c50,H⟩:=gd H
 obtain ⟨A51,c52,hA53,hv54⟩:=y_suf (P:=Tryz.prog) (k:=.i64) (S.row_at (i:=0) rfl) c50
 refine plc E (.r 0 2<|.y 2 (hv54 (by kernel_rfl))<|.nil) (fun a E=>ple E (.clr (d:=qB.k) (n:=x.length) (c':=c52) (lo:=x13) 16 qB.z S c50 hA53 (by rw [zr139]; exact rfl)) ?_)
 rintro _ u55 a ⟨rfl,S,hz⟩ E
 refine pld (hK49 _ _ (sq fun K56 hK56=>pl0 ?_))
 have hv57:=S.ra 0
 replace S:=S.shrink c50
 refine plc E (.r 0 2<|.y 2 (y_pre (k:=.i64) hv57 c50)<|.r 3 1<|.nil) (fun a E=>pld (hK56 _ _ (wp_ret ?_)))
 rw [hN]at S
 obtain rfl:=si H
 exact rt1 E ⟨_,rfl,_,_,_,rfl,S⟩
def qBr.f(k:Nat)(x:qB)(y:qB)(xf0_:Int):Option Int:=(qBl.f k xf0_ x y).bind fun t8=>(some t8)
def qBr.Post(W F:World)(r:Int)(v:Value)(w':World):Prop:=∃(F':World),v=iv r∧Sm W F w' F' []
theorem qBr.calls(k:Nat)(x:qB)(y:qB)(xf0_:Int)(pf0_:Nat)(r:Int)(W F:World)(hown:Sub F W)(hpf0_:F.heap[pf0_]? = some (.cells #[.int .u64 xf0_] 148 (0,0)))(H:qBr.f k x y xf0_=some r):
    Cr 208 #[.agg #[iv x.f0,iv x.f1],.agg #[iv y.f0,iv y.f1],.pointer (pb pf0_)] W (qBr.Post W F r):=by
 have S:=sT hown
 unfold qBr.f at H
 refine ent 10 rfl rfl rfl (fun a E=>?_)
 refine sq fun K1 hK1=>pl0 (plx (t:=139) E S [iv x.f0,iv x.f1] fun b2 u3 hb2 S a E=>plx (t:=139) E S [iv y.f0,iv y.f1] fun b4 u5 hb4 S a E=>plc E (.r 2 1 .nil) (fun a E=>pld (hK1 _ _ (sq fun K6 hK6=>pl0 (plc E (.b 0 0 (S.own.sub _ _ _ _ hpf0_)<|.bn 1 0 2 (S.ba 1)<|.bn 2 0 2 hb4<|.nil) (fun a E=>?_))))))
 obtain ⟨t8,h9,H⟩:=bd H
 refine plq E S en209 (qBl.calls k xf0_ x y _ _ _ S.own.sub h9) fun u7 S a E=>plc E (.r 4 1 .nil) (fun a E=>pld (hK6 _ _ (wp_ret ?_)))
 replace S:=S.pm [] 2
 obtain rfl:=si H
 exact rt1 E ⟨_,rfl,_,rfl,S⟩
def qB.enc(x:qB):List Value:=[iv x.f0,iv x.f1]
instance:Inhabited qB:=⟨qB.z⟩
def qb.cmp(k:Nat)(x1c0_:Int)(a b:qB):Option Int:=qBr.f k a b x1c0_
def qb.f(k:Nat)(x0_:List qB)(x1c0_:Int):Option (List qB):=sortO (qb.cmp k x1c0_) x0_
def qb.Post(x0_:List qB)(x1c0_:Int)(A0_0:Option Addr)(c0_0:Nat)(p1c0_:Nat)(W F:World)(r:List qB)(v:Value)(w':World):Prop:=∃(F':World),v = .tuple #[]∧St W (mine W [row qB.k 139 (.slice A0_0 x0_.length c0_0) x0_]) F w' F' [row qB.k 139 (.slice A0_0 x0_.length c0_0) r]
set_option maxRecDepth 100000 in
theorem qb.calls(k:Nat)(x0_:List qB)(x1c0_:Int)(A0_0:Option Addr)(c0_0:Nat)(p1c0_:Nat)(r:List qB)(W F:World)(hown:Own W F [row qB.k 139 (.slice A0_0 x0_.length c0_0) x0_])(hp1c0_:F.heap[p1c0_]? = some (.cells #[.int .u64 x1c0_] 148 (0,0)))(H:qb.f k x0_ x1c0_=some r):
  Calls Tryz.prog 207 #[.slice A0_0 x0_.length c0_0,.func (.func 208) #[] #[.pointer (pb p1c0_)]] W fun e w'=>∃ v,e = .returned v∧qb.Post x0_ x1c0_ A0_0 c0_0 p1c0_ W F r v w' :=
 qHF Tryz.sort207 2 rfl (fun w=>qED ag139 w) (fun w=>qCp sz139 w) qB.enc (fun x=>rfl) (fun x v hv=>by simp only [qB.enc,List.mem_cons,List.not_mem_nil,or_false]at hv; rcases hv with rfl | rfl <;> rfl) (fun F x cs=>Iff.rfl) (qb.cmp k x1c0_) 208 #[.pointer (pb p1c0_)] en208 hown (fun x y v W' hs hc=>(qBr.calls k x y x1c0_ _ v W' F hs hp1c0_ hc).mono fun en w' ⟨u,h1,F',h2,h3⟩=>⟨u,h1,F',h2,h3⟩) H
def qBO.l44:Nat→List qB→List qB→List Int→Int→Option (List Int)
 | 0,_,_,_,_=>none
 | k+1,t22,t33,l42,x43=>if x43<(t22.length:Int) then (if 0≤x43∧x43<(t22.length:Int) then (if ((l42.length:Int)+((1:Nat):Int)) * 8≤140737488355328 then (qBO.l44 k t22 t33 (l42++[(nth qB.z t33 x43).f0]) (w64 (x43+1))) else (none)) else (none)) else (some l42)
theorem qBO.l44_s k t22 t33 l42 x43:type_of% (qBO.l44.eq_2 t22 t33 l42 x43 k):=qBO.l44.eq_2 t22 t33 l42 x43 k
def qBO.f(k:Nat)(x:Int)(y:List qB):Option (List Int):=(qAq.f k y).bind fun t7=>(if t7=0 then ((qAg.f y).bind fun t14=>((qO.f k t14).bind fun t22=>((qb.f k t22 x).bind fun t33=>(qBO.l44 k t22 t33 [] 0)))) else (some []))
def qBO.Post(W F:World)(r:List Int)(v:Value)(w':World):Prop:=∃(F':World)(RA0_0:OA)(rc0_0:Nat),v = .slice RA0_0 r.length rc0_0∧Sm W F w' F' [row ki 3 (.slice RA0_0 r.length rc0_0) r]
theorem qBO.calls(k:Nat)(x:Int)(y:List qB)(A1_0:OA)(c1_0:Nat)(r:List Int)(W F:World)(hown:Sub F W)(g1_0:Rd qB.k F A1_0 c1_0 y)(H:qBO.f k x y=some r):
    Cr 188 #[.int .u64 x,.slice A1_0 y.length c1_0] W (qBO.Post W F r):=by
 have S:=sT hown
 unfold qBO.f at H
 refine ent 30 rfl rfl rfl (fun a E=>?_)
 refine sq fun K1 hK1=>pl0 (plx (t:=148) E S [.int .u64 x] fun b2 u3 hb2 S a E=>plc E (.r 1 1 .nil) (fun a E=>pld (hK1 _ _ (sq fun K4 hK4=>sq fun K5 hK5=>pl0 (plc E (.r 0 1 .nil) (fun a E=>?_))))))
 obtain ⟨t7,h8,H⟩:=bd H
 refine plq E S en203 (qAq.calls k y _ _ _ _ _ S.own.sub g1_0 h8) fun u6 S a E=>plc E (.r 2 1 .nil) (fun a E=>pld (hK5 _ _ (E.ikn 10 H (fun c9 E H=>?_) fun c9 E H=>?_)))
 refine wp_skip (hK4 _ _ (sq fun K12 hK12=>pl0 (plc E (.r 0 1 .nil) (fun a E=>?_))))
 obtain ⟨t14,h15,H⟩:=bd H
 refine ple E (.cl en205 (qAg.calls y _ _ _ _ _ S.own.sub g1_0 h15)) ?_
 rintro _ u13 a ⟨F16,A17,c18,rfl,hC⟩ E
 have hs:=hC.sub
 replace S:=S.called (X:=[]) hC
 replace g1_0:=g1_0.mono hs
 obtain ⟨t22,h23,H⟩:=bd H
 refine ple E (.cl en204 (qO.calls k t14 _ _ _ _ _ (Own.left (X:=[row qB.k 139 (.slice A17 t14.length c18) t14]) S.own) h23)) ?_
 rintro _ u21 a ⟨F24,A25,c26,rfl,hC⟩ E
 have hs:=hC.sub
 replace S:=S.called (X:=[row qB.k 139 (.slice A17 t14.length c18) t14]) hC
 replace g1_0:=g1_0.mono hs
 refine plc E (.r 3 1 .nil) (fun a E=>pld (hK12 _ _ (sq fun K29 hK29=>pl0 (plc E (.r 0 2 .nil) (fun a E=>?_)))))
 replace S:=S.front 1 rfl
 obtain ⟨F30,hs,g31,S⟩:=S.giveb
 replace g1_0:=g1_0.mono hs
 obtain ⟨t33,h34,H⟩:=bd H
 refine ple E (.cl en207 (qb.calls k t22 x _ _ _ _ _ _ (Own.left (X:=[row qB.k 139 (.slice A25 t22.length c26) t22]) S.own) g31 h34)) ?_
 rintro _ u32 a ⟨F35,rfl,hC⟩ E
 have hs:=hC.sub
 replace S:=S.called (X:=[row qB.k 139 (.slice A25 t22.length c26) t22]) hC
 replace g1_0:=g1_0.mono hs
 replace g31:=hs _ _ _ _ g31
 refine pld (hK29 _ _ (rr E fun a E=>(sq fun K37 hK37=>rr E fun a E=>(wp_block ?_))))
 replace S:=S.nilrow ki 3
 replace S:=S.front 1 rfl
 refine wp_loop_ghost (fun kq45 a w'=>∃(G:NV)(A40:OA)(c41:Nat)(l42:List Int)(x43:Int),kq45≤k∧Env 30 G a∧At G [(5,.slice A40 l42.length c41),(17,.slice A25 t22.length c26),(18,iv (t22.length:Int)),(19,iv x43)]∧Sm W F w' F35 [row qB.k 139 (.slice A25 t22.length c26) t33,row ki 3 (.slice A40 l42.length c41) l42]∧qBO.l44 kq45 t22 t33 l42 x43=some r) k ⟨_,none,0,[],0,Nat.le_refl _,E,.of,S,H⟩ ?_
 rintro kq45 a u47 ⟨G,A40,c41,l42,x43,hkq,E,A,S,H⟩
 obtain _ | k46:=kq45
 exact zz H
 rw [qBO.l44_s]at H
 obtain ⟨J,E⟩:=E.at A
 refine rr E fun a E=>(sq fun K49 hK49=>E.ik 20 H (fun c50 E H=>?_) fun c50 E H=>?_)
 refine wp_skip (hK49 _ _ (sq fun K51 hK51=>wp_block (sq fun K52 hK52=>pl0 ?_)))
 obtain ⟨c53,H⟩:=gd H
 have hr54:=S.ra 0
 have c55:0≤x43∧x43<(t33.length:Int):=by rw [← (qCU hr54).1]; exact c53
 have hE_:=E
 obtain ⟨b56,rfl⟩:=qCW hr54 c55.1 c55.2
 replace E:=hE_
 have hr_:=S.ra 0
 obtain ⟨cs58,rfl,hc59⟩:=qCV hr_ qB.z x43 c55.1 c55.2
 refine plc E (.x 0 c53<|.cs 1 hc59<|.nil) (fun a E=>pla (t:=139) E S [iv 0,iv 0] fun b60 u61 hb60 S a E=>pls E S [iv ((nth qB.z t33 x43).f0),iv ((nth qB.z t33 x43).f1)] fun u62 hb60 S a E=>pld (hK52 _ _ (pl0 (plc E (.r 0 2<|.b 2 0 hb60<|.nil) (fun a E=>ple E (.lit (d:=ki) (e:=3) S [(nth qB.z t33 x43).f0] (.cons rfl .nil)) ?_)))))
 rintro _ u63 a ⟨A64,c65,rfl,S,hg⟩ E
 obtain ⟨c67,H⟩:=gd H
 replace S:=S.front 3 rfl
 refine ple E (.ap (d:=ki) 8 S (qCX (S.row_at (i:=1) rfl)) c67 c65) ?_
 rintro _ u70 a ⟨A68,c69,rfl,S,hz⟩ E
 refine plc E (.r 5 1 .nil) (fun a E=>pld ?_)
 refine qCS ?_
 refine hK51 _ _ (pl0 (plc E (.r 0 2 .nil) (fun a E=>pld ?_)))
 replace S:=S.pm [3,0] 4
 exact qCT ⟨k46,by omega,_,A68,c69,(l42++[(nth qB.z t33 x43).f0]),(w64 (x43+1)),by omega,E,.of,S,H⟩
 refine wp_exit ?_
 refine hK37 _ _ (rr E fun a E=>(wp_ret ?_))
 have hn73:=(qCU (S.row_at (i:=0) rfl)).1
 replace S:Sm W F u47 F35 [row qB.k 139 (.slice A25 t33.length c26) t33,row ki 3 (.slice A40 l42.length c41) l42]:=by rw [← hn73]; exact S
 replace S:=S.tail
 obtain rfl:=si H
 exact rt1 E ⟨_,rfl,_,_,_,rfl,S⟩
 refine rr E fun a E=>(wp_ret (qCQ ?_))
 replace S:=S.nilrow ki 3
 replace S:=S.pm [0] 2
 obtain rfl:=si H
 exact rt1 E ⟨_,rfl,_,_,_,rfl,S⟩
mutual
def qAI.j42:Nat→qd→qN→Int→List qB→Option (List qd)
 | 0,_,_,_,_=>none
 | k+1,y,z,p,l40=>(qBU.f k (IntKind.u64.wrap p) [(IntKind.u64.wrap z.f1),(IntKind.u64.wrap y.f0),(IntKind.u64.wrap y.f1)]).bind fun t53=>((qBO.f k t53 l40).bind fun t58=>(if 0≤(if (t58.length:Int)<z.f2 then (t58.length:Int) else z.f2)∧(if (t58.length:Int)<z.f2 then (t58.length:Int) else z.f2)≤(t58.length:Int) then (qAI.l80 k y z t58 [] 0) else (none)))
def qAI.l80:Nat→qd→qN→List Int→List qd→Int→Option (List qd)
 | 0,_,_,_,_,_=>none
 | k+1,y,z,t58,l78,x79=>if x79<((cutl t58 0 (if (t58.length:Int)<z.f2 then (t58.length:Int) else z.f2)).length:Int) then (if 0≤x79∧x79<((cutl t58 0 (if (t58.length:Int)<z.f2 then (t58.length:Int) else z.f2)).length:Int) then (if z.f1=1 then (qAI.j110 k y z t58 l78 x79 (nth 0 (cutl t58 0 (if (t58.length:Int)<z.f2 then (t58.length:Int) else z.f2)) x79) y.f1 y.f2) else (if z.f1=2 then (qAI.j110 k y z t58 l78 x79 y.f0 (nth 0 (cutl t58 0 (if (t58.length:Int)<z.f2 then (t58.length:Int) else z.f2)) x79) y.f2) else (qAI.j110 k y z t58 l78 x79 y.f0 y.f1 (nth 0 (cutl t58 0 (if (t58.length:Int)<z.f2 then (t58.length:Int) else z.f2)) x79)))) else (none)) else (some l78)
def qAI.j110:Nat→qd→qN→List Int→List qd→Int→Int→Int→Int→Option (List qd)
 | 0,_,_,_,_,_,_,_,_=>none
 | k+1,y,z,t58,l78,x79,x107,x108,x109=>if ((l78.length:Int)+((1:Nat):Int)) * 24≤140737488355328 then (qAI.l80 k y z t58 (l78++[(⟨x107,x108,x109⟩:qd)]) (w64 (x79+1))) else (none)
end
theorem qAI.j42_s k y z p l40:type_of% (qAI.j42.eq_2 y z p l40 k):=qAI.j42.eq_2 y z p l40 k
theorem qAI.l80_s k y z t58 l78 x79:type_of% (qAI.l80.eq_2 y z t58 l78 x79 k):=qAI.l80.eq_2 y z t58 l78 x79 k
theorem qAI.j110_s(k:Nat)(y:qd)(z:qN)(t58:List Int)(l78:List qd)(x79:Int)(x107:Int)(x108:Int)(x109:Int):qAI.j110 (k+1) y z t58 l78 x79 x107 x108 x109=(if ((l78.length:Int)+((1:Nat):Int)) * 24≤140737488355328 then (qAI.l80 k y z t58 (l78++[(⟨x107,x108,x109⟩:qd)]) (w64 (x79+1))) else (none)):=by kernel_rfl
def qAI.f(k:Nat)(x:List qA)(y:qd)(z:qN)(p:Int):Option (List qd):=if z.f1=1 then ((qBo.f k x).bind fun t12=>(qAI.j42 k y z p t12)) else (if z.f1=2 then ((qCA.f k x y.f0).bind fun t22=>(qAI.j42 k y z p t22)) else ((qBu.f k x y.f0 y.f1).bind fun t30=>(qAI.j42 k y z p t30)))
def qAI.Post(W F:World)(r:List qd)(v:Value)(w':World):Prop:=∃(F':World)(RA0_0:OA)(rc0_0:Nat),v = .slice RA0_0 r.length rc0_0∧Sm W F w' F' [row qd.k 190 (.slice RA0_0 r.length rc0_0) r]
theorem qAI.calls(k:Nat)(x:List qA)(y:qd)(z:qN)(p:Int)(A0_0:OA)(c0_0:Nat)(r:List qd)(W F:World)(hown:Sub F W)(g0_0:Rd qA.k F A0_0 c0_0 x)(H:qAI.f k x y z p=some r):
    Cr 166 #[.slice A0_0 x.length c0_0,.agg #[iv y.f0,iv y.f1,iv y.f2],.agg #[iv z.f0,iv z.f1,iv z.f2],iv p] W (qAI.Post W F r):=by
 have S:=sT hown
 unfold qAI.f at H
 refine ent 79 rfl rfl rfl (fun a E=>?_)
 refine sq fun K1 hK1=>pl0 (plx (t:=190) E S [iv y.f0,iv y.f1,iv y.f2] fun b2 u3 hb2 S a E=>plx (t:=143) E S [iv z.f0,iv z.f1,iv z.f2] fun b4 u5 hb4 S a E=>plc E (.r 2 1 .nil) (fun a E=>pld (hK1 _ _ (rr E fun a E=>(sq fun K7 hK7=>?_)))))
 have J45:∀ kq43,kq43≤k→∀(G:NV)(A38:OA)(c39:Nat)(l40:List qB)(F41:World)(a:Act)(w':World),Env 79 G a→At G [(3,iv p),(5,.pointer (pb b2)),(6,.pointer (pb b4)),(9,.slice A38 l40.length c39)]→Sm W F w' F41 [box b4 #[iv z.f0,iv z.f1,iv z.f2] 143,box b2 #[iv y.f0,iv y.f1,iv y.f2] 190,row qB.k 139 (.slice A38 l40.length c39) l40]→qAI.j42 kq43 y z p l40=some r→K7 a w':=by
  intro kq43 hkq G A38 c39 l40 F41 a u46 E A S H
  obtain _ | k44:=kq43
  exact zz H
  rw [qAI.j42_s]at H
  obtain ⟨J,E⟩:=E.at A
  refine hK7 _ _ (sq fun K47 hK47=>pl0 ?_)
  have hb2:=S.ba 1
  refine plc E (.r 0 3<|.b 3 1 (S.ba 0)<|.r 4 2<|.b 6 0 hb2<|.r 7 2<|.b 9 1 hb2<|.r 10 1<|.nil) (fun a E=>ple E (.lit (d:=(Kn.int .u64)) (e:=148) S [(IntKind.u64.wrap z.f1),(IntKind.u64.wrap y.f0),(IntKind.u64.wrap y.f1)] (.cons rfl<|.cons rfl<|.cons rfl .nil)) ?_)
  rintro _ u48 a ⟨A49,c50,rfl,S,hg⟩ E
  obtain ⟨t53,h54,H⟩:=bd H
  refine plq E S en189 (qBU.calls k44 (IntKind.u64.wrap p) [(IntKind.u64.wrap z.f1),(IntKind.u64.wrap y.f0),(IntKind.u64.wrap y.f1)] _ _ _ _ _ (Sub.refl _) (S.rd_at (i:=0) rfl) h54) fun u52 S a E=>plc E (.r 13 1 .nil) (fun a E=>?_)
  replace S:=S.front 3 rfl
  obtain ⟨F55,hs,g56,S⟩:=S.give
  obtain ⟨t58,h59,H⟩:=bd H
  refine ple E (.cl en188 (qBO.calls k44 t53 l40 _ _ _ _ _ S.own.sub g56 h59)) ?_
  rintro _ u57 a ⟨F60,A61,c62,rfl,hC⟩ E
  have hs:=hC.sub
  replace S:=S.called (X:=[]) hC
  replace g56:=g56.mono hs
  refine plc E (.r 15 1 .nil) (fun a E=>pld (hK47 _ _ (rr E fun a E=>(sq fun K66 hK66=>sq fun K67 hK67=>pl0 ?_))))
  have hb4:=S.ba 2
  obtain ⟨F68,hs,g69,S⟩:=S.give
  replace g56:=g56.mono hs
  obtain ⟨c70,H⟩:=gd H
  obtain ⟨A71,c72,g73,hv74⟩:=qFI (P:=Tryz.prog) g69 ⟨Int.le_refl _,c70.1,c70.2⟩ sz3
  refine plc E (.r 0 2<|.b 2 2 hb4<|.r 3 3<|.y 6 (hv74 (by kernel_rfl))<|.r 7 2<|.nil) (fun a E=>pld (hK67 _ _ (wp_block ?_)))
  replace S:=S.nilrow qd.k 190
  replace S:=S.pm [2,3,0] 4
  refine wp_loop_ghost (fun kq81 a w'=>∃(G:NV)(A76:OA)(c77:Nat)(l78:List qd)(x79:Int),kq81≤k44∧Env 79 G a∧At G [(5,.pointer (pb b2)),(6,.pointer (pb b4)),(11,.slice A76 l78.length c77),(54,.slice A71 ((cutl t58 0 (if (t58.length:Int)<z.f2 then (t58.length:Int) else z.f2)).length) c72),(55,iv ((cutl t58 0 (if (t58.length:Int)<z.f2 then (t58.length:Int) else z.f2)).length:Int)),(56,iv x79)]∧Sm W F w' F68 [box b4 #[iv z.f0,iv z.f1,iv z.f2] 143,box b2 #[iv y.f0,iv y.f1,iv y.f2] 190,row qd.k 190 (.slice A76 l78.length c77) l78]∧qAI.l80 kq81 y z t58 l78 x79=some r) k44 ⟨_,none,0,[],0,Nat.le_refl _,E,.of,S,H⟩ ?_
  rintro kq81 a u83 ⟨G,A76,c77,l78,x79,hkq,E,A,S,H⟩
  obtain _ | k82:=kq81
  exact zz H
  rw [qAI.l80_s]at H
  obtain ⟨J,E⟩:=E.at A
  refine rr E fun a E=>(sq fun K85 hK85=>E.ik 57 H (fun c86 E H=>?_) fun c86 E H=>?_)
  refine wp_skip (hK85 _ _ (sq fun K87 hK87=>wp_block (sq fun K88 hK88=>pl0 ?_)))
  obtain ⟨c89,H⟩:=gd H
  have hE_:=E
  obtain ⟨ad90,rfl⟩:=g73.addr c89.1 c89.2
  replace E:=hE_
  obtain ⟨cs92,rfl,hc93⟩:=g73.el 0 x79 c89.1 c89.2
  refine plc E (.x 0 c89<|.c 1 (S.fc hc93 0)<|.r 2 1<|.nil) (fun a E=>pld (hK88 _ _ (sq fun K94 hK94=>pl0 (plc E (.bn 0 0 3 (S.ba 1) .nil) (fun a E=>pla (t:=190) E S [iv 0,iv 0,iv 0] fun b95 u96 hb95 S a E=>pls E S [iv y.f0,iv y.f1,iv y.f2] fun u97 hb95 S a E=>pld (hK94 _ _ (sq fun K98 hK98=>?_)))))))
  have J113:∀ kq111,kq111≤k82→∀(G:NV)(x107:Int)(x108:Int)(x109:Int)(a:Act)(w':World),Env 79 G a→At G [(5,.pointer (pb b2)),(6,.pointer (pb b4)),(11,.slice A76 l78.length c77),(14,.pointer (pb b95)),(54,.slice (some ad90) ((cutl t58 0 (if (t58.length:Int)<z.f2 then (t58.length:Int) else z.f2)).length) c72),(55,iv ((cutl t58 0 (if (t58.length:Int)<z.f2 then (t58.length:Int) else z.f2)).length:Int)),(56,iv x79)]→Sm W F w' F68 [box b95 #[iv x107,iv x108,iv x109] 190,box b4 #[iv z.f0,iv z.f1,iv z.f2] 143,box b2 #[iv y.f0,iv y.f1,iv y.f2] 190,row qd.k 190 (.slice A76 l78.length c77) l78]→qAI.j110 kq111 y z t58 l78 x79 x107 x108 x109=some r→K98 a w':=by
   intro kq111 hkq G x107 x108 x109 a u114 E A S H
   obtain _ | k112:=kq111
   exact zz H
   rw [qAI.j110_s]at H
   obtain ⟨J,E⟩:=E.at A
   refine hK98 _ _ (pl0 (plc E (.r 0 1<|.bn 1 0 3 (S.ba 0)<|.nil) (fun a E=>ple E (.lit (d:=qd.k) (e:=190) S [(⟨x107,x108,x109⟩:qd)] (.cons rfl .nil)) ?_)))
   rintro _ u115 a ⟨A116,c117,rfl,S,hg⟩ E
   obtain ⟨c119,H⟩:=gd H
   replace S:=S.front 4 rfl
   refine ple E (.ap (d:=qd.k) 24 S (qCX (S.row_at (i:=1) rfl)) c119 c117) ?_
   rintro _ u122 a ⟨A120,c121,rfl,S,hz⟩ E
   refine plc E (.r 4 1 .nil) (fun a E=>pld ?_)
   refine qCS ?_
   refine hK87 _ _ (pl0 (plc E (.r 0 2 .nil) (fun a E=>pld ?_)))
   replace S:=S.pm [3,4,0] 5
   exact qCT ⟨k112,by omega,_,A120,c121,(l78++[(⟨x107,x108,x109⟩:qd)]),(w64 (x79+1)),by omega,E,.of,S,H⟩
  refine rg E (.r 0 1<|.b 1 1 (S.ba 1)<|.nil) fun a E=>(wp_block (rr E fun a E=>(E.ik 65 H (fun c101 E H=>?_) fun c101 E H=>?_)))
  refine pl0 (plc E (.r 0 2 .nil) (fun a E=>pls E S [iv (nth 0 (cutl t58 0 (if (t58.length:Int)<z.f2 then (t58.length:Int) else z.f2)) x79),iv y.f1,iv y.f2] fun u102 hb95 S a E=>pld ?_))
  refine qCS ?_
  exact J113 _ (by omega) _ (nth 0 (cutl t58 0 (if (t58.length:Int)<z.f2 then (t58.length:Int) else z.f2)) x79) y.f1 y.f2 _ _ E .of S H
  refine rr E fun a E=>(E.ik 69 H (fun c104 E H=>?_) fun c104 E H=>?_)
  refine pl0 (plc E (.r 0 2 .nil) (fun a E=>pls E S [iv y.f0,iv (nth 0 (cutl t58 0 (if (t58.length:Int)<z.f2 then (t58.length:Int) else z.f2)) x79),iv y.f2] fun u105 hb95 S a E=>pld ?_))
  refine qCS ?_
  exact J113 _ (by omega) _ y.f0 (nth 0 (cutl t58 0 (if (t58.length:Int)<z.f2 then (t58.length:Int) else z.f2)) x79) y.f2 _ _ E .of S H
  refine pl0 (plc E (.r 0 2 .nil) (fun a E=>pls E S [iv y.f0,iv y.f1,iv (nth 0 (cutl t58 0 (if (t58.length:Int)<z.f2 then (t58.length:Int) else z.f2)) x79)] fun u106 hb95 S a E=>pld ?_))
  refine qCS ?_
  exact J113 _ (by omega) _ y.f0 y.f1 (nth 0 (cutl t58 0 (if (t58.length:Int)<z.f2 then (t58.length:Int) else z.f2)) x79) _ _ E .of S H
  refine wp_exit ?_
  refine hK66 _ _ (rr E fun a E=>(wp_ret ?_))
  replace S:=S.pm [] 2
  obtain rfl:=si H
  exact rt1 E ⟨_,rfl,_,_,_,rfl,S⟩
 refine rg E (.r 0 1<|.b 1 1 hb4<|.nil) fun a E=>(wp_block (rr E fun a E=>(E.ik 23 H (fun c10 E H=>?_) fun c10 E H=>?_)))
 refine pl0 (plc E (.r 0 1 .nil) (fun a E=>?_))
 obtain ⟨t12,h13,H⟩:=bd H
 refine ple E (.cl en113 (qBo.calls k x _ _ _ _ _ S.own.sub g0_0 h13)) ?_
 rintro _ u11 a ⟨F14,A15,c16,rfl,hC⟩ E
 have hs:=hC.sub
 replace S:=S.called (X:=[]) hC
 replace g0_0:=g0_0.mono hs
 refine plc E (.r 2 1 .nil) (fun a E=>pld ?_)
 refine qCS ?_
 replace S:=S.pm [1,2,0] 3
 exact J45 _ (by omega) _ A15 c16 t12 F14 _ _ E .of S H
 refine rr E fun a E=>(E.ik 27 H (fun c20 E H=>?_) fun c20 E H=>?_)
 refine pl0 (plc E (.r 0 2<|.b 2 0 (S.ba 1)<|.nil) (fun a E=>?_))
 obtain ⟨t22,h23,H⟩:=bd H
 refine ple E (.cl en186 (qCA.calls k x y.f0 _ _ _ _ _ S.own.sub g0_0 h23)) ?_
 rintro _ u21 a ⟨F24,A25,c26,rfl,hC⟩ E
 have hs:=hC.sub
 replace S:=S.called (X:=[]) hC
 replace g0_0:=g0_0.mono hs
 refine plc E (.r 4 1 .nil) (fun a E=>pld ?_)
 refine qCS ?_
 replace S:=S.pm [1,2,0] 3
 exact J45 _ (by omega) _ A25 c26 t22 F24 _ _ E .of S H
 refine pl0 ?_
 have hb2:=S.ba 1
 refine plc E (.r 0 2<|.b 2 0 hb2<|.r 3 1<|.b 4 1 hb2<|.nil) (fun a E=>?_)
 obtain ⟨t30,h31,H⟩:=bd H
 refine ple E (.cl en187 (qBu.calls k x y.f0 y.f1 _ _ _ _ _ S.own.sub g0_0 h31)) ?_
 rintro _ u29 a ⟨F32,A33,c34,rfl,hC⟩ E
 have hs:=hC.sub
 replace S:=S.called (X:=[]) hC
 replace g0_0:=g0_0.mono hs
 refine plc E (.r 6 1 .nil) (fun a E=>pld ?_)
 refine qCS ?_
 replace S:=S.pm [1,2,0] 3
 exact J45 _ (by omega) _ A33 c34 t30 F32 _ _ E .of S H
mutual
def qAD.j16:Nat→List qA→List qN→Int→Int→Bool→Option ((List Int) × Int)
 | 0,_,_,_,_,_=>none
 | k+1,x,y,z,p,y15=>if y15=true then (some ([],1)) else (qAD.l38 k x y z p [] [] 0)
def qAD.l38:Nat→List qA→List qN→Int→Int→List qd→List Int→Int→Option ((List Int) × Int)
 | 0,_,_,_,_,_,_,_=>none
 | k+1,x,y,z,p,l32,l35,x36=>if x36<(y.length:Int) then (if 0≤x36∧x36<(y.length:Int) then (if (nth qN.z y x36).f0=1 then (qAD.l38 k x y z p [(⟨0,0,0⟩:qd)] l35 (w64 (x36+1))) else (if (nth qN.z y x36).f0=2 then (qAD.l73 k x y z p l32 l35 x36 [] 0) else (qAD.l111 k x y z p l32 x36 l35 0))) else (none)) else (some (l35,0))
def qAD.l73:Nat→List qA→List qN→Int→Int→List qd→List Int→Int→List qd→Int→Option ((List Int) × Int)
 | 0,_,_,_,_,_,_,_,_,_=>none
 | k+1,x,y,z,p,l32,l35,x36,l70,x71=>if x71<(l32.length:Int) then (if 0≤x71∧x71<(l32.length:Int) then ((qAI.f k x (nth qd.z l32 x71) (nth qN.z y x36) z).bind fun t92=>(if ((l70.length:Int)+(t92.length:Int)) * 24≤140737488355328 then (qAD.l73 k x y z p l32 l35 x36 (l70++t92) (w64 (x71+1))) else (none))) else (none)) else (qAD.l38 k x y z p l70 l35 (w64 (x36+1)))
def qAD.l111:Nat→List qA→List qN→Int→Int→List qd→Int→List Int→Int→Option ((List Int) × Int)
 | 0,_,_,_,_,_,_,_,_=>none
 | k+1,x,y,z,p,l32,x36,l109,x110=>if x110<(l32.length:Int) then (if 0≤x110∧x110<(l32.length:Int) then (if (l109.length:Int)<p then ((qAG.f k l109 ((nth qd.z l32 x110).f2)).bind fun t132=>(qAD.j135 k x y z p l32 x36 l109 x110 (!t132))) else (qAD.j135 k x y z p l32 x36 l109 x110 false)) else (none)) else (qAD.l38 k x y z p [] l109 (w64 (x36+1)))
def qAD.j135:Nat→List qA→List qN→Int→Int→List qd→Int→List Int→Int→Bool→Option ((List Int) × Int)
 | 0,_,_,_,_,_,_,_,_,_=>none
 | k+1,x,y,z,p,l32,x36,l109,x110,y134=>if y134=true then (if ((l109.length:Int)+((1:Nat):Int)) * 8≤140737488355328 then (qAD.l111 k x y z p l32 x36 (l109++[(nth qd.z l32 x110).f2]) (w64 (x110+1))) else (none)) else (qAD.l111 k x y z p l32 x36 l109 (w64 (x110+1)))
end
theorem qAD.j16_s k x y z p y15:type_of% (qAD.j16.eq_2 x y z p y15 k):=qAD.j16.eq_2 x y z p y15 k
theorem qAD.l38_s k x y z p l32 l35 x36:type_of% (qAD.l38.eq_2 x y z p l32 l35 x36 k):=qAD.l38.eq_2 x y z p l32 l35 x36 k
theorem qAD.l73_s k x y z p l32 l35 x36 l70 x71:type_of% (qAD.l73.eq_2 x y z p l32 l35 x36 l70 x71 k):=qAD.l73.eq_2 x y z p l32 l35 x36 l70 x71 k
theorem qAD.l111_s k x y z p l32 x36 l109 x110:type_of% (qAD.l111.eq_2 x y z p l32 x36 l109 x110 k):=qAD.l111.eq_2 x y z p l32 x36 l109 x110 k
theorem qAD.j135_s k x y z p l32 x36 l109 x110 y134:type_of% (qAD.j135.eq_2 x y z p l32 x36 l109 x110 y134 k):=qAD.j135.eq_2 x y z p l32 x36 l109 x110 y134 k
def qAD.f(k:Nat)(x:List qA)(y:List qN)(z:Int)(p:Int):Option ((List Int) × Int):=(qAQ.f k x).bind fun t5=>(if t5=0 then ((qAm.f k y).bind fun t9=>(if t9=0 then (if z<0 then (qAD.j16 k x y z p true) else (if z≥8 then (qAD.j16 k x y z p true) else (if p<1 then (qAD.j16 k x y z p true) else (qAD.j16 k x y z p (decide (p>3)))))) else (qAD.j16 k x y z p true))) else (qAD.j16 k x y z p true))
def qAD.Post(W F:World)(r:(List Int) × Int)(v:Value)(w':World):Prop:=∃(F':World)(RA0_0:OA)(rc0_0:Nat),v = .tuple #[.slice RA0_0 r.1.length rc0_0,iv r.2]∧Sm W F w' F' [row ki 3 (.slice RA0_0 r.1.length rc0_0) r.1]
theorem qAD.calls(k:Nat)(x:List qA)(y:List qN)(z:Int)(p:Int)(A0_0:OA)(c0_0:Nat)(A1_0:OA)(c1_0:Nat)(r:(List Int) × Int)(W F:World)(hown:Sub F W)(g0_0:Rd qA.k F A0_0 c0_0 x)(g1_0:Rd qN.k F A1_0 c1_0 y)(H:qAD.f k x y z p=some r):
    Cr 140 #[.slice A0_0 x.length c0_0,.slice A1_0 y.length c1_0,iv z,iv p] W (qAD.Post W F r):=by
 have S:=sT hown
 unfold qAD.f at H
 refine ent 97 rfl rfl rfl (fun a E=>?_)
 refine rr E fun a E=>(sq fun K2 hK2=>sq fun K3 hK3=>?_)
 have J19:∀ kq17,kq17≤k→∀(G:NV)(y15:Bool)(a:Act)(w':World),Env 97 G a→At G [(0,.slice A0_0 x.length c0_0),(1,.slice A1_0 y.length c1_0),(2,iv z),(3,iv p),(42,.bool y15)]→Sm W F w' F []→qAD.j16 kq17 x y z p y15=some r→K3 a w':=by
  intro kq17 hkq G y15 a u20 E A S H
  obtain _ | k18:=kq17
  exact zz H
  rw [qAD.j16_s]at H
  obtain ⟨J,E⟩:=E.at A
  refine hK3 _ _ (E.ib 42 H (fun c21 E H=>?_) fun c21 E H=>?_)
  refine rr E fun a E=>(wp_ret (qCQ ?_))
  replace S:=S.nilrow ki 3
  obtain rfl:=si H
  exact rtN E ⟨_,rfl,_,_,_,rfl,S⟩
  refine wp_skip (hK2 _ _ (rr E fun a E=>(rr E fun a E=>(sq fun K26 hK26=>rr E fun a E=>(wp_block ?_)))))
  replace S:=S.nilrow qd.k 190
  replace S:=S.nilrow ki 3
  replace S:=S.front 1 rfl
  refine wp_loop_ghost (fun kq39 a w'=>∃(G:NV)(A30:OA)(c31:Nat)(l32:List qd)(A33:OA)(c34:Nat)(l35:List Int)(x36:Int)(F37:World),kq39≤k18∧Env 97 G a∧At G [(0,.slice A0_0 x.length c0_0),(2,iv z),(3,iv p),(10,.slice A30 l32.length c31),(11,.slice A33 l35.length c34),(43,.slice A1_0 y.length c1_0),(44,iv (y.length:Int)),(45,iv x36)]∧Sm W F w' F37 [row qd.k 190 (.slice A30 l32.length c31) l32,row ki 3 (.slice A33 l35.length c34) l35]∧Rd qA.k F37 A0_0 c0_0 x∧Rd qN.k F37 A1_0 c1_0 y∧qAD.l38 kq39 x y z p l32 l35 x36=some r) k18 ⟨_,none,0,[],none,0,[],0,F,Nat.le_refl _,E,.of,S,g0_0,g1_0,H⟩ ?_
  rintro kq39 a u41 ⟨G,A30,c31,l32,A33,c34,l35,x36,F37,hkq,E,A,S,g0_0,g1_0,H⟩
  obtain _ | k40:=kq39
  exact zz H
  rw [qAD.l38_s]at H
  obtain ⟨J,E⟩:=E.at A
  refine rr E fun a E=>(sq fun K43 hK43=>E.ik 46 H (fun c44 E H=>?_) fun c44 E H=>?_)
  refine wp_skip (hK43 _ _ (sq fun K45 hK45=>wp_block (sq fun K46 hK46=>pl0 ?_)))
  obtain ⟨c47,H⟩:=gd H
  have hE_:=E
  obtain ⟨ad48,rfl⟩:=g1_0.addr c47.1 c47.2
  replace E:=hE_
  obtain ⟨cs50,rfl,hc51⟩:=g1_0.el qN.z x36 c47.1 c47.2
  refine plc E (.x 0 c47<|.cs 1 (S.fcs hc51)<|.nil) (fun a E=>pla (t:=143) E S [iv 0,iv 0,iv 0] fun b52 u53 hb52 S a E=>pls E S [iv ((nth qN.z y x36).f0),iv ((nth qN.z y x36).f1),iv ((nth qN.z y x36).f2)] fun u54 hb52 S a E=>pld (hK46 _ _ (rg E (.r 0 1<|.b 1 0 hb52<|.nil) fun a E=>(wp_block (rr E fun a E=>(E.ik 74 H (fun c57 E H=>?_) fun c57 E H=>?_))))))
  refine pl0 (plc E (.r 0 1 .nil) (fun a E=>ple E (.lit (d:=qd.k) (e:=190) S [(⟨0,0,0⟩:qd)] (.cons rfl .nil)) ?_))
  rintro _ u58 a ⟨A59,c60,rfl,S,hg⟩ E
  refine plc E (.r 2 1 .nil) (fun a E=>pld ?_)
  refine qCS ?_
  refine qCS ?_
  refine hK45 _ _ (pl0 (plc E (.r 0 2 .nil) (fun a E=>pld ?_)))
  replace S:=S.pm [0] 3
  exact qCT ⟨k40,by omega,_,A59,c60,[(⟨0,0,0⟩:qd)],A33,c34,l35,(w64 (x36+1)),F37,by omega,E,.of,S,g0_0,g1_0,H⟩
  refine rr E fun a E=>(E.ik 78 H (fun c63 E H=>?_) fun c63 E H=>?_)
  refine rr E fun a E=>(sq fun K65 hK65=>rr E fun a E=>(wp_block ?_))
  replace S:=S.nilrow qd.k 190
  replace S:=S.pm [1,2,3,0] 4
  refine wp_loop_ghost (fun kq74 a w'=>∃(G:NV)(A68:OA)(c69:Nat)(l70:List qd)(x71:Int)(F72:World),kq74≤k40∧Env 97 G a∧At G [(0,.slice A0_0 x.length c0_0),(2,iv z),(3,iv p),(11,.slice A33 l35.length c34),(13,.pointer (pb b52)),(14,.slice A68 l70.length c69),(43,.slice (some ad48) y.length c1_0),(44,iv (y.length:Int)),(45,iv x36),(80,.slice A30 l32.length c31),(81,iv (l32.length:Int)),(82,iv x71)]∧Sm W F w' F72 [box b52 #[iv ((nth qN.z y x36).f0),iv ((nth qN.z y x36).f1),iv ((nth qN.z y x36).f2)] 143,row qd.k 190 (.slice A30 l32.length c31) l32,row ki 3 (.slice A33 l35.length c34) l35,row qd.k 190 (.slice A68 l70.length c69) l70]∧Rd qA.k F72 A0_0 c0_0 x∧Rd qN.k F72 (some ad48) c1_0 y∧qAD.l73 kq74 x y z p l32 l35 x36 l70 x71=some r) k40 ⟨_,none,0,[],0,F37,Nat.le_refl _,E,.of,S,g0_0,g1_0,H⟩ ?_
  rintro kq74 a u76 ⟨G,A68,c69,l70,x71,F72,hkq,E,A,S,g0_0,g1_0,H⟩
  obtain _ | k75:=kq74
  exact zz H
  rw [qAD.l73_s]at H
  obtain ⟨J,E⟩:=E.at A
  refine rr E fun a E=>(sq fun K78 hK78=>E.ik 83 H (fun c79 E H=>?_) fun c79 E H=>?_)
  refine wp_skip (hK78 _ _ (sq fun K80 hK80=>wp_block (sq fun K81 hK81=>pl0 ?_)))
  obtain ⟨c82,H⟩:=gd H
  have hr83:=S.ra 1
  have hE_:=E
  obtain ⟨b84,rfl⟩:=qCW hr83 c82.1 c82.2
  replace E:=hE_
  have hr_:=S.ra 1
  obtain ⟨cs86,rfl,hc87⟩:=qCV hr_ qd.z x71 c82.1 c82.2
  refine plc E (.x 0 c82<|.cs 1 hc87<|.nil) (fun a E=>pla (t:=190) E S [iv 0,iv 0,iv 0] fun b88 u89 hb88 S a E=>pls E S [iv ((nth qd.z l32 x71).f0),iv ((nth qd.z l32 x71).f1),iv ((nth qd.z l32 x71).f2)] fun u90 hb88 S a E=>pld (hK81 _ _ (pl0 (plc E (.r 0 2<|.bn 2 0 3 hb88<|.bn 3 0 3 (S.ba 1)<|.r 4 1<|.nil) (fun a E=>?_)))))
  obtain ⟨t92,h93,H⟩:=bd H
  refine ple E (.cl en166 (qAI.calls k75 x (nth qd.z l32 x71) (nth qN.z y x36) z _ _ _ _ _ S.own.sub g0_0 h93)) ?_
  rintro _ u91 a ⟨F94,A95,c96,rfl,hC⟩ E
  have hs:=hC.sub
  replace S:=S.called (X:=[]) hC
  replace g0_0:=g0_0.mono hs
  replace g1_0:=g1_0.mono hs
  obtain ⟨c99,H⟩:=gd H
  replace S:=S.front 5 rfl
  refine ple E (.ap (d:=qd.k) 24 S (qCX (S.row_at (i:=1) rfl)) c99 c96) ?_
  rintro _ u102 a ⟨A100,c101,rfl,S,hz⟩ E
  refine plc E (.r 7 1 .nil) (fun a E=>pld ?_)
  refine qCS ?_
  refine hK80 _ _ (pl0 (plc E (.r 0 2 .nil) (fun a E=>pld ?_)))
  replace S:=S.pm [3,4,5,0] 6
  exact qCT ⟨k75,by omega,_,A100,c101,(l70++t92),(w64 (x71+1)),F94,by omega,E,.of,S,g0_0,g1_0,H⟩
  refine wp_exit ?_
  refine hK65 _ _ (pl0 (plc E (.r 0 2 .nil) (fun a E=>pld ?_)))
  refine qCS ?_
  refine qCS ?_
  refine hK45 _ _ (pl0 (plc E (.r 0 2 .nil) (fun a E=>pld ?_)))
  replace S:=S.pm [3,2] 4
  exact qCT ⟨k75,by omega,_,A68,c69,l70,A33,c34,l35,(w64 (x36+1)),F72,by omega,E,.of,S,g0_0,g1_0,H⟩
  refine sq fun K104 hK104=>rr E fun a E=>(wp_block ?_)
  refine wp_loop_ghost (fun kq112 a w'=>∃(G:NV)(A107:OA)(c108:Nat)(l109:List Int)(x110:Int),kq112≤k40∧Env 97 G a∧At G [(0,.slice A0_0 x.length c0_0),(2,iv z),(3,iv p),(11,.slice A107 l109.length c108),(43,.slice (some ad48) y.length c1_0),(44,iv (y.length:Int)),(45,iv x36),(51,.slice A30 l32.length c31),(52,iv (l32.length:Int)),(53,iv x110)]∧Sm W F w' F37 [box b52 #[iv ((nth qN.z y x36).f0),iv ((nth qN.z y x36).f1),iv ((nth qN.z y x36).f2)] 143,row qd.k 190 (.slice A30 l32.length c31) l32,row ki 3 (.slice A107 l109.length c108) l109]∧qAD.l111 kq112 x y z p l32 x36 l109 x110=some r) k40 ⟨_,A33,c34,l35,0,Nat.le_refl _,E,.of,S,H⟩ ?_
  rintro kq112 a u114 ⟨G,A107,c108,l109,x110,hkq,E,A,S,H⟩
  obtain _ | k113:=kq112
  exact zz H
  rw [qAD.l111_s]at H
  obtain ⟨J,E⟩:=E.at A
  refine rr E fun a E=>(sq fun K116 hK116=>E.ik 54 H (fun c117 E H=>?_) fun c117 E H=>?_)
  refine wp_skip (hK116 _ _ (sq fun K118 hK118=>wp_block (sq fun K119 hK119=>pl0 ?_)))
  obtain ⟨c120,H⟩:=gd H
  have hr121:=S.ra 1
  have hE_:=E
  obtain ⟨b122,rfl⟩:=qCW hr121 c120.1 c120.2
  replace E:=hE_
  have hr_:=S.ra 1
  obtain ⟨cs124,rfl,hc125⟩:=qCV hr_ qd.z x110 c120.1 c120.2
  refine plc E (.x 0 c120<|.cs 1 hc125<|.nil) (fun a E=>pla (t:=190) E S [iv 0,iv 0,iv 0] fun b126 u127 hb126 S a E=>pls E S [iv ((nth qd.z l32 x110).f0),iv ((nth qd.z l32 x110).f1),iv ((nth qd.z l32 x110).f2)] fun u128 hb126 S a E=>pld (hK119 _ _ (sq fun K129 hK129=>?_)))
  have J138:∀ kq136,kq136≤k113→∀(G:NV)(y134:Bool)(a:Act)(w':World),Env 97 G a→At G [(0,.slice A0_0 x.length c0_0),(2,iv z),(3,iv p),(11,.slice A107 l109.length c108),(18,.pointer (pb b126)),(43,.slice (some ad48) y.length c1_0),(44,iv (y.length:Int)),(45,iv x36),(51,.slice (pb b122) l32.length c31),(52,iv (l32.length:Int)),(53,iv x110),(67,.bool y134)]→Sm W F w' F37 [box b126 #[iv ((nth qd.z l32 x110).f0),iv ((nth qd.z l32 x110).f1),iv ((nth qd.z l32 x110).f2)] 190,box b52 #[iv ((nth qN.z y x36).f0),iv ((nth qN.z y x36).f1),iv ((nth qN.z y x36).f2)] 143,row qd.k 190 (.slice (pb b122) l32.length c31) l32,row ki 3 (.slice A107 l109.length c108) l109]→qAD.j135 kq136 x y z p l32 x36 l109 x110 y134=some r→K129 a w':=by
   intro kq136 hkq G y134 a u139 E A S H
   obtain _ | k137:=kq136
   exact zz H
   rw [qAD.j135_s]at H
   obtain ⟨J,E⟩:=E.at A
   refine hK129 _ _ (E.ib 67 H (fun c140 E H=>?_) fun c140 E H=>?_)
   refine pl0 (plc E (.r 0 2<|.b 2 2 (S.ba 0)<|.nil) (fun a E=>ple E (.lit (d:=ki) (e:=3) S [(nth qd.z l32 x110).f2] (.cons rfl .nil)) ?_))
   rintro _ u141 a ⟨A142,c143,rfl,S,hg⟩ E
   obtain ⟨c145,H⟩:=gd H
   replace S:=S.front 4 rfl
   refine ple E (.ap (d:=ki) 8 S (qCX (S.row_at (i:=1) rfl)) c145 c143) ?_
   rintro _ u148 a ⟨A146,c147,rfl,S,hz⟩ E
   refine plc E (.r 5 1 .nil) (fun a E=>pld ?_)
   refine qCS ?_
   refine hK118 _ _ (pl0 (plc E (.r 0 2 .nil) (fun a E=>pld ?_)))
   replace S:=S.pm [3,4,0] 5
   exact qCT ⟨k137,by omega,_,A146,c147,(l109++[(nth qd.z l32 x110).f2]),(w64 (x110+1)),by omega,E,.of,S,H⟩
   refine wp_skip ?_
   refine qCS ?_
   refine hK118 _ _ (pl0 (plc E (.r 0 2 .nil) (fun a E=>pld ?_)))
   replace S:=S.tail
   exact qCT ⟨k137,by omega,_,A107,c108,l109,(w64 (x110+1)),by omega,E,.of,S,H⟩
  refine pl0 (plc E (.r 0 5 .nil) (fun a E=>E.fk 61 H (fun c130 E H=>?_) fun c130 E H=>?_))
  refine plc E (.r 5 2<|.b 7 2 hb126<|.nil) (fun a E=>?_)
  obtain ⟨t132,h133,H⟩:=bd H
  refine plq E S en75 (qAG.calls k113 l109 ((nth qd.z l32 x110).f2) _ _ _ _ _ (Sub.refl _) (S.rd_at (i:=3) rfl) h133) fun u131 S a E=>plc E (.r 9 2 .nil) (fun a E=>pld ?_)
  exact J138 _ (by omega) _ (!t132) _ _ E .of S H
  refine plc E (.r 5 6 .nil) (fun a E=>pld ?_)
  exact J138 _ (by omega) _ false _ _ E .of S H
  refine wp_exit ?_
  refine hK104 _ _ (pl0 (plc E (.r 0 1 .nil) (fun a E=>pld ?_)))
  refine qCS ?_
  refine qCS ?_
  refine hK45 _ _ (pl0 (plc E (.r 0 2 .nil) (fun a E=>pld ?_)))
  replace S:=S.nilrow qd.k 190
  replace S:=S.pm [0] 3
  exact qCT ⟨k113,by omega,_,none,0,[],A107,c108,l109,(w64 (x36+1)),F37,by omega,E,.of,S,g0_0,g1_0,H⟩
  refine wp_exit ?_
  refine hK26 _ _ (rr E fun a E=>(wp_ret ?_))
  replace S:=S.tail
  obtain rfl:=si H
  exact rtN E ⟨_,rfl,_,_,_,rfl,S⟩
 refine pl0 (plc E (.r 0 1 .nil) (fun a E=>?_))
 obtain ⟨t5,h6,H⟩:=bd H
 refine plq E S en74 (qAQ.calls k x _ _ _ _ _ S.own.sub g0_0 h6) fun u4 S a E=>plc E (.r 2 2 .nil) (fun a E=>E.fkn 22 H (fun c7 E H=>?_) fun c7 E H=>?_)
 refine plc E (.r 4 1 .nil) (fun a E=>?_)
 obtain ⟨t9,h10,H⟩:=bd H
 refine plq E S en165 (qAm.calls k y _ _ _ _ _ S.own.sub g1_0 h10) fun u8 S a E=>plc E (.r 6 3 .nil) (fun a E=>E.fkn 27 H (fun c11 E H=>?_) fun c11 E H=>?_)
 refine plc E (.r 9 4 .nil) (fun a E=>E.fk 31 H (fun c12 E H=>?_) fun c12 E H=>?_)
 refine plc E (.r 13 11 .nil) (fun a E=>pld ?_)
 exact J19 _ (by omega) _ true _ _ E .of S H
 refine plc E (.r 13 4 .nil) (fun a E=>E.fk 35 H (fun c13 E H=>?_) fun c13 E H=>?_)
 refine plc E (.r 17 7 .nil) (fun a E=>pld ?_)
 exact J19 _ (by omega) _ true _ _ E .of S H
 refine plc E (.r 17 4 .nil) (fun a E=>E.fk 39 H (fun c14 E H=>?_) fun c14 E H=>?_)
 refine plc E (.r 21 3 .nil) (fun a E=>pld ?_)
 exact J19 _ (by omega) _ true _ _ E .of S H
 refine plc E (.r 21 3 .nil) (fun a E=>pld ?_)
 exact J19 _ (by omega) _ (decide (p>3)) _ _ E .of S H
 refine plc E (.r 9 15 .nil) (fun a E=>pld ?_)
 exact J19 _ (by omega) _ true _ _ E .of S H
 refine plc E (.r 4 20 .nil) (fun a E=>pld ?_)
 exact J19 _ (by omega) _ true _ _ E .of S H
def qBA.j6:Nat→Int→Bool→Option (List qN)
 | 0,_,_=>none
 | k+1,x,y5=>if y5=true then (some []) else (some [(⟨1,0,0⟩:qN),(⟨2,1,x⟩:qN),(⟨2,2,1⟩:qN),(⟨2,3,1⟩:qN),(⟨3,0,0⟩:qN)])
theorem qBA.j6_s k x y5:type_of% (qBA.j6.eq_2 x y5 k):=qBA.j6.eq_2 x y5 k
def qBA.f(k:Nat)(x:Int):Option (List qN):=if x<1 then (qBA.j6 k x true) else (qBA.j6 k x (decide (x>3)))
def qBA.Post(W F:World)(r:List qN)(v:Value)(w':World):Prop:=∃(F':World)(RA0_0:OA)(rc0_0:Nat),v = .slice RA0_0 r.length rc0_0∧Sm W F w' F' [row qN.k 143 (.slice RA0_0 r.length rc0_0) r]
theorem qBA.calls(k:Nat)(x:Int)(r:List qN)(W F:World)(hown:Sub F W)(H:qBA.f k x=some r):
    Cr 141 #[iv x] W (qBA.Post W F r):=by
 have S:=sT hown
 unfold qBA.f at H
 refine ent 16 rfl rfl rfl (fun a E=>?_)
 refine rr E fun a E=>(sq fun K2 hK2=>sq fun K3 hK3=>?_)
 have J9:∀ kq7,kq7≤k→∀(G:NV)(y5:Bool)(a:Act)(w':World),Env 16 G a→At G [(0,iv x),(8,.bool y5)]→Sm W F w' F []→qBA.j6 kq7 x y5=some r→K3 a w':=by
  intro kq7 hkq G y5 a u10 E A S H
  obtain _ | k8:=kq7
  exact zz H
  rw [qBA.j6_s]at H
  obtain ⟨J,E⟩:=E.at A
  refine hK3 _ _ (E.ib 8 H (fun c11 E H=>?_) fun c11 E H=>?_)
  refine rr E fun a E=>(wp_ret (qCQ ?_))
  replace S:=S.nilrow qN.k 143
  obtain rfl:=si H
  exact rt1 E ⟨_,rfl,_,_,_,rfl,S⟩
  refine wp_skip (hK2 _ _ (sq fun K14 hK14=>pl0 (plc E (.r 0 6 .nil) (fun a E=>ple E (.lit (d:=qN.k) (e:=143) S [(⟨1,0,0⟩:qN),(⟨2,1,x⟩:qN),(⟨2,2,1⟩:qN),(⟨2,3,1⟩:qN),(⟨3,0,0⟩:qN)] (.cons rfl<|.cons rfl<|.cons rfl<|.cons rfl<|.cons rfl .nil)) ?_))))
  rintro _ u15 a ⟨A16,c17,rfl,S,hg⟩ E
  refine plc E (.r 7 1 .nil) (fun a E=>pld (hK14 _ _ (wp_ret ?_)))
  obtain rfl:=si H
  exact rt1 E ⟨_,rfl,_,_,_,rfl,S⟩
 refine pl0 (plc E (.r 0 3 .nil) (fun a E=>E.fk 5 H (fun c4 E H=>?_) fun c4 E H=>?_))
 refine plc E (.r 3 3 .nil) (fun a E=>pld ?_)
 exact J9 _ (by omega) _ true _ _ E .of S H
 refine plc E (.r 3 3 .nil) (fun a E=>pld ?_)
 exact J9 _ (by omega) _ (decide (x>3)) _ _ E .of S H
def qCB.f(k:Nat)(x:List qA)(y:Int)(z:Int):Option (List Int):=(qBA.f k z).bind fun t4=>((qAD.f k x t4 y z).bind fun t14=>(some t14.1))
def qCB.Post(W F:World)(r:List Int)(v:Value)(w':World):Prop:=∃(F':World)(RA0_0:OA)(rc0_0:Nat),v = .slice RA0_0 r.length rc0_0∧Sm W F w' F' [row ki 3 (.slice RA0_0 r.length rc0_0) r]
theorem qCB.calls(k:Nat)(x:List qA)(y:Int)(z:Int)(A0_0:OA)(c0_0:Nat)(r:List Int)(W F:World)(hown:Sub F W)(g0_0:Rd qA.k F A0_0 c0_0 x)(H:qCB.f k x y z=some r):
    Cr 114 #[.slice A0_0 x.length c0_0,iv y,iv z] W (qCB.Post W F r):=by
 have S:=sT hown
 unfold qCB.f at H
 refine ent 19 rfl rfl rfl (fun a E=>?_)
 refine rr E fun a E=>(sq fun K2 hK2=>pl0 (plc E (.r 0 2 .nil) (fun a E=>?_)))
 obtain ⟨t4,h5,H⟩:=bd H
 refine ple E (.cl en141 (qBA.calls k z _ _ _ S.own.sub h5)) ?_
 rintro _ u3 a ⟨F6,A7,c8,rfl,hC⟩ E
 have hs:=hC.sub
 replace S:=S.called (X:=[]) hC
 replace g0_0:=g0_0.mono hs
 refine plc E (.r 3 2 .nil) (fun a E=>?_)
 obtain ⟨F11,hs,g12,S⟩:=S.give
 replace g0_0:=g0_0.mono hs
 obtain ⟨t14,h15,H⟩:=bd H
 refine ple E (.cl en140 (qAD.calls k x t4 y z _ _ _ _ _ _ _ S.own.sub g0_0 g12 h15)) ?_
 rintro _ u13 a ⟨F16,A17,c18,rfl,hC⟩ E
 have hs:=hC.sub
 replace S:=S.called (X:=[]) hC
 replace g0_0:=g0_0.mono hs
 replace g12:=g12.mono hs
 refine plc E (.r 6 5 .nil) (fun a E=>pld (hK2 _ _ (rr E fun a E=>(wp_ret ?_))))
 obtain rfl:=si H
 exact rt1 E ⟨_,rfl,_,_,_,rfl,S⟩
def qCC.f(k:Nat)(x:qD)(y:Int):Option (List Int):=(qBx.f k x y).bind fun t7=>(if t7.2=true then (if 0≤t7.1∧t7.1<(x.f5.length:Int) then ((qAb.f ((nth qE.z x.f5 t7.1).f1)).bind fun t21=>(some t21)) else (none)) else ((qCB.f k x.f4 y x.f1).bind fun t30=>(some t30)))
def qCC.Post(W F:World)(r:List Int)(v:Value)(w':World):Prop:=∃(F':World)(RA0_0:OA)(rc0_0:Nat),v = .slice RA0_0 r.length rc0_0∧Sm W F w' F' [row ki 3 (.slice RA0_0 r.length rc0_0) r]
theorem qCC.calls(k:Nat)(x:qD)(y:Int)(A0_4:OA)(c0_4:Nat)(A0_5:OA)(c0_5:Nat)(A0_6:OA)(c0_6:Nat)(r:List Int)(W F:World)(hown:Sub F W)(g0_4:Rd qA.k F A0_4 c0_4 x.f4)(g0_5:Rd qE.k F A0_5 c0_5 x.f5)(g0_6:Rd qC.k F A0_6 c0_6 x.f6)(H:qCC.f k x y=some r):
    Cr 94 #[.agg #[iv x.f0,iv x.f1,iv x.f2,iv x.f3,.slice A0_4 x.f4.length c0_4,.slice A0_5 x.f5.length c0_5,.slice A0_6 x.f6.length c0_6],iv y] W (qCC.Post W F r):=by
 have S:=sT hown
 unfold qCC.f at H
 refine ent 27 rfl rfl rfl (fun a E=>?_)
 refine sq fun K1 hK1=>pl0 (plx (t:=26) E S [iv x.f0,iv x.f1,iv x.f2,iv x.f3,.slice A0_4 x.f4.length c0_4,.slice A0_5 x.f5.length c0_5,.slice A0_6 x.f6.length c0_6] fun b2 u3 hb2 S a E=>plc E (.r 1 1 .nil) (fun a E=>pld (hK1 _ _ (sq fun K4 hK4=>sq fun K5 hK5=>pl0 (plc E (.bn 0 0 7 hb2<|.r 1 1<|.nil) (fun a E=>?_))))))
 obtain ⟨t7,h8,H⟩:=bd H
 refine plq E S en121 (qBx.calls k x y _ _ _ _ _ _ _ _ _ S.own.sub g0_4 g0_5 g0_6 h8) fun u6 S a E=>plc E (.r 3 5 .nil) (fun a E=>pld (hK5 _ _ (rr E fun a E=>(E.ib 13 H (fun c10 E H=>?_) fun c10 E H=>?_))))
 refine sq fun K11 hK11=>pl0 ?_
 have hb2:=S.ba 0
 obtain ⟨c12,H⟩:=gd H
 have hE_:=E
 obtain ⟨ad13,rfl⟩:=g0_5.addr c12.1 c12.2
 replace E:=hE_
 obtain ⟨cs15,⟨A17,c18,rfl,g19⟩,hc16⟩:=g0_5.el qE.z t7.1 c12.1 c12.2
 refine plc E (.r 0 1<|.b 1 5 hb2<|.r 2 1<|.x 3 c12<|.r 4 1<|.c 5 (S.fc hc16 1)<|.nil) (fun a E=>?_)
 obtain ⟨t21,h22,H⟩:=bd H
 refine ple E (.cl en54 (qAb.calls ((nth qE.z x.f5 t7.1).f1) _ _ _ _ _ S.own.sub g19 h22)) ?_
 rintro _ u20 a ⟨F23,A24,c25,rfl,hC⟩ E
 have hs:=hC.sub
 replace S:=S.called (X:=[]) hC
 replace g0_4:=g0_4.mono hs
 replace g0_5:=g0_5.mono hs
 replace g0_6:=g0_6.mono hs
 replace g19:=g19.mono hs
 refine plc E (.r 7 1 .nil) (fun a E=>pld (hK11 _ _ (wp_ret (qCQ ?_))))
 replace S:=S.pm [0] 2
 obtain rfl:=si H
 exact rt1 E ⟨_,rfl,_,_,_,rfl,S⟩
 refine wp_skip (hK4 _ _ (sq fun K28 hK28=>pl0 ?_))
 have hb2:=S.ba 0
 refine plc E (.r 0 1<|.b 1 4 hb2<|.r 2 2<|.b 4 1 hb2<|.nil) (fun a E=>?_)
 obtain ⟨t30,h31,H⟩:=bd H
 refine ple E (.cl en114 (qCB.calls k x.f4 y x.f1 _ _ _ _ _ S.own.sub g0_4 h31)) ?_
 rintro _ u29 a ⟨F32,A33,c34,rfl,hC⟩ E
 have hs:=hC.sub
 replace S:=S.called (X:=[]) hC
 replace g0_4:=g0_4.mono hs
 replace g0_5:=g0_5.mono hs
 replace g0_6:=g0_6.mono hs
 refine plc E (.r 6 1 .nil) (fun a E=>pld (hK28 _ _ (wp_ret ?_)))
 replace S:=S.pm [0] 2
 obtain rfl:=si H
 exact rt1 E ⟨_,rfl,_,_,_,rfl,S⟩
theorem qIg:Et 135:=eo Tryz.func135
set_option maxHeartbeats 1000000 in
theorem qHk(F:Fence)(n:Nat)(h5:F.fn 106)(hro:F.round=none)(a:Option Addr)(len cap:Nat)(w:World):
  CallsIn F n Tryz.prog 106 #[.slice a len cap] w fun e w'=>e = .returned (.func (.func 135) #[] #[.pointer (some ⟨w.heap.size,0,none⟩)])∧w'=w.alloc (.cells #[.slice a len cap] 27):=by
 refine callsIn_of_wp Tryz.func106 rfl h5 ?_ hro
 simp only [Tryz.ntmps106,List.size_toArray,List.length_cons,List.length_nil,Nat.reduceAdd,Nat.reduceSub,Array.replicate_succ,Array.replicate_zero,List.push_toArray,List.append_toArray,List.nil_append,List.cons_append]
 gi_wp2
 go_ret
 exact ⟨rfl,rfl⟩
theorem qCH.calls(x0_:List Int)(A0_0:Option Addr)(c0_0:Nat)(W F:World)(hown:Sub F W):
  Calls Tryz.prog 106 #[.slice A0_0 x0_.length c0_0] W fun e w'=>∃ v,e = .returned v∧∃ p,v = .func (.func 135) #[] #[.pointer (some ⟨p,0,none⟩)]∧St W (mine W []) F w' F [box p #[.slice A0_0 x0_.length c0_0] 27]:=by
 refine (callsIn_wide.1 (qHk Fence.wide 1 trivial rfl A0_0 x0_.length c0_0 W)).mono ?_
 rintro e w' ⟨rfl,rfl⟩
 exact ⟨_,rfl,_,rfl,(sT hown).box _ _⟩
def upto{α : Type}(f:Nat→α)(k:Nat):List α:=(List.range k).map f
theorem qHl{α : Type}(f:Nat→α)(k:Nat):upto f (k+1)=upto f k++[f k]:=by simp [upto,List.range_succ]
theorem qGK{α : Type}(f:Nat→α)(k:Nat):(upto f k).length=k:=by simp [upto]
theorem qIh(zs:List Int):upto (fun j=>zs[j]?.getD 0) zs.length=zs:=by
 apply List.ext_getElem
 ·simp [upto]
 ·intro i h1 h2
  simp [upto,h2]
section
attribute [local go_sem] Oper.semAt_some
set_option maxRecDepth 100000 in
set_option maxHeartbeats 2000000 in
theorem qHG (F:Fence) (n:Nat) (h7:F.fn 135) (hro:F.round=none) (hn:1≤n) (l Bs n₀ b off cap:Nat) (zs:List Int) (hreach:zs.length * 8≤140737488351232) (hb:b<n₀) (J:List Int→World→Prop)
  (hY:∀ pre x W,J pre W→pre.length<zs.length→YieldAt F (n - 1) Tryz.prog l #[.int .i64 x] W fun e W'=>e = .returned (.bool true)∧J (pre++[x]) W'∧Below n₀ W W')
  (W:World) (hBs:W.cell? ⟨Bs,0,none⟩=some (.slice (some ⟨b,off,none⟩) zs.length cap)) (hc:∀ j,j<zs.length→W.cell? ⟨b,off+j,none⟩=some (.int .i64 (zs[j]?.getD 0))) (h0:J [] W) :
  CallsIn F n Tryz.prog 135 #[.func (.yield l) #[] #[],.pointer (some ⟨Bs,0,none⟩)] W fun e W'=>(∃ v,e = .returned v)∧J zs W':=by
 obtain ⟨len,hlen⟩:∃ len,Hid (zs.length=len):=⟨_,rfl⟩
 rw [hlen.out]at hreach hBs hc hY
 refine callsIn_of_wp Tryz.func135 rfl h7 ?_ hro
 simp only [Tryz.ntmps135,List.size_toArray,List.length_cons,List.length_nil,Nat.reduceAdd,Nat.reduceSub,Array.replicate_succ,Array.replicate_zero,List.push_toArray,List.append_toArray,List.nil_append,List.cons_append]
 gi_wp2
 gi_loopw [7] (fun i wr=>∃ k:Nat,k≤len∧i = .int .i64 k∧J (upto (fun j=>zs[j]?.getD 0) k) wr∧Below n₀ W wr)
  (fun i _=>len - (Sl.intOf' i).toNat)
 case atStart=>exact ⟨0,Nat.zero_le _,rfl,h0,Below.refl _ _⟩
 case round =>
  obtain ⟨k,hk,rfl,hJs,hnx⟩:=hrel
  have hcx:k<len→wr.cell? ⟨b,off+k,none⟩=some (.int .i64 (zs[k]?.getD 0)):=fun h=>(hnx.cell (p:=⟨b,off+k,none⟩) hb).trans (hc k h)
  by_cases hlt:k<len
  ·obtain ⟨fn,tmps,assign,body,hy,hR⟩:=hY _ (zs[k]?.getD 0) wr hJs (by rw [qGK]; exact hlt)
   have hcx':=hcx hlt
   gi_wp2
   refine hR.mono ?_
   rintro e W3 ⟨rfl,hJ3,hk3⟩
   gi_wp2
   go_roundw
   case rel=>exact ⟨k+1,by omega,by simp,by rw [qHl]; exact hJ3,hnx.trans hk3⟩
   case measure=>simp [Sl.intOf']; omega
  ·obtain rfl:k=len:=by omega
   gi_wp2
   go_end0
   refine ⟨⟨_,rfl⟩,?_⟩
   rw [← hlen.out,qIh]at hJs
   exact hJs
set_option maxRecDepth 100000 in
set_option maxHeartbeats 1000000 in
theorem qEe(F:Fence)(n:Nat)(h7:F.fn 135)(hro:F.round=none)(l Bs:Nat)(A:Option Addr)(cap:Nat)(J:List Int→World→Prop)(W:World)(hBs:W.cell? ⟨Bs,0,none⟩=some (.slice A 0 cap))(h0:J [] W):
  CallsIn F n Tryz.prog 135 #[.func (.yield l) #[] #[],.pointer (some ⟨Bs,0,none⟩)] W fun e W'=>(∃ v,e = .returned v)∧J [] W':=by
 refine callsIn_of_wp Tryz.func135 rfl h7 ?_ hro
 simp only [Tryz.ntmps135,List.size_toArray,List.length_cons,List.length_nil,Nat.reduceAdd,Nat.reduceSub,Array.replicate_succ,Array.replicate_zero,List.push_toArray,List.append_toArray,List.nil_append,List.cons_append]
 gi_wp2
 gi_loopw [7] (fun i wr=>i = .int .i64 0∧J [] wr) (fun _ _=>0)
 case atStart=>exact ⟨rfl,h0⟩
 case round =>
  obtain ⟨rfl,hJs⟩:=hrel
  gi_wp2
  go_end0
  exact ⟨⟨_,rfl⟩,hJs⟩
end
theorem qFh(n:Nat)(hn:1≤n){A:Option Addr}{c p:Nat}{xs:List Int}{F W:World}(hs:Sub F W)(hr:Rd (Kn.int .i64) F A c xs)(hp:F.heap[p]? = some (.cells #[.slice A xs.length c] 27 (0,0)))(hreach:xs.length * 8≤140737488351232):GivesD Fence.wide n Tryz.prog 135 #[.pointer (some ⟨p,0,none⟩)] xs W:=by
 intro l J W1 hW hY h0
 have hpW:=hs _ _ _ _ hp
 have hB:W.cell? ⟨p,0,none⟩=some (.slice A xs.length c):=by simp [World.cell?,hpW]
 have hB1:=(hW.cell (p:=⟨p,0,none⟩) (qCe hpW)).trans hB
 rcases Nat.eq_zero_or_pos xs.length with h | h
 ·obtain rfl:xs=[]:=List.eq_nil_of_length_eq_zero h
  exact qEe Fence.wide n trivial rfl l p A c J W1 hB1 h0
 ·obtain ⟨ad,rfl,hc⟩:=hr.2.2 h
  have hcell:∀ j (hj:j<xs.length),W.cell? (ad.add (j * 1+0))=some (.int .i64 xs[j]):=fun j hj=>by
   obtain ⟨cs,hK,hcs⟩:=hc j xs[j] (List.getElem?_eq_getElem hj)
   have e:cs=[.int .i64 xs[j]]:=hK
   exact hs.cell (hcs 0 _ (by rw [e]; rfl))
  have ha:=qFL (hcell 0 h)
  have e0:ad.add (0 * 1+0)=ad:=rfl
  rw [e0]at ha
  obtain ⟨b,off,s⟩:=ad
  obtain rfl:s=none:=congrArg Addr.spot ha.1
  refine qHG Fence.wide n trivial rfl hn l p W.heap.size b off c xs hreach ha.2 J hY W1 hB1 (fun j hj=>?_) h0
  have hj1:=hcell j hj
  have e1:(⟨b,off,none⟩:Addr).add (j * 1+0)=⟨b,off+j,none⟩:=by
   unfold Addr.add
   rw [Nat.mul_one,Nat.add_zero]
   split
   ·rename_i h; rw [h]; rfl
   ·rfl
  rw [e1]at hj1
  rw [(hW.cell (p:=⟨b,off+j,none⟩) ha.2).trans hj1,List.getElem?_eq_getElem hj]
  rfl
def qAK.f(x0c0_:List Int):Option (List Int):=if x0c0_.length≤1000000 then some x0c0_ else none
def qAK.Post(W F:World)(r:List Int)(v:Value)(w':World):Prop:=∃(F':World)(RA0_0:Option Addr)(rc0_0:Nat),v = .slice RA0_0 r.length rc0_0∧St W (mine W []) F w' F' [row (Kn.int .i64) 3 (.slice RA0_0 r.length rc0_0) r]
theorem qAK.calls(x0c0_:List Int)(p0c0_:Nat)(A0c0_0:Option Addr)(c0c0_0:Nat)(r:List Int)(W F:World)(hown:Sub F W)(g0c0_0:Rd (Kn.int .i64) F A0c0_0 c0c0_0 x0c0_)(hp0c0_:F.heap[p0c0_]? = some (.cells #[.slice A0c0_0 x0c0_.length c0c0_0] 27 (0,0)))(H:qAK.f x0c0_=some r):
  Calls Tryz.prog 133 #[.func (.func 135) #[] #[.pointer (some ⟨p0c0_,0,none⟩)]] W fun e w'=>∃ v,e = .returned v∧qAK.Post W F r v w':=by
 have hS:=sT hown
 unfold qAK.f at H
 split at H
 ·rename_i hmax
  injection H with H
  subst H
  refine (callsIn_wide.1 (collectD Tryz.collectI Fence.wide 5 trivial trivial rfl (by omega) 135 #[.pointer (some ⟨p0c0_,0,none⟩)] trivial qIg x0c0_ (Nat.le_trans hmax (by decide)) (by omega) W (qFh 3 (by omega) hown g0c0_0 hp0c0_ (by omega)))).mono ?_
  rintro e w' ⟨v,rfl,hr,hb,hd⟩
  have h1:=collected hS hr hb hd
  rcases hr.2 with ⟨rfl,h0⟩ | ⟨g,cap,cur,rfl,_⟩
  ·refine ⟨_,rfl,F,none,0,by rw [h0],?_⟩
   rw [h0]
   exact h1
  ·exact ⟨_,rfl,F,some ⟨g,0,none⟩,cap,rfl,h1⟩
 ·cases H
def qBR.f(x0_:List Int):Option (List Int):=sortI x0_
def qBR.Post(x0_:List Int)(A0_0:Option Addr)(c0_0:Nat)(W F:World)(r:List Int)(v:Value)(w':World):Prop:=∃(F':World),v = .tuple #[]∧St W (mine W [row ki 3 (.slice A0_0 x0_.length c0_0) x0_]) F w' F' [row ki 3 (.slice A0_0 x0_.length c0_0) r]
theorem qBR.calls(x0_:List Int)(A0_0:Option Addr)(c0_0:Nat)(r:List Int)(W F:World)(hown:Own W F [row ki 3 (.slice A0_0 x0_.length c0_0) x0_])(H:qBR.f x0_=some r):
  Calls Tryz.prog 134 #[.slice A0_0 x0_.length c0_0] W fun e w'=>∃ v,e = .returned v∧qBR.Post x0_ A0_0 c0_0 W F r v w':=qGI Tryz.sortI hown H
def qAA.f(x0c0_:List Int):Option (List Int):=(qAK.f x0c0_).bind fun t4=>((qBR.f t4).bind fun t13=>(some t13))
def qAA.Post(W F:World)(r:List Int)(v:Value)(w':World):Prop:=∃(F':World)(RA0_0:OA)(rc0_0:Nat),v = .slice RA0_0 r.length rc0_0∧Sm W F w' F' [row ki 3 (.slice RA0_0 r.length rc0_0) r]
theorem qAA.calls(x0c0_:List Int)(p0c0_:Nat)(A0c0_0:OA)(c0c0_0:Nat)(r:List Int)(W F:World)(hown:Sub F W)(g0c0_0:Rd ki F A0c0_0 c0c0_0 x0c0_)(hp0c0_:F.heap[p0c0_]? = some (.cells #[.slice A0c0_0 x0c0_.length c0c0_0] 27 (0,0)))(H:qAA.f x0c0_=some r):
    Cr 105 #[.func (.func 135) #[] #[.pointer (pb p0c0_)]] W (qAA.Post W F r):=by
 have S:=sT hown
 unfold qAA.f at H
 refine ent 9 rfl rfl rfl (fun a E=>?_)
 refine rr E fun a E=>(sq fun K2 hK2=>pl0 (plc E (.r 0 1 .nil) (fun a E=>?_)))
 obtain ⟨t4,h5,H⟩:=bd H
 refine ple E (.cl en133 (qAK.calls x0c0_ _ _ _ _ _ _ S.own.sub g0c0_0 hp0c0_ h5)) ?_
 rintro _ u3 a ⟨F6,A7,c8,rfl,hC⟩ E
 have hs:=hC.sub
 replace S:=S.called (X:=[]) hC
 replace g0c0_0:=g0c0_0.mono hs
 replace hp0c0_:=hs _ _ _ _ hp0c0_
 refine plc E (.r 2 1 .nil) (fun a E=>pld (hK2 _ _ (sq fun K11 hK11=>pl0 (plc E (.r 0 1 .nil) (fun a E=>?_)))))
 obtain ⟨t13,h14,H⟩:=bd H
 refine ple E (.cl en134 (qBR.calls t4 _ _ _ _ _ (Own.left (X:=[row ki 3 (.slice A7 t4.length c8) t4]) S.own) h14)) ?_
 rintro _ u12 a ⟨F15,rfl,hC⟩ E
 have hs:=hC.sub
 replace S:=S.called (X:=[row ki 3 (.slice A7 t4.length c8) t4]) hC
 replace g0c0_0:=g0c0_0.mono hs
 replace hp0c0_:=hs _ _ _ _ hp0c0_
 refine pld (hK11 _ _ (rr E fun a E=>(wp_ret ?_)))
 have hn17:=(qCU (S.row_at (i:=0) rfl)).1
 replace E:=E.set (d:=2) (v:=.slice A7 t13.length c8) (Eq.trans (b:=.slice A7 t4.length c8) (by kernel_rfl) (by rw [← hn17]))
 replace S:Sm W F u12 F15 [row ki 3 (.slice A7 t13.length c8) t13]:=by rw [← hn17]; exact S
 obtain rfl:=si H
 exact rt1 E ⟨_,rfl,_,_,_,rfl,S⟩
def qBQ.f(k:Nat)(x:qG)(xf0_:qG):Option Bool:=(qq.f k x.f1 xf0_.f1).bind fun t6=>(some t6)
def qBQ.Post(W F:World)(r:Bool)(v:Value)(w':World):Prop:=∃(F':World),v = .bool r∧Sm W F w' F' []
theorem qBQ.calls(k:Nat)(x:qG)(xf0_:qG)(A0_1:OA)(c0_1:Nat)(pf0_:Nat)(Af0_1:OA)(cf0_1:Nat)(r:Bool)(W F:World)(hown:Sub F W)(g0_1:Rd ki F A0_1 c0_1 x.f1)(gf0_1:Rd ki F Af0_1 cf0_1 xf0_.f1)(hpf0_:F.heap[pf0_]? = some (.cells #[iv xf0_.f0,.slice Af0_1 xf0_.f1.length cf0_1] 77 (0,0)))(H:qBQ.f k x xf0_=some r):
    Cr 108 #[.agg #[iv x.f0,.slice A0_1 x.f1.length c0_1],.pointer (pb pf0_)] W (qBQ.Post W F r):=by
 have S:=sT hown
 unfold qBQ.f at H
 refine ent 9 rfl rfl rfl (fun a E=>?_)
 refine sq fun K1 hK1=>pl0 (plx (t:=77) E S [iv x.f0,.slice A0_1 x.f1.length c0_1] fun b2 u3 hb2 S a E=>plc E (.r 1 1 .nil) (fun a E=>pld (hK1 _ _ (sq fun K4 hK4=>pl0 (plc E (.r 0 1<|.b 1 1 hb2<|.r 2 1<|.b 3 1 (S.own.sub _ _ _ _ hpf0_)<|.nil) (fun a E=>?_))))))
 obtain ⟨t6,h7,H⟩:=bd H
 refine plq E S en63 (qq.calls k x.f1 xf0_.f1 _ _ _ _ _ _ _ S.own.sub g0_1 gf0_1 h7) fun u5 S a E=>plc E (.r 5 1 .nil) (fun a E=>pld (hK4 _ _ (wp_ret ?_)))
 replace S:=S.tail
 obtain rfl:=si H
 exact rt1 E ⟨_,rfl,_,rfl,S⟩
def qa.l5:Nat→List qG→qG→Int→Option Int
 | 0,_,_,_=>none
 | k+1,x,x1c0_,x4=>if x4<(x.length:Int) then (if 0≤x4∧x4<(x.length:Int) then ((qBQ.f k (nth qG.z x x4) x1c0_).bind fun t24=>(if t24=true then (some x4) else (qa.l5 k x x1c0_ (w64 (x4+1))))) else (none)) else (some (-1))
theorem qa.l5_s k x x1c0_ x4:type_of% (qa.l5.eq_2 x x1c0_ x4 k):=qa.l5.eq_2 x x1c0_ x4 k
def qa.f(k:Nat)(x:List qG)(x1c0_:qG):Option Int:=qa.l5 k x x1c0_ 0
def qa.Post(W F:World)(r:Int)(v:Value)(w':World):Prop:=∃(F':World),v=iv r∧Sm W F w' F' []
theorem qa.calls(k:Nat)(x:List qG)(x1c0_:qG)(A0_0:OA)(c0_0:Nat)(p1c0_:Nat)(A1c0_1:OA)(c1c0_1:Nat)(r:Int)(W F:World)(hown:Sub F W)(g0_0:Rd qG.k F A0_0 c0_0 x)(g1c0_1:Rd ki F A1c0_1 c1c0_1 x1c0_.f1)(hp1c0_:F.heap[p1c0_]? = some (.cells #[iv x1c0_.f0,.slice A1c0_1 x1c0_.f1.length c1c0_1] 77 (0,0)))(H:qa.f k x x1c0_=some r):
    Cr 136 #[.slice A0_0 x.length c0_0,.func (.func 108) #[] #[.pointer (pb p1c0_)]] W (qa.Post W F r):=by
 have S:=sT hown
 unfold qa.f at H
 refine ent 19 rfl rfl rfl (fun a E=>?_)
 refine rr E fun a E=>(sq fun K2 hK2=>rr E fun a E=>(wp_block ?_))
 refine wp_loop_ghost (fun kq6 a w'=>∃(G:NV)(x4:Int),kq6≤k∧Env 19 G a∧At G [(0,.slice A0_0 x.length c0_0),(1,.func (.func 108) #[] #[.pointer (pb p1c0_)]),(7,iv (x.length:Int)),(8,iv x4)]∧Sm W F w' F []∧qa.l5 kq6 x x1c0_ x4=some r) k ⟨_,0,Nat.le_refl _,E,.of,S,H⟩ ?_
 rintro kq6 a u8 ⟨G,x4,hkq,E,A,S,H⟩
 obtain _ | k7:=kq6
 exact zz H
 rw [qa.l5_s]at H
 obtain ⟨J,E⟩:=E.at A
 refine rr E fun a E=>(sq fun K10 hK10=>E.ik 9 H (fun c11 E H=>?_) fun c11 E H=>?_)
 refine wp_skip (hK10 _ _ (sq fun K12 hK12=>wp_block (rr E fun a E=>(sq fun K14 hK14=>pl0 ?_))))
 obtain ⟨c15,H⟩:=gd H
 have hE_:=E
 obtain ⟨ad16,rfl⟩:=g0_0.addr c15.1 c15.2
 replace E:=hE_
 obtain ⟨cs18,⟨A20,c21,rfl,g22⟩,hc19⟩:=g0_0.el qG.z x4 c15.1 c15.2
 refine plc E (.r 0 3<|.x 3 c15<|.cs 4 (S.fcs hc19)<|.nil) (fun a E=>?_)
 obtain ⟨t24,h25,H⟩:=bd H
 refine plq E S en108 (qBQ.calls k7 (nth qG.z x x4) x1c0_ _ _ _ _ _ _ _ _ S.own.sub g22 g1c0_1 hp1c0_ h25) fun u23 S a E=>pld (hK14 _ _ (E.ib 16 H (fun c26 E H=>?_) fun c26 E H=>?_))
 refine rr E fun a E=>(wp_ret (qCR (qCQ (qCQ (qCR (qCQ ?_))))))
 obtain rfl:=si H
 exact rt1 E ⟨_,rfl,_,rfl,S⟩
 refine wp_skip ?_
 refine qCS ?_
 refine hK12 _ _ (pl0 (plc E (.r 0 2 .nil) (fun a E=>pld ?_)))
 exact qCT ⟨k7,by omega,_,(w64 (x4+1)),by omega,E,.of,S,H⟩
 refine wp_exit ?_
 refine hK2 _ _ (rr E fun a E=>(wp_ret ?_))
 obtain rfl:=si H
 exact rt1 E ⟨_,rfl,_,rfl,S⟩
def qT.l15:Nat→List qG→qG→List qG→Int→Int→Option (List qG)
 | 0,_,_,_,_,_=>none
 | k+1,x,x1c0_,l12,x13,x14=>if x14<(x.length:Int) then (if 0≤x14∧x14<(x.length:Int) then ((qBQ.f k (nth qG.z l12 x14) x1c0_).bind fun t39=>(if t39=true then (qT.l15 k x x1c0_ l12 x13 (w64 (x14+1))) else (if 0≤x13∧x13<(x.length:Int) then (qT.l15 k x x1c0_ (l12.set (x13).toNat (nth qG.z l12 x14)) (w64 (x13+1)) (w64 (x14+1))) else (none)))) else (none)) else (if 0≤x13∧x13≤(x.length:Int) then (some (cutl (l12.take (x13).toNat++List.replicate (x.length - (x13).toNat) qG.z) 0 x13)) else (none))
theorem qT.l15_s k x x1c0_ l12 x13 x14:type_of% (qT.l15.eq_2 x x1c0_ l12 x13 x14 k):=qT.l15.eq_2 x x1c0_ l12 x13 x14 k
def qT.f(k:Nat)(x:List qG)(x1c0_:qG):Option (List qG):=(qa.f k x x1c0_).bind fun t4=>(if t4=(-1) then (some x) else (qT.l15 k x x1c0_ x t4 (w64 (t4+1))))
def qT.Post(x:List qG)(x1c0_:qG)(A0_0:OA)(c0_0:Nat)(p1c0_:Nat)(A1c0_1:OA)(c1c0_1:Nat)(W F:World)(r:List qG)(v:Value)(w':World):Prop:=∃(F':World)(RA0_0:OA)(rc0_0:Nat),v = .slice RA0_0 r.length rc0_0∧St W (mine W [row qG.k 77 (.slice A0_0 x.length c0_0) x]) F w' F' [row qG.k 77 (.slice RA0_0 r.length rc0_0) r]
theorem qT.calls(k:Nat)(x:List qG)(x1c0_:qG)(A0_0:OA)(c0_0:Nat)(p1c0_:Nat)(A1c0_1:OA)(c1c0_1:Nat)(r:List qG)(W F:World)(hown:Own W F [row qG.k 77 (.slice A0_0 x.length c0_0) x])(g1c0_1:Rd ki F A1c0_1 c1c0_1 x1c0_.f1)(hp1c0_:F.heap[p1c0_]? = some (.cells #[iv x1c0_.f0,.slice A1c0_1 x1c0_.f1.length c1c0_1] 77 (0,0)))(H:qT.f k x x1c0_=some r):
    Cr 107 #[.slice A0_0 x.length c0_0,.func (.func 108) #[] #[.pointer (pb p1c0_)]] W (qT.Post x x1c0_ A0_0 c0_0 p1c0_ A1c0_1 c1c0_1 W F r):=by
 have S:=St.start hown
 obtain ⟨N,hN⟩:∃ N,N=mine W [row qG.k 77 (.slice A0_0 x.length c0_0) x]:=⟨_,rfl⟩
 rw [← hN]at S
 unfold qT.f at H
 refine ent 42 rfl rfl rfl (fun a E=>?_)
 refine rr E fun a E=>(sq fun K2 hK2=>pl0 (plc E (.r 0 2 .nil) (fun a E=>?_)))
 obtain ⟨t4,h5,H⟩:=bd H
 refine plq E S en136 (qa.calls k x x1c0_ _ _ _ _ _ _ _ _ (Sub.refl _) (S.rd_at (i:=0) rfl) (g1c0_1.mono S.own.sub) (S.own.sub _ _ _ _ hp1c0_) h5) fun u3 S a E=>plc E (.r 3 1 .nil) (fun a E=>pld (hK2 _ _ (sq fun K6 hK6=>rr E fun a E=>(E.ik 12 H (fun c8 E H=>?_) fun c8 E H=>?_))))
 refine rr E fun a E=>(wp_ret (qCQ ?_))
 rw [hN]at S
 obtain rfl:=si H
 exact rt1 E ⟨_,rfl,_,_,_,rfl,S⟩
 refine wp_skip (hK6 _ _ (sq fun K10 hK10=>rr E fun a E=>(wp_block ?_)))
 refine wp_loop_ghost (fun kq16 a w'=>∃(G:NV)(l12:List qG)(x13:Int)(x14:Int),kq16≤k∧Env 42 G a∧At G [(0,.slice A0_0 x.length c0_0),(1,.func (.func 108) #[] #[.pointer (pb p1c0_)]),(5,iv x13),(6,iv x14)]∧St W N F w' F [row qG.k 77 (.slice A0_0 x.length c0_0) l12]∧qT.l15 kq16 x x1c0_ l12 x13 x14=some r) k ⟨_,x,t4,(w64 (t4+1)),Nat.le_refl _,E,.of,S,H⟩ ?_
 rintro kq16 a u18 ⟨G,l12,x13,x14,hkq,E,A,S,H⟩
 obtain _ | k17:=kq16
 exact zz H
 rw [qT.l15_s]at H
 obtain ⟨J,E⟩:=E.at A
 refine sq fun K19 hK19=>rr E fun a E=>(E.ik 19 H (fun c21 E H=>?_) fun c21 E H=>?_)
 refine wp_skip (hK19 _ _ (sq fun K22 hK22=>wp_block (sq fun K23 hK23=>pl0 ?_)))
 obtain ⟨c24,H⟩:=gd H
 have hr25:=S.ra 0
 have c26:0≤x14∧x14<(l12.length:Int):=by rw [← (qCU hr25).1]; exact c24
 have hE_:=E
 obtain ⟨b27,rfl⟩:=qCW hr25 c26.1 c26.2
 replace E:=hE_
 have hr_:=S.ra 0
 obtain ⟨cs29,⟨A31,c32,rfl,g33⟩,hc30⟩:=qCV hr_ qG.z x14 c26.1 c26.2
 refine plc E (.r 0 2<|.x 2 c24<|.cs 3 hc30<|.nil) (fun a E=>pla (t:=77) E S [iv 0,.slice none 0 0] fun b34 u35 hb34 S a E=>pls E S [iv ((nth qG.z l12 x14).f0),.slice A31 (((nth qG.z l12 x14).f1).length) c32] fun u36 hb34 S a E=>pld (hK23 _ _ (sq fun K37 hK37=>pl0 (plc E (.r 0 1<|.bn 1 0 2 hb34<|.nil) (fun a E=>?_)))))
 obtain ⟨t39,h40,H⟩:=bd H
 refine plq E S en108 (qBQ.calls k17 (nth qG.z l12 x14) x1c0_ _ _ _ _ _ _ _ _ S.own.sub g33 g1c0_1 hp1c0_ h40) fun u38 S a E=>plc E (.r 3 1 .nil) (fun a E=>pld (hK37 _ _ (E.ibn 29 H (fun c41 E H=>?_) fun c41 E H=>?_)))
 refine wp_skip ?_
 refine qCS ?_
 refine hK22 _ _ (pl0 (plc E (.r 0 3 .nil) (fun a E=>pld ?_)))
 replace S:=S.tail
 exact qCT ⟨k17,by omega,_,l12,x13,(w64 (x14+1)),by omega,E,.of,S,H⟩
 refine sq fun K42 hK42=>pl0 ?_
 have hb34:=S.ba 0
 obtain ⟨c43,H⟩:=gd H
 have hr44:=S.ra 1
 have c45:0≤x13∧x13<(l12.length:Int):=by rw [← (qCU hr44).1]; exact c43
 have hr_:=S.ra 1
 obtain ⟨cs47,⟨A49,c50,rfl,g51⟩,hc48⟩:=qCV hr_ qG.z x13 c45.1 c45.2
 refine plc E (.r 0 2<|.bn 2 0 2 hb34<|.x 3 c43<|.nil) (fun a E=>?_)
 replace S:=S.front 1 rfl
 obtain ⟨cs56,⟨A53,c54,rfl,g55⟩,hc57⟩:=qCV (S.row_at (i:=0) rfl) qG.z x13 c45.1 c45.2
 refine ple E (.set (d:=qG.k) (n:=x.length) (i:=x13) (nth qG.z l12 x14) (0) (ea0 _ _) S c45 [iv ((nth qG.z l12 x13).f0),.slice A53 (((nth qG.z l12 x13).f1).length) c54] hc57 [iv ((nth qG.z l12 x14).f0),.slice A31 (((nth qG.z l12 x14).f1).length) c32] ⟨_,_,rfl,g33⟩) ?_
 rintro _ u52 a ⟨rfl,S,hz⟩ E
 refine pld (hK42 _ _ (pl0 (plc E (.r 0 3 .nil) (fun a E=>pld ?_))))
 refine qCS ?_
 refine hK22 _ _ (pl0 (plc E (.r 0 3 .nil) (fun a E=>pld ?_)))
 replace S:=S.pm [0] 2
 exact qCT ⟨k17,by omega,_,(l12.set (x13).toNat (nth qG.z l12 x14)),(w64 (x13+1)),(w64 (x14+1)),by omega,E,.of,S,H⟩
 refine wp_exit ?_
 refine hK10 _ _ (sq fun K58 hK58=>pl0 ?_)
 obtain ⟨c59,H⟩:=gd H
 obtain ⟨A60,c61,hA62,hv63⟩:=y_suf (P:=Tryz.prog) (k:=.i64) (S.row_at (i:=0) rfl) c59
 refine plc E (.r 0 2<|.y 2 (hv63 (by kernel_rfl))<|.nil) (fun a E=>ple E (.clr (d:=qG.k) (n:=x.length) (c':=c61) (lo:=x13) 32 qG.z S c59 hA62 (by rw [zr77]; exact ⟨none,0,rfl,Rd.nil _ _⟩)) ?_)
 rintro _ u64 a ⟨rfl,S,hz⟩ E
 refine pld (hK58 _ _ (sq fun K65 hK65=>pl0 ?_))
 have hv66:=S.ra 0
 replace S:=S.shrink c59
 refine plc E (.r 0 2<|.y 2 (y_pre (k:=.i64) hv66 c59)<|.r 3 1<|.nil) (fun a E=>pld (hK65 _ _ (wp_ret ?_)))
 rw [hN]at S
 obtain rfl:=si H
 exact rt1 E ⟨_,rfl,_,_,_,rfl,S⟩
end Go.Proofs.YthgfhlbjkmjlpaaGreat.PG
