import Derived.Test.YtpabbpebefdafaaMI0
namespace Go.Proofs.Ytpabbpebefdafaa.MI
open Go Go.RowKit Go.Proofs.Ytpabbpebefdafaa.Sl
set_option linter.unusedVariables false
set_option linter.unusedSimpArgs false
set_option maxHeartbeats 4000000
set_option maxRecDepth 100000
def qF.l6:Nat→Int→Int→Option Int
 | 0,_,_=>none
 | k+1,x4,x5=>if x5<2 then (qF.l6 k (IntKind.u64.wrap ((IntKind.u64.wrap (((BitVec.ofInt 64 x4 ^^^ BitVec.ofInt 64 (x4.fdiv 4294967296)).toNat:Int))) * 15485907386658061715)) (w64 (x5+1))) else (some (IntKind.u64.wrap (((BitVec.ofInt 64 x4 ^^^ BitVec.ofInt 64 (x4.fdiv 4294967296)).toNat:Int))))
theorem qF.l6_s k x4 x5:type_of% (qF.l6.eq_2 x4 x5 k):=qF.l6.eq_2 x4 x5 k
def qF.f(k:Nat)(x:Int):Option Int:=qF.l6 k x 0
def qF.Post(W F:World)(r:Int)(v:Value)(w':World):Prop:=∃(F':World),v = .int .u64 r∧Sm W F w' F' []
theorem qF.calls(k:Nat)(x:Int)(r:Int)(W F:World)(hown:Sub F W)(H:qF.f k x=some r):
    Cr 24 #[.int .u64 x] W (qF.Post W F r):=by
 have S:=sT hown
 unfold qF.f at H
 refine ent 16 rfl rfl rfl (fun a E=>?_)
 refine rr E fun a E=>(sq fun K2 hK2=>rr E fun a E=>(wp_block ?_))
 refine wp_loop_ghost (fun kq7 a w'=>∃(G:NV)(x4:Int)(x5:Int),kq7≤k∧Env 16 G a∧At G [(0,.int .u64 x4),(3,iv x5)]∧Sm W F w' F []∧qF.l6 kq7 x4 x5=some r) k ⟨_,x,0,Nat.le_refl _,E,.of,S,H⟩ ?_
 rintro kq7 a u9 ⟨G,x4,x5,hkq,E,A,S,H⟩
 obtain _ | k8:=kq7
 exact zz H
 rw [qF.l6_s]at H
 obtain ⟨J,E⟩:=E.at A
 refine rr E fun a E=>(sq fun K11 hK11=>E.ik 4 H (fun c12 E H=>?_) fun c12 E H=>?_)
 refine wp_skip (hK11 _ _ (sq fun K13 hK13=>wp_block (rr E fun a E=>(pl0 (plc E (.r 0 3 .nil) (fun a E=>pld ?_))))))
 refine qX ?_
 refine hK13 _ _ (pl0 (plc E (.r 0 2 .nil) (fun a E=>pld ?_)))
 exact qq ⟨k8,by omega,_,(IntKind.u64.wrap ((IntKind.u64.wrap (((BitVec.ofInt 64 x4 ^^^ BitVec.ofInt 64 (x4.fdiv 4294967296)).toNat:Int))) * 15485907386658061715)),(w64 (x5+1)),by omega,E,.of,S,H⟩
 refine wp_exit ?_
 refine hK2 _ _ (rr E fun a E=>(wp_ret ?_))
 obtain rfl:=si H
 exact rt1 E ⟨_,rfl,_,rfl,S⟩
def qG.j6:Nat→Int→Int→Bool→Option Int
 | 0,_,_,_=>none
 | k+1,x,y,y5=>if y5=true then (some 0) else (some (w64 ((IntKind.u64.wrap ((x.fdiv 4294967296) * (IntKind.u64.wrap y))).fdiv 4294967296)))
theorem qG.j6_s k x y y5:type_of% (qG.j6.eq_2 x y y5 k):=qG.j6.eq_2 x y y5 k
def qG.f(k:Nat)(x:Int)(y:Int):Option Int:=if y<1 then (qG.j6 k x y true) else (qG.j6 k x y (decide (y>2147483647)))
def qG.Post(W F:World)(r:Int)(v:Value)(w':World):Prop:=∃(F':World),v=iv r∧Sm W F w' F' []
theorem qG.calls(k:Nat)(x:Int)(y:Int)(r:Int)(W F:World)(hown:Sub F W)(H:qG.f k x y=some r):
    Cr 25 #[.int .u64 x,iv y] W (qG.Post W F r):=by
 have S:=sT hown
 unfold qG.f at H
 refine ent 18 rfl rfl rfl (fun a E=>?_)
 refine rr E fun a E=>(sq fun K2 hK2=>sq fun K3 hK3=>?_)
 have J9:∀ kq7,kq7≤k→∀(G:NV)(y5:Bool)(a:Act)(w':World),Env 18 G a→At G [(0,.int .u64 x),(1,iv y),(10,.bool y5)]→Sm W F w' F []→qG.j6 kq7 x y y5=some r→K3 a w':=by
  intro kq7 hkq G y5 a u10 E A S H
  obtain _ | k8:=kq7
  exact zz H
  rw [qG.j6_s]at H
  obtain ⟨J,E⟩:=E.at A
  refine hK3 _ _ (E.ib 10 H (fun c11 E H=>?_) fun c11 E H=>?_)
  refine rr E fun a E=>(wp_ret (qb ?_))
  obtain rfl:=si H
  exact rt1 E ⟨_,rfl,_,rfl,S⟩
  refine wp_skip (hK2 _ _ (rr E fun a E=>(wp_ret ?_)))
  obtain rfl:=si H
  exact rt1 E ⟨_,rfl,_,rfl,S⟩
 refine pl0 (plc E (.r 0 3 .nil) (fun a E=>E.fk 7 H (fun c4 E H=>?_) fun c4 E H=>?_))
 refine plc E (.r 3 3 .nil) (fun a E=>pld ?_)
 exact J9 _ (by omega) _ true _ _ E .of S H
 refine plc E (.r 3 3 .nil) (fun a E=>pld ?_)
 exact J9 _ (by omega) _ (decide (y>2147483647)) _ _ E .of S H
def qB.f(k:Nat):Option Bool:=(qF.f k 1).bind fun t4=>(if t4=4717996019076358352 then ((qG.f k 18446744073709551615 10).bind fun t8=>(some (t8 == 9))) else (some false))
def qB.Post(W F:World)(r:Bool)(v:Value)(w':World):Prop:=∃(F':World),v = .bool r∧Sm W F w' F' []
theorem qB.calls(k:Nat)(r:Bool)(W F:World)(hown:Sub F W)(H:qB.f k=some r):
    Cr 6 #[] W (qB.Post W F r):=by
 have S:=sT hown
 unfold qB.f at H
 refine ent 7 rfl rfl rfl (fun a E=>?_)
 refine rr E fun a E=>(sq fun K2 hK2=>pl0 ?_)
 obtain ⟨t4,h5,H⟩:=bd H
 refine plq E S en24 (qF.calls k 1 _ _ _ S.own.sub h5) fun u3 S a E=>plc E (.r 1 2 .nil) (fun a E=>E.fk 3 H (fun c6 E H=>?_) fun c6 E H=>?_)
 obtain ⟨t8,h9,H⟩:=bd H
 refine plq E S en25 (qG.calls k 18446744073709551615 10 _ _ _ S.own.sub h9) fun u7 S a E=>plc E (.r 4 3 .nil) (fun a E=>pld (hK2 _ _ (wp_ret ?_)))
 obtain rfl:=si H
 exact rt1 E ⟨_,rfl,_,rfl,S⟩
 refine plc E (.r 3 4 .nil) (fun a E=>pld (hK2 _ _ (wp_ret ?_)))
 obtain rfl:=si H
 exact rt1 E ⟨_,rfl,_,rfl,S⟩
mutual
def qA.l14:Nat→ByteArray→List Int→Int→Option (List Int)
 | 0,_,_,_=>none
 | k+1,x,l12,x13=>if x13<(x.size:Int) then (qA.l27 k x l12 x13 0 7) else (some l12)
def qA.l27:Nat→ByteArray→List Int→Int→Int→Int→Option (List Int)
 | 0,_,_,_,_,_=>none
 | k+1,x,l12,x13,x25,x26=>if x26≥0 then (if (w64 (x13+x26))<(x.size:Int) then (if 0≤(w64 (x13+x26))∧(w64 (x13+x26))<(x.size:Int) then (qA.l27 k x l12 x13 (IntKind.u64.wrap ((IntKind.u64.wrap (x25 * 256))+(IntKind.u64.wrap (byteAt x (w64 (x13+x26)))))) (w64 (x26 - 1))) else (none)) else (qA.l27 k x l12 x13 (IntKind.u64.wrap (x25 * 256)) (w64 (x26 - 1)))) else (if ((l12.length:Int)+((1:Nat):Int)) * 8≤140737488355328 then (qA.l14 k x (l12++[x25]) (w64 (x13+8))) else (none))
end
theorem qA.l14_s k x l12 x13:type_of% (qA.l14.eq_2 x l12 x13 k):=qA.l14.eq_2 x l12 x13 k
theorem qA.l27_s k x l12 x13 x25 x26:type_of% (qA.l27.eq_2 x l12 x13 x25 x26 k):=qA.l27.eq_2 x l12 x13 x25 x26 k
def qA.f(k:Nat)(x:ByteArray):Option (List Int):=qA.l14 k x [(IntKind.u64.wrap (x.size:Int))] 0
def qA.Post(W F:World)(r:List Int)(v:Value)(w':World):Prop:=∃(F':World)(RA0_0:OA)(rc0_0:Nat),v = .slice RA0_0 r.length rc0_0∧Sm W F w' F' [row (Kn.int .u64) 22 (.slice RA0_0 r.length rc0_0) r]
theorem qA.calls(k:Nat)(x:ByteArray)(r:List Int)(W F:World)(hown:Sub F W)(H:qA.f k x=some r):
    Cr 7 #[.string x] W (qA.Post W F r):=by
 have S:=sT hown
 unfold qA.f at H
 refine ent 42 rfl rfl rfl (fun a E=>?_)
 refine rr E fun a E=>(sq fun K2 hK2=>pl0 (plc E (.r 0 3 .nil) (fun a E=>ple E (.lit (d:=(Kn.int .u64)) (e:=22) S [(IntKind.u64.wrap (x.size:Int))] (.cons rfl .nil)) ?_)))
 rintro _ u3 a ⟨A4,c5,rfl,S,hg⟩ E
 refine plc E (.r 4 1 .nil) (fun a E=>pld (hK2 _ _ (sq fun K7 hK7=>rr E fun a E=>(wp_block ?_))))
 refine wp_loop_ghost (fun kq15 a w'=>∃(G:NV)(A10:OA)(c11:Nat)(l12:List Int)(x13:Int),kq15≤k∧Env 42 G a∧At G [(0,.string x),(3,.slice A10 l12.length c11),(4,iv x13)]∧Sm W F w' F [row (Kn.int .u64) 22 (.slice A10 l12.length c11) l12]∧qA.l14 kq15 x l12 x13=some r) k ⟨_,A4,c5,[(IntKind.u64.wrap (x.size:Int))],0,Nat.le_refl _,E,.of,S,H⟩ ?_
 rintro kq15 a u17 ⟨G,A10,c11,l12,x13,hkq,E,A,S,H⟩
 obtain _ | k16:=kq15
 exact zz H
 rw [qA.l14_s]at H
 obtain ⟨J,E⟩:=E.at A
 refine sq fun K18 hK18=>rr E fun a E=>(E.ik 14 H (fun c20 E H=>?_) fun c20 E H=>?_)
 refine wp_skip (hK18 _ _ (sq fun K21 hK21=>wp_block (rr E fun a E=>(sq fun K23 hK23=>rr E fun a E=>(wp_block ?_)))))
 refine wp_loop_ghost (fun kq28 a w'=>∃(G:NV)(x25:Int)(x26:Int),kq28≤k16∧Env 42 G a∧At G [(0,.string x),(3,.slice A10 l12.length c11),(4,iv x13),(5,.int .u64 x25),(6,iv x26)]∧Sm W F w' F [row (Kn.int .u64) 22 (.slice A10 l12.length c11) l12]∧qA.l27 kq28 x l12 x13 x25 x26=some r) k16 ⟨_,0,7,Nat.le_refl _,E,.of,S,H⟩ ?_
 rintro kq28 a u30 ⟨G,x25,x26,hkq,E,A,S,H⟩
 obtain _ | k29:=kq28
 exact zz H
 rw [qA.l27_s]at H
 obtain ⟨J,E⟩:=E.at A
 refine sq fun K31 hK31=>rr E fun a E=>(E.ik 18 H (fun c33 E H=>?_) fun c33 E H=>?_)
 refine wp_skip (hK31 _ _ (sq fun K34 hK34=>wp_block (rr E fun a E=>(rr E fun a E=>(E.ik 28 H (fun c37 E H=>?_) fun c37 E H=>?_)))))
 refine pl0 ?_
 obtain ⟨c38,H⟩:=gd H
 refine plc E (.r 0 5<|.y 5 (qAl c38)<|.r 6 3<|.nil) (fun a E=>pld ?_)
 refine qX ?_
 refine hK34 _ _ (pl0 (plc E (.r 0 3 .nil) (fun a E=>pld ?_)))
 exact qq ⟨k29,by omega,_,(IntKind.u64.wrap ((IntKind.u64.wrap (x25 * 256))+(IntKind.u64.wrap (byteAt x (w64 (x13+x26)))))),(w64 (x26 - 1)),by omega,E,.of,S,H⟩
 refine wp_skip ?_
 refine qX ?_
 refine hK34 _ _ (pl0 (plc E (.r 0 3 .nil) (fun a E=>pld ?_)))
 exact qq ⟨k29,by omega,_,(IntKind.u64.wrap (x25 * 256)),(w64 (x26 - 1)),by omega,E,.of,S,H⟩
 refine wp_exit ?_
 refine hK23 _ _ (pl0 (plc E (.r 0 2 .nil) (fun a E=>ple E (.lit (d:=(Kn.int .u64)) (e:=22) S [x25] (.cons rfl .nil)) ?_)))
 rintro _ u39 a ⟨A40,c41,rfl,S,hg⟩ E
 obtain ⟨c43,H⟩:=gd H
 replace S:=S.front 1 rfl
 refine ple E (.ap (d:=(Kn.int .u64)) 8 S (qAI (S.row_at (i:=1) rfl)) c43 c41) ?_
 rintro _ u46 a ⟨A44,c45,rfl,S,hz⟩ E
 refine plc E (.r 4 1 .nil) (fun a E=>pld ?_)
 refine qX ?_
 refine hK21 _ _ (pl0 (plc E (.r 0 3 .nil) (fun a E=>pld ?_)))
 replace S:=S.pm [0] 2
 exact qq ⟨k29,by omega,_,A44,c45,(l12++[x25]),(w64 (x13+8)),by omega,E,.of,S,H⟩
 refine wp_exit ?_
 refine hK7 _ _ (rr E fun a E=>(wp_ret ?_))
 obtain rfl:=si H
 exact rt1 E ⟨_,rfl,_,_,_,rfl,S⟩
def qE.l10:Nat→List Int→Int→Int→Option Int
 | 0,_,_,_=>none
 | k+1,y,x8,x9=>if x9<(y.length:Int) then (if 0≤x9∧x9<(y.length:Int) then ((qF.f k (IntKind.u64.wrap ((IntKind.u64.wrap (((BitVec.ofInt 64 x8 ^^^ BitVec.ofInt 64 (nth 0 y x9)).toNat:Int)))+11400714819323198485))).bind fun t25=>(qE.l10 k y t25 (w64 (x9+1)))) else (none)) else (some x8)
theorem qE.l10_s k y x8 x9:type_of% (qE.l10.eq_2 y x8 x9 k):=qE.l10.eq_2 y x8 x9 k
def qE.f(k:Nat)(x:Int)(y:List Int):Option Int:=(qF.f k x).bind fun t4=>(qE.l10 k y t4 0)
def qE.Post(W F:World)(r:Int)(v:Value)(w':World):Prop:=∃(F':World),v = .int .u64 r∧Sm W F w' F' []
theorem qE.calls(k:Nat)(x:Int)(y:List Int)(A1_0:OA)(c1_0:Nat)(r:Int)(W F:World)(hown:Sub F W)(g1_0:Rd (Kn.int .u64) F A1_0 c1_0 y)(H:qE.f k x y=some r):
    Cr 8 #[.int .u64 x,.slice A1_0 y.length c1_0] W (qE.Post W F r):=by
 have S:=sT hown
 unfold qE.f at H
 refine ent 23 rfl rfl rfl (fun a E=>?_)
 refine rr E fun a E=>(sq fun K2 hK2=>pl0 (plc E (.r 0 1 .nil) (fun a E=>?_)))
 obtain ⟨t4,h5,H⟩:=bd H
 refine plq E S en24 (qF.calls k x _ _ _ S.own.sub h5) fun u3 S a E=>plc E (.r 2 1 .nil) (fun a E=>pld (hK2 _ _ (sq fun K6 hK6=>rr E fun a E=>(wp_block ?_))))
 refine wp_loop_ghost (fun kq11 a w'=>∃(G:NV)(x8:Int)(x9:Int),kq11≤k∧Env 23 G a∧At G [(5,.int .u64 x8),(10,.slice A1_0 y.length c1_0),(11,iv (y.length:Int)),(12,iv x9)]∧Sm W F w' F []∧qE.l10 kq11 y x8 x9=some r) k ⟨_,t4,0,Nat.le_refl _,E,.of,S,H⟩ ?_
 rintro kq11 a u13 ⟨G,x8,x9,hkq,E,A,S,H⟩
 obtain _ | k12:=kq11
 exact zz H
 rw [qE.l10_s]at H
 obtain ⟨J,E⟩:=E.at A
 refine rr E fun a E=>(sq fun K15 hK15=>E.ik 13 H (fun c16 E H=>?_) fun c16 E H=>?_)
 refine wp_skip (hK15 _ _ (sq fun K17 hK17=>wp_block (sq fun K18 hK18=>pl0 ?_)))
 obtain ⟨c19,H⟩:=gd H
 have hE_:=E
 obtain ⟨ad20,rfl⟩:=g1_0.addr c19.1 c19.2
 replace E:=hE_
 obtain ⟨cs22,rfl,hc23⟩:=g1_0.el 0 x9 c19.1 c19.2
 refine plc E (.x 0 c19<|.c 1 (S.fc hc23 0)<|.r 2 1<|.nil) (fun a E=>pld (hK18 _ _ (pl0 (plc E (.r 0 4 .nil) (fun a E=>?_)))))
 obtain ⟨t25,h26,H⟩:=bd H
 refine plq E S en24 (qF.calls k12 (IntKind.u64.wrap ((IntKind.u64.wrap (((BitVec.ofInt 64 x8 ^^^ BitVec.ofInt 64 (nth 0 y x9)).toNat:Int)))+11400714819323198485)) _ _ _ S.own.sub h26) fun u24 S a E=>plc E (.r 5 1 .nil) (fun a E=>pld ?_)
 refine qX ?_
 refine hK17 _ _ (pl0 (plc E (.r 0 2 .nil) (fun a E=>pld ?_)))
 exact qq ⟨k12,by omega,_,t25,(w64 (x9+1)),by omega,E,.of,S,H⟩
 refine wp_exit ?_
 refine hK6 _ _ (rr E fun a E=>(wp_ret ?_))
 obtain rfl:=si H
 exact rt1 E ⟨_,rfl,_,rfl,S⟩
mutual
def qD.l14:Nat→Int→ByteArray→List Int→Int→Option Int
 | 0,_,_,_,_=>none
 | k+1,x,y,l12,x13=>if x13<(y.size:Int) then (if (x13.tmod 8)=0 then (if ((l12.length:Int)+((1:Nat):Int)) * 8≤140737488355328 then (qD.j38 k x y x13 (l12++[0])) else (none)) else (qD.j38 k x y x13 l12)) else ((qE.f k x l12).bind fun t61=>(some t61))
def qD.j38:Nat→Int→ByteArray→Int→List Int→Option Int
 | 0,_,_,_,_=>none
 | k+1,x,y,x13,l37=>if 0≤(w64 ((l37.length:Int) - 1))∧(w64 ((l37.length:Int) - 1))<(l37.length:Int) then (if 0≤x13∧x13<(y.size:Int) then (if 0≤(w64 (8 * (x13.tmod 8))) then (qD.l14 k x y (l37.set ((w64 ((l37.length:Int) - 1))).toNat (IntKind.u64.wrap (((BitVec.ofInt 64 (nth 0 l37 (w64 ((l37.length:Int) - 1))) ||| BitVec.ofInt 64 (IntKind.u64.wrap ((IntKind.u64.wrap (byteAt y x13)) * 2 ^ (min (w64 (8 * (x13.tmod 8))).toNat 64)))).toNat:Int)))) (w64 (x13+1))) else (none)) else (none)) else (none)
end
theorem qD.l14_s k x y l12 x13:type_of% (qD.l14.eq_2 x y l12 x13 k):=qD.l14.eq_2 x y l12 x13 k
theorem qD.j38_s k x y x13 l37:type_of% (qD.j38.eq_2 x y x13 l37 k):=qD.j38.eq_2 x y x13 l37 k
def qD.f(k:Nat)(x:Int)(y:ByteArray):Option Int:=qD.l14 k x y [(IntKind.u64.wrap (y.size:Int))] 0
def qD.Post(W F:World)(r:Int)(v:Value)(w':World):Prop:=∃(F':World),v = .int .u64 r∧Sm W F w' F' []
theorem qD.calls(k:Nat)(x:Int)(y:ByteArray)(r:Int)(W F:World)(hown:Sub F W)(H:qD.f k x y=some r):
    Cr 9 #[.int .u64 x,.string y] W (qD.Post W F r):=by
 have S:=sT hown
 unfold qD.f at H
 refine ent 42 rfl rfl rfl (fun a E=>?_)
 refine rr E fun a E=>(sq fun K2 hK2=>pl0 (plc E (.r 0 3 .nil) (fun a E=>ple E (.lit (d:=(Kn.int .u64)) (e:=22) S [(IntKind.u64.wrap (y.size:Int))] (.cons rfl .nil)) ?_)))
 rintro _ u3 a ⟨A4,c5,rfl,S,hg⟩ E
 refine plc E (.r 4 1 .nil) (fun a E=>pld (hK2 _ _ (sq fun K7 hK7=>rr E fun a E=>(wp_block ?_))))
 refine wp_loop_ghost (fun kq15 a w'=>∃(G:NV)(A10:OA)(c11:Nat)(l12:List Int)(x13:Int),kq15≤k∧Env 42 G a∧At G [(0,.int .u64 x),(1,.string y),(5,.slice A10 l12.length c11),(12,iv (y.size:Int)),(13,iv x13)]∧Sm W F w' F [row (Kn.int .u64) 22 (.slice A10 l12.length c11) l12]∧qD.l14 kq15 x y l12 x13=some r) k ⟨_,A4,c5,[(IntKind.u64.wrap (y.size:Int))],0,Nat.le_refl _,E,.of,S,H⟩ ?_
 rintro kq15 a u17 ⟨G,A10,c11,l12,x13,hkq,E,A,S,H⟩
 obtain _ | k16:=kq15
 exact zz H
 rw [qD.l14_s]at H
 obtain ⟨J,E⟩:=E.at A
 refine rr E fun a E=>(sq fun K19 hK19=>E.ik 14 H (fun c20 E H=>?_) fun c20 E H=>?_)
 refine wp_skip (hK19 _ _ (sq fun K21 hK21=>wp_block (rr E fun a E=>(sq fun K23 hK23=>?_))))
 have J41:∀ kq39,kq39≤k16→∀(G:NV)(A35:OA)(c36:Nat)(l37:List Int)(a:Act)(w':World),Env 42 G a→At G [(0,.int .u64 x),(1,.string y),(5,.slice A35 l37.length c36),(6,iv x13),(12,iv (y.size:Int)),(13,iv x13)]→Sm W F w' F [row (Kn.int .u64) 22 (.slice A35 l37.length c36) l37]→qD.j38 kq39 x y x13 l37=some r→K23 a w':=by
  intro kq39 hkq G A35 c36 l37 a u42 E A S H
  obtain _ | k40:=kq39
  exact zz H
  rw [qD.j38_s]at H
  obtain ⟨J,E⟩:=E.at A
  refine hK23 _ _ ?_
  refine drawn 17 ⟨[16],[],fun q=>False⟩ mixed rfl (by kernel_rfl) (fun hst=>?_)
  replace S:=S.drew
  obtain ⟨c43,H⟩:=gd H
  have hr44:=S.ra 0
  have hE_:=E
  obtain ⟨b45,rfl⟩:=qv hr44 c43.1 c43.2
  replace E:=hE_
  have hr_:=S.ra 0
  obtain ⟨cs47,rfl,hc48⟩:=qs hr_ 0 (w64 ((l37.length:Int) - 1)) c43.1 c43.2
  obtain ⟨c49,H⟩:=gd H
  obtain ⟨c50,H⟩:=gd H
  have hr51:=S.ra 0
  refine mny 1 hst E (.r 0 4<|.x 4 c43<|.c 5 (hc48 0 _ rfl)<|.r 6 2<|.y 8 (qAl c49)<|.r 9 4<|.y 13 (y_shl 22 .u64 .i64 64 (IntKind.u64.wrap (byteAt y x13)) c50)<|.r 14 1<|.x 15 c43<|.nil) (fun a E=>?_)
  obtain ⟨cs56,rfl,hc57⟩:=qs (S.row_at (i:=0) rfl) 0 (w64 ((l37.length:Int) - 1)) c43.1 c43.2
  refine on1 16 E (.set (d:=(Kn.int .u64)) (n:=l37.length) (i:=(w64 ((l37.length:Int) - 1))) (IntKind.u64.wrap (((BitVec.ofInt 64 (nth 0 l37 (w64 ((l37.length:Int) - 1))) ||| BitVec.ofInt 64 (IntKind.u64.wrap ((IntKind.u64.wrap (byteAt y x13)) * 2 ^ (min (w64 (8 * (x13.tmod 8))).toNat 64)))).toNat:Int))) (0) (ea0 _ _) S c43 [.int .u64 (nth 0 l37 (w64 ((l37.length:Int) - 1)))] hc57 [.int .u64 (IntKind.u64.wrap (((BitVec.ofInt 64 (nth 0 l37 (w64 ((l37.length:Int) - 1))) ||| BitVec.ofInt 64 (IntKind.u64.wrap ((IntKind.u64.wrap (byteAt y x13)) * 2 ^ (min (w64 (8 * (x13.tmod 8))).toNat 64)))).toNat:Int)))] rfl) ?_
  rintro _ u55 a ⟨rfl,S,hz⟩ E
  refine ⟨.d,?_⟩
  refine dn ?_
  refine qX ?_
  refine hK21 _ _ (pl0 (plc E (.r 0 2 .nil) (fun a E=>pld ?_)))
  have hn58:=(qL (S.row_at (i:=0) rfl)).1
  replace E:=E.set (d:=5) (v:=.slice (pb b45) ((l37.set ((w64 ((l37.length:Int) - 1))).toNat (IntKind.u64.wrap (((BitVec.ofInt 64 (nth 0 l37 (w64 ((l37.length:Int) - 1))) ||| BitVec.ofInt 64 (IntKind.u64.wrap ((IntKind.u64.wrap (byteAt y x13)) * 2 ^ (min (w64 (8 * (x13.tmod 8))).toNat 64)))).toNat:Int)))).length) c36) (Eq.trans (b:=.slice (pb b45) l37.length c36) (by kernel_rfl) (by rw [← hn58]))
  replace S:Sm W F u55 F [row (Kn.int .u64) 22 (.slice (pb b45) ((l37.set ((w64 ((l37.length:Int) - 1))).toNat (IntKind.u64.wrap (((BitVec.ofInt 64 (nth 0 l37 (w64 ((l37.length:Int) - 1))) ||| BitVec.ofInt 64 (IntKind.u64.wrap ((IntKind.u64.wrap (byteAt y x13)) * 2 ^ (min (w64 (8 * (x13.tmod 8))).toNat 64)))).toNat:Int)))).length) c36) (l37.set ((w64 ((l37.length:Int) - 1))).toNat (IntKind.u64.wrap (((BitVec.ofInt 64 (nth 0 l37 (w64 ((l37.length:Int) - 1))) ||| BitVec.ofInt 64 (IntKind.u64.wrap ((IntKind.u64.wrap (byteAt y x13)) * 2 ^ (min (w64 (8 * (x13.tmod 8))).toNat 64)))).toNat:Int))))]:=by rw [← hn58]; exact S
  exact qq ⟨k40,by omega,_,(pb b45),c36,(l37.set ((w64 ((l37.length:Int) - 1))).toNat (IntKind.u64.wrap (((BitVec.ofInt 64 (nth 0 l37 (w64 ((l37.length:Int) - 1))) ||| BitVec.ofInt 64 (IntKind.u64.wrap ((IntKind.u64.wrap (byteAt y x13)) * 2 ^ (min (w64 (8 * (x13.tmod 8))).toNat 64)))).toNat:Int)))),(w64 (x13+1)),by omega,E,.of,S,H⟩
 refine rr E fun a E=>(E.ik 18 H (fun c25 E H=>?_) fun c25 E H=>?_)
 refine pl0 (plc E (.r 0 1 .nil) (fun a E=>ple E (.lit (d:=(Kn.int .u64)) (e:=22) S [0] (.cons rfl .nil)) ?_))
 rintro _ u26 a ⟨A27,c28,rfl,S,hg⟩ E
 obtain ⟨c30,H⟩:=gd H
 replace S:=S.front 1 rfl
 refine ple E (.ap (d:=(Kn.int .u64)) 8 S (qAI (S.row_at (i:=1) rfl)) c30 c28) ?_
 rintro _ u33 a ⟨A31,c32,rfl,S,hz⟩ E
 refine plc E (.r 3 1 .nil) (fun a E=>pld ?_)
 replace S:=S.pm [0] 2
 exact J41 _ (by omega) _ A31 c32 (l12++[0]) _ _ E .of S H
 refine wp_skip ?_
 exact J41 _ (by omega) _ A10 c11 l12 _ _ E .of S H
 refine wp_exit ?_
 refine hK7 _ _ (sq fun K59 hK59=>pl0 (plc E (.r 0 2 .nil) (fun a E=>?_)))
 obtain ⟨t61,h62,H⟩:=bd H
 refine plq E S en8 (qE.calls k16 x l12 _ _ _ _ _ (Sub.refl _) (S.rd_at (i:=0) rfl) h62) fun u60 S a E=>plc E (.r 3 1 .nil) (fun a E=>pld (hK59 _ _ (wp_ret ?_)))
 replace S:=S.tail
 obtain rfl:=si H
 exact rt1 E ⟨_,rfl,_,rfl,S⟩
def qC.f(k:Nat)(x:Int)(y:ByteArray)(z:Ar2_u64):Option Bool:=if (y.size:Int)>3000 then ((qB.f k).bind fun t9=>(some t9)) else ((qA.f k y).bind fun t13=>(if ((([]:List Int).length:Int)+(t13.length:Int)) * 8≤140737488355328 then (if (IntKind.u64.wrap (t13.length:Int))≠0 then (if 0≤(w64 (z.f0.tmod (IntKind.u64.wrap (t13.length:Int))))∧(w64 (z.f0.tmod (IntKind.u64.wrap (t13.length:Int))))<((([]:List Int)++t13).length:Int) then (if 0≤(w64 (z.f0.tmod (IntKind.u64.wrap (t13.length:Int))))∧(w64 (z.f0.tmod (IntKind.u64.wrap (t13.length:Int))))<(t13.length:Int) then ((qE.f k x t13).bind fun t55=>((qE.f k x ((([]:List Int)++t13).set ((w64 (z.f0.tmod (IntKind.u64.wrap (t13.length:Int))))).toNat z.f1)).bind fun t59=>(if (t55 == t59)=((nth 0 ((([]:List Int)++t13).set ((w64 (z.f0.tmod (IntKind.u64.wrap (t13.length:Int))))).toNat z.f1) (w64 (z.f0.tmod (IntKind.u64.wrap (t13.length:Int))))) == (nth 0 t13 (w64 (z.f0.tmod (IntKind.u64.wrap (t13.length:Int)))))) then (if (y.size:Int)=0 then ((qB.f k).bind fun t68=>(some t68)) else (if (IntKind.u64.wrap (y.size:Int))≠0 then (if 0≤(w64 (z.f0.tmod (IntKind.u64.wrap (y.size:Int))))∧(w64 (z.f0.tmod (IntKind.u64.wrap (y.size:Int))))<((sbytes y).length:Int) then (if 0≤(w64 (z.f0.tmod (IntKind.u64.wrap (y.size:Int))))∧(w64 (z.f0.tmod (IntKind.u64.wrap (y.size:Int))))<(y.size:Int) then ((qD.f k x (strOfNums ((sbytes y).set ((w64 (z.f0.tmod (IntKind.u64.wrap (y.size:Int))))).toNat (IntKind.u8.wrap z.f1)))).bind fun t83=>((qD.f k x y).bind fun t86=>(if (t83 == t86)=((nth 0 ((sbytes y).set ((w64 (z.f0.tmod (IntKind.u64.wrap (y.size:Int))))).toNat (IntKind.u8.wrap z.f1)) (w64 (z.f0.tmod (IntKind.u64.wrap (y.size:Int))))) == (byteAt y (w64 (z.f0.tmod (IntKind.u64.wrap (y.size:Int)))))) then ((qB.f k).bind fun t90=>(some t90)) else (some false)))) else (none)) else (none)) else (none))) else (some false)))) else (none)) else (none)) else (none)) else (none)))
def qC.Post(W F:World)(r:Bool)(v:Value)(w':World):Prop:=∃(F':World),v = .bool r∧Sm W F w' F' []
theorem qC.calls(k:Nat)(x:Int)(y:ByteArray)(z:Ar2_u64)(r:Bool)(W F:World)(hown:Sub F W)(H:qC.f k x y z=some r):
    Cr 3 #[.int .u64 x,.string y,.agg #[.int .u64 z.f0,.int .u64 z.f1]] W (qC.Post W F r):=by
 have S:=sT hown
 unfold qC.f at H
 refine ent 89 rfl rfl rfl (fun a E=>?_)
 refine sq fun K1 hK1=>pl0 (plx (t:=23) E S [.int .u64 z.f0,.int .u64 z.f1] fun b2 u3 hb2 S a E=>plc E (.r 1 1 .nil) (fun a E=>pld (hK1 _ _ (sq fun K4 hK4=>rr E fun a E=>(E.ik 14 H (fun c6 E H=>?_) fun c6 E H=>?_)))))
 refine sq fun K7 hK7=>pl0 ?_
 obtain ⟨t9,h10,H⟩:=bd H
 refine plq E S en6 (qB.calls k _ _ _ S.own.sub h10) fun u8 S a E=>plc E (.r 1 1 .nil) (fun a E=>pld (hK7 _ _ (wp_ret (qb ?_))))
 replace S:=S.tail
 obtain rfl:=si H
 exact rt1 E ⟨_,rfl,_,rfl,S⟩
 refine wp_skip (hK4 _ _ (sq fun K11 hK11=>pl0 (plc E (.r 0 1 .nil) (fun a E=>?_))))
 obtain ⟨t13,h14,H⟩:=bd H
 refine ple E (.cl en7 (qA.calls k y _ _ _ S.own.sub h14)) ?_
 rintro _ u12 a ⟨F15,A16,c17,rfl,hC⟩ E
 have hs:=hC.sub
 replace S:=S.called (X:=[]) hC
 refine plc E (.r 2 1 .nil) (fun a E=>pld (hK11 _ _ (sq fun K20 hK20=>pl0 (ple E (.lit (d:=(Kn.int .u64)) (e:=22) S ([]:List Int) (.nil)) ?_))))
 rintro _ u21 a ⟨A22,c23,rfl,S,hg⟩ E
 refine plc E (.r 1 1 .nil) (fun a E=>?_)
 obtain ⟨c25,H⟩:=gd H
 refine ple E (.ap (d:=(Kn.int .u64)) 8 S (qAI (S.row_at (i:=1) rfl)) c25 c17) ?_
 rintro _ u28 a ⟨A26,c27,rfl,S,hz⟩ E
 refine plc E (.r 3 1 .nil) (fun a E=>pld (hK20 _ _ (sq fun K29 hK29=>pl0 ?_)))
 have hb2:=S.ba 2
 obtain ⟨c30,H⟩:=gd H
 refine plc E (.r 0 1<|.b 1 0 hb2<|.r 2 3<|.y 5 (y_rem 22 .u64 z.f0 c30)<|.r 6 2<|.nil) (fun a E=>pld (hK29 _ _ (sq fun K31 hK31=>pl0 ?_)))
 obtain ⟨c32,H⟩:=gd H
 have hr33:=S.ra 0
 have hE_:=E
 obtain ⟨b34,rfl⟩:=qv hr33 c32.1 c32.2
 replace E:=hE_
 have hr_:=S.ra 0
 obtain ⟨cs36,rfl,hc37⟩:=qs hr_ 0 (w64 (z.f0.tmod (IntKind.u64.wrap (t13.length:Int)))) c32.1 c32.2
 refine plc E (.r 0 3<|.b 3 1 hb2<|.x 4 c32<|.nil) (fun a E=>?_)
 obtain ⟨cs39,rfl,hc40⟩:=qs (S.row_at (i:=0) rfl) 0 (w64 (z.f0.tmod (IntKind.u64.wrap (t13.length:Int)))) c32.1 c32.2
 refine ple E (.set (d:=(Kn.int .u64)) (n:=(([]:List Int)++t13).length) (i:=(w64 (z.f0.tmod (IntKind.u64.wrap (t13.length:Int))))) z.f1 (0) (ea0 _ _) S c32 [.int .u64 (nth 0 (([]:List Int)++t13) (w64 (z.f0.tmod (IntKind.u64.wrap (t13.length:Int)))))] hc40 [.int .u64 z.f1] rfl) ?_
 rintro _ u38 a ⟨rfl,S,hz⟩ E
 refine pld (hK31 _ _ (sq fun K41 hK41=>sq fun K42 hK42=>?_))
 refine drawn 17 ⟨[],[],fun q=>False⟩ mixed rfl (by kernel_rfl) (fun hst=>?_)
 replace S:=S.drew
 have hr43:=S.ra 0
 have c44:0≤(w64 (z.f0.tmod (IntKind.u64.wrap (t13.length:Int))))∧(w64 (z.f0.tmod (IntKind.u64.wrap (t13.length:Int))))<(((([]:List Int)++t13).set ((w64 (z.f0.tmod (IntKind.u64.wrap (t13.length:Int))))).toNat z.f1).length:Int):=by rw [← (qL hr43).1]; exact c32
 have hr_:=S.ra 0
 obtain ⟨cs46,rfl,hc47⟩:=qs hr_ 0 (w64 (z.f0.tmod (IntKind.u64.wrap (t13.length:Int)))) c44.1 c44.2
 obtain ⟨c48,H⟩:=gd H
 have hr49:=S.ra 1
 have hE_:=E
 obtain ⟨b50,rfl⟩:=qv hr49 c48.1 c48.2
 replace E:=hE_
 have hr_:=S.ra 1
 obtain ⟨cs52,rfl,hc53⟩:=qs hr_ 0 (w64 (z.f0.tmod (IntKind.u64.wrap (t13.length:Int)))) c48.1 c48.2
 refine mny 4 hst E (.r 0 2<|.r 3 2<|.r 7 2<|.x 9 c32<|.c 10 (hc47 0 _ rfl)<|.r 11 2<|.x 13 c48<|.c 14 (hc53 0 _ rfl)<|.r 15 1<|.nil) (fun a E=>?_)
 obtain ⟨t55,h56,H⟩:=bd H
 refine on1 2 E (.cl en8 (qE.calls k x t13 _ _ _ _ _ (Sub.refl _) (S.rd_at (i:=1) rfl) h56)) ?_
 rintro _ u54 a ⟨_,rfl,hC⟩ E
 refine ⟨.of hC.agr,?_⟩
 replace S:=S.lent hC
 have hn57:=(qL (S.row_at (i:=0) rfl)).1
 replace E:=E.set (d:=8) (v:=.slice (pb b34) (((([]:List Int)++t13).set ((w64 (z.f0.tmod (IntKind.u64.wrap (t13.length:Int))))).toNat z.f1).length) c27) (Eq.trans (b:=.slice (pb b34) ((([]:List Int)++t13).length) c27) (by kernel_rfl) (by rw [← hn57]))
 replace E:=E.set (d:=20) (v:=.slice (pb b34) (((([]:List Int)++t13).set ((w64 (z.f0.tmod (IntKind.u64.wrap (t13.length:Int))))).toNat z.f1).length) c27) (Eq.trans (b:=.slice (pb b34) ((([]:List Int)++t13).length) c27) (by kernel_rfl) (by rw [← hn57]))
 replace E:=E.set (d:=28) (v:=.slice (pb b34) (((([]:List Int)++t13).set ((w64 (z.f0.tmod (IntKind.u64.wrap (t13.length:Int))))).toNat z.f1).length) c27) (Eq.trans (b:=.slice (pb b34) ((([]:List Int)++t13).length) c27) (by kernel_rfl) (by rw [← hn57]))
 replace E:=E.set (d:=37) (v:=.slice (pb b34) (((([]:List Int)++t13).set ((w64 (z.f0.tmod (IntKind.u64.wrap (t13.length:Int))))).toNat z.f1).length) c27) (Eq.trans (b:=.slice (pb b34) ((([]:List Int)++t13).length) c27) (by kernel_rfl) (by rw [← hn57]))
 replace E:=E.set (d:=40) (v:=.slice (pb b34) (((([]:List Int)++t13).set ((w64 (z.f0.tmod (IntKind.u64.wrap (t13.length:Int))))).toNat z.f1).length) c27) (Eq.trans (b:=.slice (pb b34) ((([]:List Int)++t13).length) c27) (by kernel_rfl) (by rw [← hn57]))
 replace S:Sm W F u54 F15 [row (Kn.int .u64) 22 (.slice (pb b34) (((([]:List Int)++t13).set ((w64 (z.f0.tmod (IntKind.u64.wrap (t13.length:Int))))).toNat z.f1).length) c27) ((([]:List Int)++t13).set ((w64 (z.f0.tmod (IntKind.u64.wrap (t13.length:Int))))).toNat z.f1),row (Kn.int .u64) 22 (.slice (pb b50) t13.length c17) t13,box b2 #[.int .u64 z.f0,.int .u64 z.f1] 23]:=by rw [← hn57]; exact S
 obtain ⟨t59,h60,H⟩:=bd H
 refine on1 5 E (.cl en8 (qE.calls k x ((([]:List Int)++t13).set ((w64 (z.f0.tmod (IntKind.u64.wrap (t13.length:Int))))).toNat z.f1) _ _ _ _ _ (Sub.refl _) (S.rd_at (i:=0) rfl) h60)) ?_
 rintro _ u58 a ⟨_,rfl,hC⟩ E
 refine ⟨.of hC.agr,?_⟩
 replace S:=S.lent hC
 refine mny 0 hst E (.r 6 1<|.r 16 1<|.nil) (fun a E=>?_)
 refine dn ?_
 refine hK42 _ _ (E.ikn 49 H (fun c61 E H=>?_) fun c61 E H=>?_)
 refine wp_skip (hK41 _ _ (sq fun K63 hK63=>rr E fun a E=>(E.ik 52 H (fun c65 E H=>?_) fun c65 E H=>?_)))
 refine sq fun K66 hK66=>pl0 ?_
 obtain ⟨t68,h69,H⟩:=bd H
 refine plq E S en6 (qB.calls k _ _ _ S.own.sub h69) fun u67 S a E=>plc E (.r 1 1 .nil) (fun a E=>pld (hK66 _ _ (wp_ret (qb ?_))))
 replace S:=S.pm [] 3
 obtain rfl:=si H
 exact rt1 E ⟨_,rfl,_,rfl,S⟩
 refine wp_skip (hK63 _ _ (sq fun K70 hK70=>pl0 ?_))
 have hb2:=S.ba 2
 obtain ⟨c71,H⟩:=gd H
 refine plc E (.r 0 1<|.b 1 0 hb2<|.r 2 3<|.y 5 (y_rem 22 .u64 z.f0 c71)<|.r 6 2<|.nil) (fun a E=>pld (hK70 _ _ (sq fun K72 hK72=>pl0 (plc E (.r 0 1 .nil) (fun a E=>ple E (.sb (e:=5) S y) ?_)))))
 rintro _ u75 a ⟨b73,c74,rfl,S,hg⟩ E
 refine plc E (.r 2 1 .nil) (fun a E=>pld (hK72 _ _ (sq fun K76 hK76=>pl0 ?_)))
 have hb2:=S.ba 3
 obtain ⟨c77,H⟩:=gd H
 refine plc E (.r 0 3<|.b 3 1 hb2<|.r 4 1<|.x 5 c77<|.nil) (fun a E=>ple E (.sbs S (i:=(w64 (z.f0.tmod (IntKind.u64.wrap (y.size:Int))))) (IntKind.u8.wrap z.f1) c77) ?_)
 rintro _ u78 a ⟨rfl,S,hz⟩ E
 refine pld (hK76 _ _ (sq fun K79 hK79=>?_))
 refine drawn 21 ⟨[],[],fun q=>False⟩ mixed rfl (by kernel_rfl) (fun hst=>?_)
 replace S:=S.drew
 have hv80:=qBP (S.own.ok _ (List.mem_of_getElem? (i:=0) rfl)) c77
 obtain ⟨c81,H⟩:=gd H
 refine mny 8 hst E (.r 0 2<|.ys 2 (qBZ (S.own.ok _ (List.mem_of_getElem? (i:=0) rfl)))<|.r 4 2<|.r 8 2<|.x 10 c77<|.c 11 hv80<|.r 12 2<|.y 14 (qAl c81)<|.r 15 1<|.nil) (fun a E=>?_)
 obtain ⟨t83,h84,H⟩:=bd H
 refine on1 3 E (.cl en9 (qD.calls k x (strOfNums ((sbytes y).set ((w64 (z.f0.tmod (IntKind.u64.wrap (y.size:Int))))).toNat (IntKind.u8.wrap z.f1))) _ _ _ S.own.sub h84)) ?_
 rintro _ u82 a ⟨_,rfl,hC⟩ E
 refine ⟨.of hC.agr,?_⟩
 replace S:=S.lent hC
 obtain ⟨t86,h87,H⟩:=bd H
 refine on1 6 E (.cl en9 (qD.calls k x y _ _ _ S.own.sub h87)) ?_
 rintro _ u85 a ⟨_,rfl,hC⟩ E
 refine ⟨.of hC.agr,?_⟩
 replace S:=S.lent hC
 refine mny 3 hst E (.r 7 1<|.r 16 2<|.nil) (fun a E=>?_)
 refine E.fk 86 H (fun c88 E H=>?_) fun c88 E H=>?_
 obtain ⟨t90,h91,H⟩:=bd H
 refine on1 18 E (.cl en6 (qB.calls k _ _ _ S.own.sub h91)) ?_
 rintro _ u89 a ⟨_,rfl,hC⟩ E
 refine ⟨.of hC.agr,?_⟩
 replace S:=S.lent hC
 refine mny 0 hst E (.r 19 2 .nil) (fun a E=>?_)
 refine dn ?_
 refine hK79 _ _ (wp_ret ?_)
 replace S:=S.pm [] 4
 obtain rfl:=si H
 exact rt1 E ⟨_,rfl,_,rfl,S⟩
 refine mny 0 hst E (.r 18 3 .nil) (fun a E=>?_)
 refine dn ?_
 refine hK79 _ _ (wp_ret ?_)
 replace S:=S.pm [] 4
 obtain rfl:=si H
 exact rt1 E ⟨_,rfl,_,rfl,S⟩
 refine rr E fun a E=>(wp_ret (qb ?_))
 replace S:=S.pm [] 3
 obtain rfl:=si H
 exact rt1 E ⟨_,rfl,_,rfl,S⟩
end Go.Proofs.Ytpabbpebefdafaa.MI
