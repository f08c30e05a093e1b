import Derived.Test.YtpabbpebefdafaaGreatCN4
namespace Go.Proofs.YtpabbpebefdafaaGreat.CN
open Go Go.RowKit Go.Proofs.YtpabbpebefdafaaGreat.Sl
set_option linter.unusedVariables false
set_option linter.unusedSimpArgs false
set_option maxHeartbeats 4000000
set_option maxRecDepth 100000
def label_Parse_1.f(x:qx)(y:qx):Option Int:=(strings_Compare.f x.f0 y.f0).bind fun t8=>(some t8)
def label_Parse_1.Post(W F:World)(r:Int)(v:Value)(w':World):Prop:=∃(F':World),v=iv r∧Sm W F w' F' []
theorem label_Parse_1.calls(x:qx)(y:qx)(r:Int)(W F:World)(hown:Sub F W)(H:label_Parse_1.f x y=some r):
    Cr 206 #[.agg #[.string x.f0,.string x.f1],.agg #[.string y.f0,.string y.f1]] W (label_Parse_1.Post W F r):=by
 have S:=sT hown
 unfold label_Parse_1.f at H
 refine ent 10 rfl rfl rfl (fun a E=>?_)
 refine sq fun K1 hK1=>pl0 (plx (t:=232) E S [.string x.f0,.string x.f1] fun b2 u3 hb2 S a E=>plx (t:=232) E S [.string y.f0,.string y.f1] fun b4 u5 hb4 S a E=>plc E (.r 2 1 .nil) (fun a E=>pld (hK1 _ _ (sq fun K6 hK6=>pl0 (plc E (.r 0 1<|.b 1 0 (S.ba 1)<|.r 2 1<|.b 3 0 hb4<|.nil) (fun a E=>?_))))))
 obtain ⟨t8,h9,H⟩:=bd H
 refine plq E S en207 (strings_Compare.calls x.f0 y.f0 _ _ _ S.own.sub h9) fun u7 S a E=>plc E (.r 5 1 .nil) (fun a E=>pld (hK6 _ _ (wp_ret ?_)))
 replace S:=S.pm [] 2
 obtain rfl:=si H
 exact rt1 E ⟨_,rfl,_,rfl,S⟩
def qx.enc(x:qx):List Value:=[.string x.f0,.string x.f1]
instance:Inhabited qx:=⟨qx.z⟩
def qn.cmp(a b:qx):Option Int:=label_Parse_1.f a b
def qn.f(x0_:List qx):Option (List qx):=sortO (qn.cmp ) x0_
def qn.Post(x0_:List qx)(A0_0:Option Addr)(c0_0:Nat)(W F:World)(r:List qx)(v:Value)(w':World):Prop:=∃(F':World),v = .tuple #[]∧St W (mine W [row qx.k 232 (.slice A0_0 x0_.length c0_0) x0_]) F w' F' [row qx.k 232 (.slice A0_0 x0_.length c0_0) r]
set_option maxRecDepth 100000 in
theorem qn.calls(x0_:List qx)(A0_0:Option Addr)(c0_0:Nat)(r:List qx)(W F:World)(hown:Own W F [row qx.k 232 (.slice A0_0 x0_.length c0_0) x0_])(H:qn.f x0_=some r):
  Calls Tryz.prog 205 #[.slice A0_0 x0_.length c0_0,.func (.func 206) #[] #[]] W fun e w'=>∃ v,e = .returned v∧qn.Post x0_ A0_0 c0_0 W F r v w' :=
 qDl Tryz.sort205 2 rfl (fun w=>qCy ag232 w) (fun w=>qCb sz232 w) qx.enc (fun x=>rfl) (fun x v hv=>by simp only [qx.enc,List.mem_cons,List.not_mem_nil,or_false]at hv; rcases hv with rfl | rfl <;> rfl) (fun F x cs=>Iff.rfl) (qn.cmp ) 206 #[] en206 hown (fun x y v W' hs hc=>(label_Parse_1.calls x y v W' F hs hc).mono fun en w' ⟨u,h1,F',h2,h3⟩=>⟨u,h1,F',h2,h3⟩) H
mutual
def label_name.j6:Nat→ByteArray→Bool→Option Bool
 | 0,_,_=>none
 | k+1,x,y5=>if y5=true then (some false) else (label_name.l18 k x 0)
def label_name.l18:Nat→ByteArray→Nat→Option Bool
 | 0,_,_=>none
 | k+1,x,p17=>if p17<x.size then (if ((Utf8.decode x p17).1:Int)<97 then (label_name.j30 k x p17 true) else (label_name.j30 k x p17 (decide (((Utf8.decode x p17).1:Int)>122)))) else (some true)
def label_name.j30:Nat→ByteArray→Nat→Bool→Option Bool
 | 0,_,_,_=>none
 | k+1,x,p17,y29=>if y29=true then (some false) else (label_name.l18 k x (p17+(Utf8.decode x p17).2))
end
theorem label_name.j6_s k x y5:type_of% (label_name.j6.eq_2 x y5 k):=label_name.j6.eq_2 x y5 k
theorem label_name.l18_s k x p17:type_of% (label_name.l18.eq_2 x p17 k):=label_name.l18.eq_2 x p17 k
theorem label_name.j30_s k x p17 y29:type_of% (label_name.j30.eq_2 x p17 y29 k):=label_name.j30.eq_2 x p17 y29 k
def label_name.f(k:Nat)(x:ByteArray):Option Bool:=if x.toList=(⟨#[]⟩:ByteArray).toList then (label_name.j6 k x true) else (label_name.j6 k x (decide ((x.size:Int)>16)))
def label_name.Post(W F:World)(r:Bool)(v:Value)(w':World):Prop:=∃(F':World),v = .bool r∧Sm W F w' F' []
theorem label_name.calls(k:Nat)(x:ByteArray)(r:Bool)(W F:World)(hown:Sub F W)(H:label_name.f k x=some r):
    Cr 246 #[.string x] W (label_name.Post W F r):=by
 have S:=sT hown
 unfold label_name.f at H
 refine ent 23 rfl rfl rfl (fun a E=>?_)
 refine rr E fun a E=>(sq fun K2 hK2=>sq fun K3 hK3=>?_)
 have J9:∀ kq7,kq7≤k→∀(G:NV)(y5:Bool)(a:Act)(w':World),Env 23 G a→At G [(0,.string x),(11,.bool y5)]→Sm W F w' F []→label_name.j6 kq7 x y5=some r→K3 a w':=by
  intro kq7 hkq G y5 a u10 E A S H
  obtain _ | k8:=kq7
  exact zz H
  rw [label_name.j6_s]at H
  obtain ⟨J,E⟩:=E.at A
  refine hK3 _ _ (E.ib 11 H (fun c11 E H=>?_) fun c11 E H=>?_)
  refine rr E fun a E=>(wp_ret (qCJ ?_))
  obtain rfl:=si H
  exact rt1 E ⟨_,rfl,_,rfl,S⟩
  refine wp_skip (hK2 _ _ (sq fun K13 hK13=>sq fun K14 hK14=>pl0 (plc E (.r 0 1 .nil) (fun a E=>ple E (.rg S x) ?_))))
  rintro _ u16 a ⟨b15,rfl,S,hg⟩ E
  refine pld (hK14 _ _ (wp_block ?_))
  refine wp_loop_ghost (fun kq19 a w'=>∃(G:NV)(p17:Nat),kq19≤k8∧Env 23 G a∧At G [(13,.pointer (pb b15))]∧Sm W F w' F [sit b15 x p17]∧label_name.l18 kq19 x p17=some r) k8 ⟨_,0,Nat.le_refl _,E,.of,S,H⟩ ?_
  rintro kq19 a u21 ⟨G,p17,hkq,E,A,S,H⟩
  obtain _ | k20:=kq19
  exact zz H
  rw [label_name.l18_s]at H
  obtain ⟨J,E⟩:=E.at A
  refine sq fun K22 hK22=>pl0 ?_
  rcases sp H with ⟨c23,H⟩ | ⟨c23,H⟩
  refine ple E (.nx S c23) ?_
  rintro _ u24 a ⟨rfl,S,hz⟩ E
  refine plc E (.r 1 1 .nil) (fun a E=>pld (hK22 _ _ (sq fun K25 hK25=>ct E (wp_skip (hK25 _ _ (wp_block (rr E fun a E=>(sq fun K27 hK27=>?_))))))))
  have J33:∀ kq31,kq31≤k20→∀(G:NV)(y29:Bool)(a:Act)(w':World),Env 23 G a→At G [(13,.pointer (pb b15)),(22,.bool y29)]→Sm W F w' F [sit b15 x (p17+(Utf8.decode x p17).2)]→label_name.j30 kq31 x p17 y29=some r→K27 a w':=by
   intro kq31 hkq G y29 a u34 E A S H
   obtain _ | k32:=kq31
   exact zz H
   rw [label_name.j30_s]at H
   obtain ⟨J,E⟩:=E.at A
   refine hK27 _ _ (E.ib 22 H (fun c35 E H=>?_) fun c35 E H=>?_)
   refine rr E fun a E=>(wp_ret (qCK (qCJ (qCK (qCJ ?_)))))
   replace S:=S.tail
   obtain rfl:=si H
   exact rt1 E ⟨_,rfl,_,rfl,S⟩
   refine wp_skip ?_
   refine qCL ?_
   exact qCM ⟨k32,by omega,_,(p17+(Utf8.decode x p17).2),by omega,E,.of,S,H⟩
  refine pl0 (plc E (.r 0 3 .nil) (fun a E=>E.fk 19 H (fun c28 E H=>?_) fun c28 E H=>?_))
  refine plc E (.r 3 3 .nil) (fun a E=>pld ?_)
  exact J33 _ (by omega) _ true _ _ E .of S H
  refine plc E (.r 3 3 .nil) (fun a E=>pld ?_)
  exact J33 _ (by omega) _ (decide (((Utf8.decode x p17).1:Int)>122)) _ _ E .of S H
  refine ple E (.nx0 S c23) ?_
  rintro _ _ a ⟨rfl,rfl⟩ E
  refine plc E (.r 1 1 .nil) (fun a E=>pld (hK22 _ _ (sq fun K37 hK37=>cf E ?_)))
  refine wp_exit ?_
  refine hK13 _ _ (rr E fun a E=>(wp_ret ?_))
  replace S:=S.tail
  obtain rfl:=si H
  exact rt1 E ⟨_,rfl,_,rfl,S⟩
 refine pl0 (plc E (.r 0 3 .nil) (fun a E=>?_))
 rcases sp H with ⟨c4,H⟩ | ⟨c4,H⟩
 replace E:=E.et 7 c4
 refine plc E (.r 3 4 .nil) (fun a E=>pld ?_)
 exact J9 _ (by omega) _ true _ _ E .of S H
 replace E:=E.ef 7 c4
 refine plc E (.r 3 4 .nil) (fun a E=>pld ?_)
 exact J9 _ (by omega) _ (decide ((x.size:Int)>16)) _ _ E .of S H
mutual
def label_value.l5:Nat→ByteArray→Int→Option Bool
 | 0,_,_=>none
 | k+1,x,x4=>if x4<(x.size:Int) then (if 0≤x4∧x4<(x.size:Int) then (if (byteAt x x4)<32 then (label_value.j18 k x x4 true) else (label_value.j18 k x x4 (decide ((byteAt x x4)>126)))) else (none)) else (some (decide ((x.size:Int)≤16)))
def label_value.j18:Nat→ByteArray→Int→Bool→Option Bool
 | 0,_,_,_=>none
 | k+1,x,x4,y17=>if y17=true then (some false) else (label_value.l5 k x (w64 (x4+1)))
end
theorem label_value.l5_s k x x4:type_of% (label_value.l5.eq_2 x x4 k):=label_value.l5.eq_2 x x4 k
theorem label_value.j18_s k x x4 y17:type_of% (label_value.j18.eq_2 x x4 y17 k):=label_value.j18.eq_2 x x4 y17 k
def label_value.f(k:Nat)(x:ByteArray):Option Bool:=label_value.l5 k x 0
def label_value.Post(W F:World)(r:Bool)(v:Value)(w':World):Prop:=∃(F':World),v = .bool r∧Sm W F w' F' []
theorem label_value.calls(k:Nat)(x:ByteArray)(r:Bool)(W F:World)(hown:Sub F W)(H:label_value.f k x=some r):
    Cr 247 #[.string x] W (label_value.Post W F r):=by
 have S:=sT hown
 unfold label_value.f at H
 refine ent 23 rfl rfl rfl (fun a E=>?_)
 refine rr E fun a E=>(sq fun K2 hK2=>rr E fun a E=>(wp_block ?_))
 refine wp_loop_ghost (fun kq6 a w'=>∃(G:NV)(x4:Int),kq6≤k∧Env 23 G a∧At G [(0,.string x),(5,iv (x.size:Int)),(6,iv x4)]∧Sm W F w' F []∧label_value.l5 kq6 x x4=some r) k ⟨_,0,Nat.le_refl _,E,.of,S,H⟩ ?_
 rintro kq6 a u8 ⟨G,x4,hkq,E,A,S,H⟩
 obtain _ | k7:=kq6
 exact zz H
 rw [label_value.l5_s]at H
 obtain ⟨J,E⟩:=E.at A
 refine rr E fun a E=>(sq fun K10 hK10=>E.ik 7 H (fun c11 E H=>?_) fun c11 E H=>?_)
 refine wp_skip (hK10 _ _ (sq fun K12 hK12=>wp_block (rr E fun a E=>(sq fun K14 hK14=>?_))))
 have J21:∀ kq19,kq19≤k7→∀(G:NV)(y17:Bool)(a:Act)(w':World),Env 23 G a→At G [(0,.string x),(5,iv (x.size:Int)),(6,iv x4),(18,.bool y17)]→Sm W F w' F []→label_value.j18 kq19 x x4 y17=some r→K14 a w':=by
  intro kq19 hkq G y17 a u22 E A S H
  obtain _ | k20:=kq19
  exact zz H
  rw [label_value.j18_s]at H
  obtain ⟨J,E⟩:=E.at A
  refine hK14 _ _ (E.ib 18 H (fun c23 E H=>?_) fun c23 E H=>?_)
  refine rr E fun a E=>(wp_ret (qCK (qCJ (qCJ (qCK (qCJ ?_))))))
  obtain rfl:=si H
  exact rt1 E ⟨_,rfl,_,rfl,S⟩
  refine wp_skip ?_
  refine qCL ?_
  refine hK12 _ _ (pl0 (plc E (.r 0 2 .nil) (fun a E=>pld ?_)))
  exact qCM ⟨k20,by omega,_,(w64 (x4+1)),by omega,E,.of,S,H⟩
 refine pl0 ?_
 obtain ⟨c15,H⟩:=gd H
 refine plc E (.r 0 2<|.y 2 (qFk c15)<|.r 3 2<|.nil) (fun a E=>E.fk 13 H (fun c16 E H=>?_) fun c16 E H=>?_)
 refine plc E (.r 5 5 .nil) (fun a E=>pld ?_)
 exact J21 _ (by omega) _ true _ _ E .of S H
 refine plc E (.r 5 2<|.y 7 (qFk c15)<|.r 8 2<|.nil) (fun a E=>pld ?_)
 exact J21 _ (by omega) _ (decide ((byteAt x x4)>126)) _ _ E .of S H
 refine wp_exit ?_
 refine hK2 _ _ (rr E fun a E=>(wp_ret ?_))
 obtain rfl:=si H
 exact rt1 E ⟨_,rfl,_,rfl,S⟩
mutual
def label_Check.j11:Nat→qBC→Bool→Option Int
 | 0,_,_=>none
 | k+1,x,y10=>if y10=true then (some 1) else (label_Check.l21 k x 0)
def label_Check.l21:Nat→qBC→Int→Option Int
 | 0,_,_=>none
 | k+1,x,x20=>if x20<(x.f1.length:Int) then (if 0≤x20∧x20<(x.f1.length:Int) then ((label_name.f k ((nth qx.z x.f1 x20).f0)).bind fun t40=>(if t40=true then ((label_value.f k ((nth qx.z x.f1 x20).f1)).bind fun t44=>(if t44=true then (if x20>0 then (if 0≤(w64 (x20 - 1))∧(w64 (x20 - 1))<(x.f1.length:Int) then (label_Check.j53 k x x20 (Op.bytesLess ((nth qx.z x.f1 x20).f0).toList ((nth qx.z x.f1 (w64 (x20 - 1))).f0).toList||((nth qx.z x.f1 x20).f0).toList == ((nth qx.z x.f1 (w64 (x20 - 1))).f0).toList)) else (none)) else (label_Check.j53 k x x20 false)) else (label_Check.j53 k x x20 true))) else (label_Check.j53 k x x20 true))) else (none)) else (some 0)
def label_Check.j53:Nat→qBC→Int→Bool→Option Int
 | 0,_,_,_=>none
 | k+1,x,x20,y52=>if y52=true then (some 1) else (label_Check.l21 k x (w64 (x20+1)))
end
theorem label_Check.j11_s k x y10:type_of% (label_Check.j11.eq_2 x y10 k):=label_Check.j11.eq_2 x y10 k
theorem label_Check.l21_s k x x20:type_of% (label_Check.l21.eq_2 x x20 k):=label_Check.l21.eq_2 x x20 k
theorem label_Check.j53_s k x x20 y52:type_of% (label_Check.j53.eq_2 x x20 y52 k):=label_Check.j53.eq_2 x x20 y52 k
def label_Check.f(k:Nat)(x:qBC):Option Int:=(label_name.f k x.f0).bind fun t7=>(if t7=true then (label_Check.j11 k x (decide ((x.f1.length:Int)>4))) else (label_Check.j11 k x true))
def label_Check.Post(W F:World)(r:Int)(v:Value)(w':World):Prop:=∃(F':World),v=iv r∧Sm W F w' F' []
theorem label_Check.calls(k:Nat)(x:qBC)(A0_1:OA)(c0_1:Nat)(r:Int)(W F:World)(hown:Sub F W)(g0_1:Rd qx.k F A0_1 c0_1 x.f1)(H:label_Check.f k x=some r):
    Cr 208 #[.agg #[.string x.f0,.slice A0_1 x.f1.length c0_1]] W (label_Check.Post W F r):=by
 have S:=sT hown
 unfold label_Check.f at H
 refine ent 50 rfl rfl rfl (fun a E=>?_)
 refine sq fun K1 hK1=>pl0 (plx (t:=193) E S [.string x.f0,.slice A0_1 x.f1.length c0_1] fun b2 u3 hb2 S a E=>plc E (.r 1 1 .nil) (fun a E=>pld (hK1 _ _ (sq fun K4 hK4=>sq fun K5 hK5=>?_))))
 have J14:∀ kq12,kq12≤k→∀(G:NV)(y10:Bool)(a:Act)(w':World),Env 50 G a→At G [(1,.pointer (pb b2)),(14,.bool y10)]→Sm W F w' F [box b2 #[.string x.f0,.slice A0_1 x.f1.length c0_1] 193]→label_Check.j11 kq12 x y10=some r→K5 a w':=by
  intro kq12 hkq G y10 a u15 E A S H
  obtain _ | k13:=kq12
  exact zz H
  rw [label_Check.j11_s]at H
  obtain ⟨J,E⟩:=E.at A
  refine hK5 _ _ (E.ib 14 H (fun c16 E H=>?_) fun c16 E H=>?_)
  refine rr E fun a E=>(wp_ret (qCJ ?_))
  replace S:=S.tail
  obtain rfl:=si H
  exact rt1 E ⟨_,rfl,_,rfl,S⟩
  refine wp_skip (hK4 _ _ (sq fun K18 hK18=>sq fun K19 hK19=>pl0 ?_))
  have hb2:=S.ba 0
  refine plc E (.r 0 1<|.b 1 1 hb2<|.r 2 2<|.nil) (fun a E=>pld (hK19 _ _ (wp_block ?_)))
  refine wp_loop_ghost (fun kq22 a w'=>∃(G:NV)(x20:Int),kq22≤k13∧Env 50 G a∧At G [(1,.pointer (pb b2)),(16,.slice A0_1 x.f1.length c0_1),(17,iv (x.f1.length:Int)),(18,iv x20)]∧Sm W F w' F [box b2 #[.string x.f0,.slice A0_1 x.f1.length c0_1] 193]∧label_Check.l21 kq22 x x20=some r) k13 ⟨_,0,Nat.le_refl _,E,.of,S,H⟩ ?_
  rintro kq22 a u24 ⟨G,x20,hkq,E,A,S,H⟩
  obtain _ | k23:=kq22
  exact zz H
  rw [label_Check.l21_s]at H
  obtain ⟨J,E⟩:=E.at A
  refine rr E fun a E=>(sq fun K26 hK26=>E.ik 19 H (fun c27 E H=>?_) fun c27 E H=>?_)
  refine wp_skip (hK26 _ _ (sq fun K28 hK28=>wp_block (sq fun K29 hK29=>pl0 ?_)))
  obtain ⟨c30,H⟩:=gd H
  have hE_:=E
  obtain ⟨ad31,rfl⟩:=g0_1.addr c30.1 c30.2
  replace E:=hE_
  obtain ⟨cs33,rfl,hc34⟩:=g0_1.el qx.z x20 c30.1 c30.2
  refine plc E (.r 0 1<|.x 1 c30<|.cs 2 (S.fcs hc34)<|.nil) (fun a E=>pla (t:=232) E S [.string (⟨#[]⟩:ByteArray),.string (⟨#[]⟩:ByteArray)] fun b35 u36 hb35 S a E=>plc E (.r 4 1 .nil) (fun a E=>pls E S [.string ((nth qx.z x.f1 x20).f0),.string ((nth qx.z x.f1 x20).f1)] fun u37 hb35 S a E=>pld (hK29 _ _ (sq fun K38 hK38=>?_))))
  have J56:∀ kq54,kq54≤k23→∀(G:NV)(y52:Bool)(a:Act)(w':World),Env 50 G a→At G [(1,.pointer (pb b2)),(16,.slice (some ad31) x.f1.length c0_1),(17,iv (x.f1.length:Int)),(18,iv x20),(48,.bool y52)]→Sm W F w' F [box b35 #[.string ((nth qx.z x.f1 x20).f0),.string ((nth qx.z x.f1 x20).f1)] 232,box b2 #[.string x.f0,.slice (some ad31) x.f1.length c0_1] 193]→label_Check.j53 kq54 x x20 y52=some r→K38 a w':=by
   intro kq54 hkq G y52 a u57 E A S H
   obtain _ | k55:=kq54
   exact zz H
   rw [label_Check.j53_s]at H
   obtain ⟨J,E⟩:=E.at A
   refine hK38 _ _ (E.ib 48 H (fun c58 E H=>?_) fun c58 E H=>?_)
   refine rr E fun a E=>(wp_ret (qCK (qCJ (qCJ (qCK (qCJ ?_))))))
   replace S:=S.pm [] 2
   obtain rfl:=si H
   exact rt1 E ⟨_,rfl,_,rfl,S⟩
   refine wp_skip ?_
   refine qCL ?_
   refine hK28 _ _ (pl0 (plc E (.r 0 2 .nil) (fun a E=>pld ?_)))
   replace S:=S.tail
   exact qCM ⟨k55,by omega,_,(w64 (x20+1)),by omega,E,.of,S,H⟩
  refine drawn 26 ⟨[],[],fun q=>False⟩ mixed rfl (by kernel_rfl) (fun hst=>?_)
  replace S:=S.drew
  have hb35:=S.ba 0
  refine mny 24 hst E (.r 0 1<|.b 1 0 hb35<|.nil) (fun a E=>?_)
  obtain ⟨t40,h41,H⟩:=bd H
  refine on1 2 E (.cl en246 (label_name.calls k23 ((nth qx.z x.f1 x20).f0) _ _ _ S.own.sub h41)) ?_
  rintro _ u39 a ⟨_,rfl,hC⟩ E
  refine ⟨.of hC.agr,?_⟩
  replace S:=S.lent hC
  refine mny 21 hst E (.r 3 2 .nil) (fun a E=>?_)
  refine E.fbn 27 H (fun c42 E H=>?_) fun c42 E H=>?_
  have hb35:=S.ba 0
  refine mny 19 hst E (.r 5 1<|.b 6 1 hb35<|.nil) (fun a E=>?_)
  obtain ⟨t44,h45,H⟩:=bd H
  refine on1 7 E (.cl en247 (label_value.calls k23 ((nth qx.z x.f1 x20).f1) _ _ _ S.own.sub h45)) ?_
  rintro _ u43 a ⟨_,rfl,hC⟩ E
  refine ⟨.of hC.agr,?_⟩
  replace S:=S.lent hC
  refine mny 15 hst E (.r 8 3 .nil) (fun a E=>?_)
  refine E.fbn 33 H (fun c46 E H=>?_) fun c46 E H=>?_
  refine mny 12 hst E (.r 11 3 .nil) (fun a E=>?_)
  refine E.fk 36 H (fun c47 E H=>?_) fun c47 E H=>?_
  have hb35:=S.ba 0
  have hb2:=S.ba 1
  obtain ⟨c48,H⟩:=gd H
  obtain ⟨cs50,rfl,hc51⟩:=g0_1.el qx.z (w64 (x20 - 1)) c48.1 c48.2
  refine mny 0 hst E (.r 14 1<|.b 15 0 hb35<|.r 16 1<|.b 17 1 hb2<|.r 18 2<|.x 20 c48<|.r 21 1<|.c 22 (S.fc hc51 0)<|.r 23 3<|.nil) (fun a E=>?_)
  refine dn ?_
  exact J56 _ (by omega) _ (Op.bytesLess ((nth qx.z x.f1 x20).f0).toList ((nth qx.z x.f1 (w64 (x20 - 1))).f0).toList||((nth qx.z x.f1 x20).f0).toList == ((nth qx.z x.f1 (w64 (x20 - 1))).f0).toList) _ _ E .of S H
  refine mny 0 hst E (.r 14 12 .nil) (fun a E=>?_)
  refine dn ?_
  exact J56 _ (by omega) _ false _ _ E .of S H
  refine mny 0 hst E (.r 11 15 .nil) (fun a E=>?_)
  refine dn ?_
  exact J56 _ (by omega) _ true _ _ E .of S H
  refine mny 0 hst E (.r 5 21 .nil) (fun a E=>?_)
  refine dn ?_
  exact J56 _ (by omega) _ true _ _ E .of S H
  refine wp_exit ?_
  refine hK18 _ _ (rr E fun a E=>(wp_ret ?_))
  replace S:=S.tail
  obtain rfl:=si H
  exact rt1 E ⟨_,rfl,_,rfl,S⟩
 refine pl0 (plc E (.r 0 1<|.b 1 0 hb2<|.nil) (fun a E=>?_))
 obtain ⟨t7,h8,H⟩:=bd H
 refine plq E S en246 (label_name.calls k x.f0 _ _ _ S.own.sub h8) fun u6 S a E=>plc E (.r 3 2 .nil) (fun a E=>E.fbn 9 H (fun c9 E H=>?_) fun c9 E H=>?_)
 refine plc E (.r 5 1<|.b 6 1 (S.ba 0)<|.r 7 3<|.nil) (fun a E=>pld ?_)
 exact J14 _ (by omega) _ (decide ((x.f1.length:Int)>4)) _ _ E .of S H
 refine plc E (.r 5 5 .nil) (fun a E=>pld ?_)
 exact J14 _ (by omega) _ true _ _ E .of S H
def label_Parse.l14:Nat→ByteArray × ByteArray × Bool→Option (qBC × Int)
 | 0,_=>none
 | k+1,t6=>if t6.2.2=true then ((strings_Cut.f t6.2.1 (⟨#[61,34]⟩:ByteArray)).bind fun t23=>(none)) else ((qn.f []).bind fun t29=>((label_Check.f k (⟨t6.1,[]⟩:qBC)).bind fun t35=>(if t35=0 then (some ((⟨t6.1,[]⟩:qBC),0)) else (some ((⟨(⟨#[]⟩:ByteArray),[]⟩:qBC),2)))))
theorem label_Parse.l14_s k t6:type_of% (label_Parse.l14.eq_2 t6 k):=label_Parse.l14.eq_2 t6 k
def label_Parse.f(k:Nat)(x:ByteArray):Option (qBC × Int):=(strings_Cut.f x (⟨#[123]⟩:ByteArray)).bind fun t6=>(label_Parse.l14 k t6)
def label_Parse.Post(W F:World)(r:qBC × Int)(v:Value)(w':World):Prop:=∃(F':World)(RA0_1:OA)(rc0_1:Nat),v = .tuple #[.agg #[.string r.1.f0,.slice RA0_1 r.1.f1.length rc0_1],iv r.2]∧Sm W F w' F' []∧Rd qx.k F' RA0_1 rc0_1 r.1.f1
theorem label_Parse.calls(k:Nat)(x:ByteArray)(r:qBC × Int)(W F:World)(hown:Sub F W)(H:label_Parse.f k x=some r):
    Cr 167 #[.string x] W (label_Parse.Post W F r):=by
 have S:=sT hown
 unfold label_Parse.f at H
 refine ent 81 rfl rfl rfl (fun a E=>?_)
 refine sq fun K1 hK1=>pl0 (pla (t:=193) E S [.string (⟨#[]⟩:ByteArray),.slice none 0 0] fun b2 u3 hb2 S a E=>plc E (.r 1 1 .nil) (fun a E=>pld (hK1 _ _ (sq fun K4 hK4=>pl0 (plc E (.r 0 1 .nil) (fun a E=>?_))))))
 obtain ⟨t6,h7,H⟩:=bd H
 refine plq E S en203 (strings_Cut.calls x (⟨#[123]⟩:ByteArray) _ _ _ S.own.sub h7) fun u5 S a E=>plc E (.r 2 7 .nil) (fun a E=>pld (hK4 _ _ (sq fun K8 hK8=>pl0 (plc E (.r 0 2 .nil) (fun a E=>pla (t:=193) E S [.string (⟨#[]⟩:ByteArray),.slice none 0 0] fun b9 u10 hb9 S a E=>pls E S [.string t6.1,.slice none 0 0] fun u11 hb9 S a E=>pld (hK8 _ _ (sq fun K12 hK12=>rr E fun a E=>(wp_block ?_))))))))
 refine wp_loop_ghost (fun kq15 a w'=>∃(G:NV),kq15≤k∧Env 81 G a∧At G [(2,.pointer (pb b2)),(5,.string t6.2.1),(7,.pointer (pb b9)),(8,.bool t6.2.2)]∧Sm W F w' F [box b9 #[.string t6.1,.slice none 0 0] 193,box b2 #[.string (⟨#[]⟩:ByteArray),.slice none 0 0] 193]∧label_Parse.l14 kq15 t6=some r) k ⟨_,Nat.le_refl _,E,.of,S,H⟩ ?_
 rintro kq15 a u17 ⟨G,hkq,E,A,S,H⟩
 obtain _ | k16:=kq15
 exact zz H
 rw [label_Parse.l14_s]at H
 obtain ⟨J,E⟩:=E.at A
 refine sq fun K18 hK18=>rr E fun a E=>(E.ib 23 H (fun c20 E H=>?_) fun c20 E H=>?_)
 refine wp_skip (hK18 _ _ (wp_block (sq fun K21 hK21=>pl0 (plc E (.r 0 1 .nil) (fun a E=>?_)))))
 obtain ⟨t23,h24,H⟩:=bd H
 refine plq E S en203 (strings_Cut.calls t6.2.1 (⟨#[61,34]⟩:ByteArray) _ _ _ S.own.sub h24) fun u22 S a E=>plc E (.r 2 7 .nil) (fun a E=>pld (hK21 _ _ (sq fun K25 hK25=>pl0 (plc E (.r 0 1 .nil) (fun a E=>?_)))))
 exact zz H
 refine wp_exit ?_
 refine hK12 _ _ (sq fun K26 hK26=>pl0 (plc E (.r 0 1<|.b 1 1 (S.ba 0)<|.nil) (fun a E=>?_)))
 replace S:=S.nilrow qx.k 232
 obtain ⟨t29,h30,H⟩:=bd H
 refine ple E (.cl en205 (qn.calls [] _ _ _ _ _ (Own.left (X:=[row qx.k 232 (.slice none ([].length) 0) []]) S.own) h30)) ?_
 rintro _ u28 a ⟨F31,rfl,hC⟩ E
 have hs:=hC.sub
 replace S:=S.called (X:=[row qx.k 232 (.slice none ([].length) 0) []]) hC
 refine pld (hK26 _ _ (sq fun K32 hK32=>sq fun K33 hK33=>pl0 ?_))
 have hb9:=S.ba 1
 refine plc E (.bn 0 0 2 hb9 .nil) (fun a E=>?_)
 obtain ⟨t35,h36,H⟩:=bd H
 refine plq E S en208 (label_Check.calls k16 (⟨t6.1,[]⟩:qBC) _ _ _ _ _ S.own.sub (Rd.nil _ _) h36) fun u34 S a E=>plc E (.r 2 1 .nil) (fun a E=>pld (hK33 _ _ (E.ikn 78 H (fun c37 E H=>?_) fun c37 E H=>?_)))
 refine wp_skip (hK32 _ _ (sq fun K41 hK41=>pl0 (plc E (.bn 0 0 2 (S.ba 1) .nil) (fun a E=>?_))))
 replace S:=S.front 2 rfl
 refine pls E S [.string t6.1,.slice none 0 0] fun u42 hb2 S a E=>plc E (.r 2 1 .nil) (fun a E=>pld (hK41 _ _ (wp_ret ?_)))
 have hn43:=(qCN (S.row_at (i:=1) rfl)).1
 replace S:Sm W F u42 F31 [box b2 #[.string t6.1,.slice none 0 0] 193,row qx.k 232 (.slice none t29.length 0) t29,box b9 #[.string t6.1,.slice none 0 0] 193]:=by rw [← hn43]; exact S
 have hb2:=S.ba 0
 replace S:=S.pm [] 3
 obtain rfl:=si H
 exact rtm E (.b hb2 ag193 sz193 (.t .nil)) ⟨_,rfl,_,_,_,rfl,S,(Rd.nil _ _)⟩
 refine sq fun K38 hK38=>pl0 (plc E (.r 0 1 .nil) (fun a E=>?_))
 replace S:=S.front 2 rfl
 refine pls E S [.string (⟨#[]⟩:ByteArray),.slice none 0 0] fun u39 hb2 S a E=>plc E (.r 2 1 .nil) (fun a E=>pld (hK38 _ _ (wp_ret (qCJ ?_))))
 have hn40:=(qCN (S.row_at (i:=1) rfl)).1
 replace S:Sm W F u39 F31 [box b2 #[.string (⟨#[]⟩:ByteArray),.slice none 0 0] 193,row qx.k 232 (.slice none t29.length 0) t29,box b9 #[.string t6.1,.slice none 0 0] 193]:=by rw [← hn40]; exact S
 have hb2:=S.ba 0
 replace S:=S.pm [] 3
 obtain rfl:=si H
 exact rtm E (.b hb2 ag193 sz193 (.t .nil)) ⟨_,rfl,_,_,_,rfl,S,(Rd.nil _ _)⟩
def label_Print.f(k:Nat)(x:qBC):Option (ByteArray × Int):=(label_Check.f k x).bind fun t7=>(if t7=0 then (if (x.f1.length:Int)=0 then (some (x.f0,0)) else (none)) else (some ((⟨#[]⟩:ByteArray),t7)))
def label_Print.Post(W F:World)(r:ByteArray × Int)(v:Value)(w':World):Prop:=∃(F':World),v = .tuple #[.string r.1,iv r.2]∧Sm W F w' F' []
theorem label_Print.calls(k:Nat)(x:qBC)(A0_1:OA)(c0_1:Nat)(r:ByteArray × Int)(W F:World)(hown:Sub F W)(g0_1:Rd qx.k F A0_1 c0_1 x.f1)(H:label_Print.f k x=some r):
    Cr 168 #[.agg #[.string x.f0,.slice A0_1 x.f1.length c0_1]] W (label_Print.Post W F r):=by
 have S:=sT hown
 unfold label_Print.f at H
 refine ent 59 rfl rfl rfl (fun a E=>?_)
 refine sq fun K1 hK1=>pl0 (plx (t:=193) E S [.string x.f0,.slice A0_1 x.f1.length c0_1] fun b2 u3 hb2 S a E=>plc E (.r 1 2 .nil) (fun a E=>pld (hK1 _ _ (sq fun K4 hK4=>sq fun K5 hK5=>pl0 (plc E (.bn 0 0 2 hb2 .nil) (fun a E=>?_))))))
 obtain ⟨t7,h8,H⟩:=bd H
 refine plq E S en208 (label_Check.calls k x _ _ _ _ _ S.own.sub g0_1 h8) fun u6 S a E=>plc E (.r 2 1 .nil) (fun a E=>pld (hK5 _ _ (rr E fun a E=>(E.ikn 13 H (fun c10 E H=>?_) fun c10 E H=>?_))))
 refine wp_skip (hK4 _ _ (sq fun K12 hK12=>sq fun K13 hK13=>pl0 ?_))
 have hb2:=S.ba 0
 refine plc E (.r 0 1<|.b 1 1 hb2<|.r 2 2<|.nil) (fun a E=>pld (hK13 _ _ (E.ik 18 H (fun c14 E H=>?_) fun c14 E H=>?_)))
 refine rg E (.r 0 1<|.b 1 0 hb2<|.r 2 2<|.nil) fun a E=>(wp_ret (qCJ ?_))
 replace S:=S.tail
 obtain rfl:=si H
 exact rtN E ⟨_,rfl,_,rfl,S⟩
 refine wp_skip (hK12 _ _ (sq fun K16 hK16=>pl0 ?_))
 exact zz H
 refine rr E fun a E=>(wp_ret (qCJ ?_))
 replace S:=S.tail
 obtain rfl:=si H
 exact rtN E ⟨_,rfl,_,rfl,S⟩
def shelf_series.f(k:Nat)(x:ByteArray):Option Bool:=(label_Parse.f k x).bind fun t4=>((label_Print.f k t4.1).bind fun t15=>(if t4.2=0 then (some (t15.1.toList == x.toList)) else (some false)))
def shelf_series.Post(W F:World)(r:Bool)(v:Value)(w':World):Prop:=∃(F':World),v = .bool r∧Sm W F w' F' []
theorem shelf_series.calls(k:Nat)(x:ByteArray)(r:Bool)(W F:World)(hown:Sub F W)(H:shelf_series.f k x=some r):
    Cr 125 #[.string x] W (shelf_series.Post W F r):=by
 have S:=sT hown
 unfold shelf_series.f at H
 refine ent 24 rfl rfl rfl (fun a E=>?_)
 refine rr E fun a E=>(sq fun K2 hK2=>pl0 (plc E (.r 0 1 .nil) (fun a E=>?_)))
 obtain ⟨t4,h5,H⟩:=bd H
 refine ple E (.cl en167 (label_Parse.calls k x _ _ _ S.own.sub h5)) ?_
 rintro _ u3 a ⟨F6,A7,c8,rfl,hC,g9⟩ E
 have hs:=hC.sub
 replace S:=S.called (X:=[]) hC
 refine plc E (.r 2 3 .nil) (fun a E=>pla (t:=193) E S [.string (⟨#[]⟩:ByteArray),.slice none 0 0] fun b10 u11 hb10 S a E=>pls E S [.string t4.1.f0,.slice A7 t4.1.f1.length c8] fun u12 hb10 S a E=>plc E (.r 7 1 .nil) (fun a E=>pld (hK2 _ _ (sq fun K13 hK13=>pl0 (plc E (.bn 0 0 2 hb10 .nil) (fun a E=>?_))))))
 obtain ⟨t15,h16,H⟩:=bd H
 refine plq E S en168 (label_Print.calls k t4.1 _ _ _ _ _ S.own.sub g9 h16) fun u14 S a E=>plc E (.r 2 5 .nil) (fun a E=>pld (hK13 _ _ (sq fun K17 hK17=>pl0 (plc E (.r 0 3 .nil) (fun a E=>E.fk 19 H (fun c18 E H=>?_) fun c18 E H=>?_)))))
 refine plc E (.r 3 5 .nil) (fun a E=>pld (hK17 _ _ (wp_ret ?_)))
 replace S:=S.tail
 obtain rfl:=si H
 exact rt1 E ⟨_,rfl,_,rfl,S⟩
 refine plc E (.r 3 5 .nil) (fun a E=>pld (hK17 _ _ (wp_ret ?_)))
 replace S:=S.tail
 obtain rfl:=si H
 exact rt1 E ⟨_,rfl,_,rfl,S⟩
def shelf_in.f(x:Int)(y:Int)(z:Int):Option Bool:=if x≥y then (some (decide (x≤z))) else (some false)
def shelf_in.Post(W F:World)(r:Bool)(v:Value)(w':World):Prop:=∃(F':World),v = .bool r∧Sm W F w' F' []
theorem shelf_in.calls(x:Int)(y:Int)(z:Int)(r:Bool)(W F:World)(hown:Sub F W)(H:shelf_in.f x y z=some r):
    Cr 127 #[iv x,iv y,iv z] W (shelf_in.Post W F r):=by
 have S:=sT hown
 unfold shelf_in.f at H
 refine ent 15 rfl rfl rfl (fun a E=>?_)
 refine rr E fun a E=>(sq fun K2 hK2=>pl0 (plc E (.r 0 4 .nil) (fun a E=>E.fk 10 H (fun c3 E H=>?_) fun c3 E H=>?_)))
 refine plc E (.r 4 5 .nil) (fun a E=>pld (hK2 _ _ (wp_ret ?_)))
 obtain rfl:=si H
 exact rt1 E ⟨_,rfl,_,rfl,S⟩
 refine plc E (.r 4 5 .nil) (fun a E=>pld (hK2 _ _ (wp_ret ?_)))
 obtain rfl:=si H
 exact rt1 E ⟨_,rfl,_,rfl,S⟩
mutual
def shelf_CheckOp.j14:Nat→qAf→Bool→Option Int
 | 0,_,_=>none
 | k+1,x,y13=>if x.f0=1 then (if y13=true then (none) else (shelf_CheckOp.j65 k x false x.f1 x.f2.f0 x.f2.f1 0 0 0)) else (if x.f0=2 then ((shelf_in.f x.f3 0 1099511627776).bind fun t37=>(shelf_CheckOp.j65 k x t37 (⟨#[]⟩:ByteArray) 0 0 x.f3 0 0)) else (if x.f0=3 then (if y13=true then ((shelf_in.f x.f5 1 5).bind fun t51=>(shelf_CheckOp.j65 k x t51 x.f1 0 0 x.f3 x.f4 x.f5)) else (shelf_CheckOp.j65 k x false x.f1 0 0 x.f3 x.f4 x.f5)) else (if x.f0=4 then (shelf_CheckOp.j65 k x y13 x.f1 0 0 x.f3 0 0) else (shelf_CheckOp.j65 k x false (⟨#[]⟩:ByteArray) 0 0 0 0 0))))
def shelf_CheckOp.j65:Nat→qAf→Bool→ByteArray→Int→Int→Int→Int→Int→Option Int
 | 0,_,_,_,_,_,_,_,_=>none
 | k+1,x,y58,s59,x60,x61,x62,x63,x64=>if y58=true then (shelf_CheckOp.j74 k (!(decide (x=(⟨x.f0,s59,(⟨x60,x61⟩:qk),x62,x63,x64⟩:qAf))))) else (shelf_CheckOp.j74 k true)
def shelf_CheckOp.j74:Nat→Bool→Option Int
 | 0,_=>none
 | k+1,y73=>if y73=true then (some 1) else (some 0)
end
theorem shelf_CheckOp.j14_s k x y13:type_of% (shelf_CheckOp.j14.eq_2 x y13 k):=shelf_CheckOp.j14.eq_2 x y13 k
theorem shelf_CheckOp.j65_s k x y58 s59 x60 x61 x62 x63 x64:type_of% (shelf_CheckOp.j65.eq_2 x y58 s59 x60 x61 x62 x63 x64 k):=shelf_CheckOp.j65.eq_2 x y58 s59 x60 x61 x62 x63 x64 k
theorem shelf_CheckOp.j74_s k y73:type_of% (shelf_CheckOp.j74.eq_2 y73 k):=shelf_CheckOp.j74.eq_2 y73 k
def shelf_CheckOp.f(k:Nat)(x:qAf):Option Int:=if x.f0=2 then (shelf_CheckOp.j14 k x true) else ((shelf_series.f k x.f1).bind fun t11=>(shelf_CheckOp.j14 k x t11))
def shelf_CheckOp.Post(W F:World)(r:Int)(v:Value)(w':World):Prop:=∃(F':World),v=iv r∧Sm W F w' F' []
theorem shelf_CheckOp.calls(k:Nat)(x:qAf)(r:Int)(W F:World)(hown:Sub F W)(H:shelf_CheckOp.f k x=some r):
    Cr 62 #[.agg #[iv x.f0,.string x.f1,iv x.f2.f0,iv x.f2.f1,iv x.f3,iv x.f4,iv x.f5]] W (shelf_CheckOp.Post W F r):=by
 have S:=sT hown
 unfold shelf_CheckOp.f at H
 refine ent 77 rfl rfl rfl (fun a E=>?_)
 refine sq fun K1 hK1=>pl0 (plx (t:=51) E S [iv x.f0,.string x.f1,iv x.f2.f0,iv x.f2.f1,iv x.f3,iv x.f4,iv x.f5] fun b2 u3 hb2 S a E=>plc E (.r 1 1 .nil) (fun a E=>pld (hK1 _ _ (sq fun K4 hK4=>pl0 (plc E (.r 0 1<|.b 1 0 hb2<|.r 2 1<|.nil) (fun a E=>pla (t:=51) E S [iv 0,.string (⟨#[]⟩:ByteArray),iv 0,iv 0,iv 0,iv 0,iv 0] fun b5 u6 hb5 S a E=>pls E S [iv x.f0,.string (⟨#[]⟩:ByteArray),iv 0,iv 0,iv 0,iv 0,iv 0] fun u7 hb5 S a E=>pld (hK4 _ _ (sq fun K8 hK8=>?_))))))))
 have J17:∀ kq15,kq15≤k→∀(G:NV)(y13:Bool)(a:Act)(w':World),Env 77 G a→At G [(1,.pointer (pb b2)),(3,.pointer (pb b5)),(4,.bool y13)]→Sm W F w' F [box b5 #[iv x.f0,.string (⟨#[]⟩:ByteArray),iv 0,iv 0,iv 0,iv 0,iv 0] 51,box b2 #[iv x.f0,.string x.f1,iv x.f2.f0,iv x.f2.f1,iv x.f3,iv x.f4,iv x.f5] 51]→shelf_CheckOp.j14 kq15 x y13=some r→K8 a w':=by
  intro kq15 hkq G y13 a u18 E A S H
  obtain _ | k16:=kq15
  exact zz H
  rw [shelf_CheckOp.j14_s]at H
  obtain ⟨J,E⟩:=E.at A
  refine hK8 _ _ (sq fun K19 hK19=>?_)
  have J68:∀ kq66,kq66≤k16→∀(G:NV)(y58:Bool)(s59:ByteArray)(x60:Int)(x61:Int)(x62:Int)(x63:Int)(x64:Int)(a:Act)(w':World),Env 77 G a→At G [(1,.pointer (pb b2)),(3,.pointer (pb b5)),(4,.bool y58)]→Sm W F w' F [box b5 #[iv x.f0,.string s59,iv x60,iv x61,iv x62,iv x63,iv x64] 51,box b2 #[iv x.f0,.string x.f1,iv x.f2.f0,iv x.f2.f1,iv x.f3,iv x.f4,iv x.f5] 51]→shelf_CheckOp.j65 kq66 x y58 s59 x60 x61 x62 x63 x64=some r→K19 a w':=by
   intro kq66 hkq G y58 s59 x60 x61 x62 x63 x64 a u69 E A S H
   obtain _ | k67:=kq66
   exact zz H
   rw [shelf_CheckOp.j65_s]at H
   obtain ⟨J,E⟩:=E.at A
   refine hK19 _ _ (sq fun K70 hK70=>sq fun K71 hK71=>?_)
   have J77:∀ kq75,kq75≤k67→∀(G:NV)(y73:Bool)(a:Act)(w':World),Env 77 G a→At G [(76,.bool y73)]→Sm W F w' F [box b5 #[iv x.f0,.string s59,iv x60,iv x61,iv x62,iv x63,iv x64] 51,box b2 #[iv x.f0,.string x.f1,iv x.f2.f0,iv x.f2.f1,iv x.f3,iv x.f4,iv x.f5] 51]→shelf_CheckOp.j74 kq75 y73=some r→K71 a w':=by
    intro kq75 hkq G y73 a u78 E A S H
    obtain _ | k76:=kq75
    exact zz H
    rw [shelf_CheckOp.j74_s]at H
    obtain ⟨J,E⟩:=E.at A
    refine hK71 _ _ (E.ib 76 H (fun c79 E H=>?_) fun c79 E H=>?_)
    refine rr E fun a E=>(wp_ret (qCJ ?_))
    replace S:=S.pm [] 2
    obtain rfl:=si H
    exact rt1 E ⟨_,rfl,_,rfl,S⟩
    refine wp_skip (hK70 _ _ (rr E fun a E=>(wp_ret ?_)))
    replace S:=S.pm [] 2
    obtain rfl:=si H
    exact rt1 E ⟨_,rfl,_,rfl,S⟩
   refine pl0 (plc E (.r 0 3 .nil) (fun a E=>E.fbn 72 H (fun c72 E H=>?_) fun c72 E H=>?_))
   refine plc E (.bn 3 0 7 (S.ba 1)<|.bn 4 0 7 (S.ba 0)<|.y 5 (y_nes (fun w=>eqs51 x (⟨x.f0,s59,(⟨x60,x61⟩:qk),x62,x63,x64⟩:qAf) w 9997))<|.r 6 1<|.nil) (fun a E=>pld ?_)
   exact J77 _ (by omega) _ (!(decide (x=(⟨x.f0,s59,(⟨x60,x61⟩:qk),x62,x63,x64⟩:qAf)))) _ _ E .of S H
   refine plc E (.r 3 4 .nil) (fun a E=>pld ?_)
   exact J77 _ (by omega) _ true _ _ E .of S H
  refine sq fun K20 hK20=>pl0 ?_
  have hb2:=S.ba 1
  refine plc E (.r 0 1<|.b 1 0 hb2<|.nil) (fun a E=>pld (hK20 _ _ (wp_block (rr E fun a E=>(E.ik 18 H (fun c22 E H=>?_) fun c22 E H=>?_)))))
  refine sq fun K23 hK23=>?_
  refine drawn 8 ⟨[5,7],[5,7],fun q=>q=b5⟩ mixed rfl (by kernel_rfl) (fun hst=>?_)
  replace S:=S.drew
  have hb2:=S.ba 1
  have ne24:¬ (b2=b5):=by intro h; exact S.ne (i:=1) (j:=0) rfl rfl (by decide) h
  refine mny 3 hst E (.r 0 1<|.b 1 1 hb2<|.r 2 1<|.bnX 3 2 2 hb2 ne24<|.r 4 1<|.nil) (fun a E=>?_)
  refine on1 5 E (.stx S [iv x.f0,.string x.f1,iv 0,iv 0,iv 0,iv 0,iv 0]) ?_
  rintro _ u25 a ⟨⟨rfl,hb5,S,hz⟩,hx⟩ E
  refine ⟨.c (hx.mono (by intro q h; subst h; simp)),?_⟩
  refine mny 1 hst E (.r 6 1 .nil) (fun a E=>?_)
  refine on1 7 E (.stx S [iv x.f0,.string x.f1,iv x.f2.f0,iv x.f2.f1,iv 0,iv 0,iv 0]) ?_
  rintro _ u26 a ⟨⟨rfl,hb5,S,hz⟩,hx⟩ E
  refine ⟨.c (hx.mono (by intro q h; subst h; simp)),?_⟩
  refine dn ?_
  refine hK23 _ _ (pl0 (plc E (.r 0 2 .nil) (fun a E=>E.fb 4 H (fun c27 E H=>?_) fun c27 E H=>?_)))
  replace E:=E.bt 27 c27
  refine plc E (.r 2 1<|.bn 3 2 2 (S.ba 1)<|.nil) (fun a E=>ple E (.lit (d:=qk.k) (e:=49) S [x.f2] (.cons rfl .nil)) ?_)
  rintro _ u28 a ⟨A29,c30,rfl,S,hg⟩ E
  exact zz H
  replace E:=E.bf 27 c27
  refine plc E (.r 2 7 .nil) (fun a E=>pld ?_)
  refine qCL ?_
  exact J68 _ (by omega) _ false x.f1 x.f2.f0 x.f2.f1 0 0 0 _ _ E .of S H
  refine rr E fun a E=>(E.ik 34 H (fun c33 E H=>?_) fun c33 E H=>?_)
  refine sq fun K34 hK34=>pl0 (plc E (.r 0 1<|.b 1 4 hb2<|.r 2 1<|.nil) (fun a E=>pls E S [iv x.f0,.string (⟨#[]⟩:ByteArray),iv 0,iv 0,iv x.f3,iv 0,iv 0] fun u35 hb5 S a E=>pld (hK34 _ _ (pl0 (plc E (.r 0 1<|.b 1 4 (S.ba 1)<|.nil) (fun a E=>?_))))))
  obtain ⟨t37,h38,H⟩:=bd H
  refine plq E S en127 (shelf_in.calls x.f3 0 1099511627776 _ _ _ S.own.sub h38) fun u36 S a E=>plc E (.r 3 1 .nil) (fun a E=>pld ?_)
  refine qCL ?_
  exact J68 _ (by omega) _ t37 (⟨#[]⟩:ByteArray) 0 0 x.f3 0 0 _ _ E .of S H
  refine rr E fun a E=>(E.ik 42 H (fun c40 E H=>?_) fun c40 E H=>?_)
  refine sq fun K41 hK41=>?_
  refine drawn 16 ⟨[9,11,13,15],[9,11,13,15],fun q=>q=b5⟩ mixed rfl (by kernel_rfl) (fun hst=>?_)
  replace S:=S.drew
  have hb2:=S.ba 1
  have ne42:¬ (b2=b5):=by intro h; exact S.ne (i:=1) (j:=0) rfl rfl (by decide) h
  have ne43:¬ (b2=b5):=by intro h; exact S.ne (i:=1) (j:=0) rfl rfl (by decide) h
  have ne44:¬ (b2=b5):=by intro h; exact S.ne (i:=1) (j:=0) rfl rfl (by decide) h
  refine mny 7 hst E (.r 0 1<|.b 1 1 hb2<|.r 2 1<|.bX 3 4 hb2 ne42<|.r 4 1<|.bX 5 5 hb2 ne43<|.r 6 1<|.bX 7 6 hb2 ne44<|.r 8 1<|.nil) (fun a E=>?_)
  refine on1 9 E (.stx S [iv x.f0,.string x.f1,iv 0,iv 0,iv 0,iv 0,iv 0]) ?_
  rintro _ u45 a ⟨⟨rfl,hb5,S,hz⟩,hx⟩ E
  refine ⟨.c (hx.mono (by intro q h; subst h; simp)),?_⟩
  refine mny 5 hst E (.r 10 1 .nil) (fun a E=>?_)
  refine on1 11 E (.stx S [iv x.f0,.string x.f1,iv 0,iv 0,iv x.f3,iv 0,iv 0]) ?_
  rintro _ u46 a ⟨⟨rfl,hb5,S,hz⟩,hx⟩ E
  refine ⟨.c (hx.mono (by intro q h; subst h; simp)),?_⟩
  refine mny 3 hst E (.r 12 1 .nil) (fun a E=>?_)
  refine on1 13 E (.stx S [iv x.f0,.string x.f1,iv 0,iv 0,iv x.f3,iv x.f4,iv 0]) ?_
  rintro _ u47 a ⟨⟨rfl,hb5,S,hz⟩,hx⟩ E
  refine ⟨.c (hx.mono (by intro q h; subst h; simp)),?_⟩
  refine mny 1 hst E (.r 14 1 .nil) (fun a E=>?_)
  refine on1 15 E (.stx S [iv x.f0,.string x.f1,iv 0,iv 0,iv x.f3,iv x.f4,iv x.f5]) ?_
  rintro _ u48 a ⟨⟨rfl,hb5,S,hz⟩,hx⟩ E
  refine ⟨.c (hx.mono (by intro q h; subst h; simp)),?_⟩
  refine dn ?_
  refine hK41 _ _ (pl0 (plc E (.r 0 2 .nil) (fun a E=>E.fb 4 H (fun c49 E H=>?_) fun c49 E H=>?_)))
  replace E:=E.bt 57 c49
  refine plc E (.r 2 1<|.b 3 6 (S.ba 1)<|.nil) (fun a E=>?_)
  obtain ⟨t51,h52,H⟩:=bd H
  refine plq E S en127 (shelf_in.calls x.f5 1 5 _ _ _ S.own.sub h52) fun u50 S a E=>plc E (.r 5 2 .nil) (fun a E=>pld ?_)
  refine qCL ?_
  exact J68 _ (by omega) _ t51 x.f1 0 0 x.f3 x.f4 x.f5 _ _ E .of S H
  replace E:=E.bf 57 c49
  refine plc E (.r 2 5 .nil) (fun a E=>pld ?_)
  refine qCL ?_
  exact J68 _ (by omega) _ false x.f1 0 0 x.f3 x.f4 x.f5 _ _ E .of S H
  refine rr E fun a E=>(E.ik 62 H (fun c54 E H=>?_) fun c54 E H=>?_)
  refine drawn 8 ⟨[5,7],[5,7],fun q=>q=b5⟩ mixed rfl (by kernel_rfl) (fun hst=>?_)
  replace S:=S.drew
  have hb2:=S.ba 1
  have ne55:¬ (b2=b5):=by intro h; exact S.ne (i:=1) (j:=0) rfl rfl (by decide) h
  refine mny 3 hst E (.r 0 1<|.b 1 1 hb2<|.r 2 1<|.bX 3 4 hb2 ne55<|.r 4 1<|.nil) (fun a E=>?_)
  refine on1 5 E (.stx S [iv x.f0,.string x.f1,iv 0,iv 0,iv 0,iv 0,iv 0]) ?_
  rintro _ u56 a ⟨⟨rfl,hb5,S,hz⟩,hx⟩ E
  refine ⟨.c (hx.mono (by intro q h; subst h; simp)),?_⟩
  refine mny 1 hst E (.r 6 1 .nil) (fun a E=>?_)
  refine on1 7 E (.stx S [iv x.f0,.string x.f1,iv 0,iv 0,iv x.f3,iv 0,iv 0]) ?_
  rintro _ u57 a ⟨⟨rfl,hb5,S,hz⟩,hx⟩ E
  refine ⟨.c (hx.mono (by intro q h; subst h; simp)),?_⟩
  refine dn ?_
  refine qCL ?_
  exact J68 _ (by omega) _ y13 x.f1 0 0 x.f3 0 0 _ _ E .of S H
  refine pl0 (plc E (.r 0 1 .nil) (fun a E=>pld ?_))
  refine qCL ?_
  exact J68 _ (by omega) _ false (⟨#[]⟩:ByteArray) 0 0 0 0 0 _ _ E .of S H
 refine pl0 ?_
 have hb2:=S.ba 1
 refine plc E (.r 0 1<|.b 1 0 hb2<|.r 2 2<|.nil) (fun a E=>E.fk 11 H (fun c9 E H=>?_) fun c9 E H=>?_)
 refine plc E (.r 4 5 .nil) (fun a E=>pld ?_)
 exact J17 _ (by omega) _ true _ _ E .of S H
 refine plc E (.r 4 1<|.b 5 1 hb2<|.nil) (fun a E=>?_)
 obtain ⟨t11,h12,H⟩:=bd H
 refine plq E S en125 (shelf_series.calls k x.f1 _ _ _ S.own.sub h12) fun u10 S a E=>plc E (.r 7 2 .nil) (fun a E=>pld ?_)
 exact J17 _ (by omega) _ t11 _ _ E .of S H
mutual
def client_Check.j18:Nat→qc→Bool→Option Int
 | 0,_,_=>none
 | k+1,x,y17=>if y17=true then (some 1) else (client_Check.l28 k x 0)
def client_Check.l28:Nat→qc→Int→Option Int
 | 0,_,_=>none
 | k+1,x,x27=>if x27<(x.f1.length:Int) then (if 0≤x27∧x27<(x.f1.length:Int) then ((client_in.f (nth 0 x.f1 x27) 1001 1999).bind fun t44=>(if t44=true then (if x27>0 then (if 0≤(w64 (x27 - 1))∧(w64 (x27 - 1))<(x.f1.length:Int) then (client_Check.j53 k x x27 (decide ((nth 0 x.f1 x27)≤(nth 0 x.f1 (w64 (x27 - 1)))))) else (none)) else (client_Check.j53 k x x27 false)) else (client_Check.j53 k x x27 true))) else (none)) else ((client_in.f x.f3 0 2147483647).bind fun t63=>(if t63=true then ((client_in.f x.f7 0 2147483647).bind fun t67=>(if t67=true then ((client_in.f x.f8 0 x.f3).bind fun t71=>(client_Check.j74 k x (!t71))) else (client_Check.j74 k x true))) else (client_Check.j74 k x true)))
def client_Check.j53:Nat→qc→Int→Bool→Option Int
 | 0,_,_,_=>none
 | k+1,x,x27,y52=>if y52=true then (some 1) else (client_Check.l28 k x (w64 (x27+1)))
def client_Check.j74:Nat→qc→Bool→Option Int
 | 0,_,_=>none
 | k+1,x,y73=>if y73=true then (some 1) else (if x.f4=true then (if x.f3=x.f8 then (client_Check.j93 k true) else ((client_in.f x.f5 0 (w64 (x.f2.f0.f3 - 1))).bind fun t86=>(if t86=true then ((shelf_CheckOp.f k x.f6).bind fun t90=>(client_Check.j93 k (!(t90 == 0)))) else (client_Check.j93 k true)))) else (client_Check.j93 k false))
def client_Check.j93:Nat→Bool→Option Int
 | 0,_=>none
 | k+1,y92=>if y92=true then (some 1) else (some 0)
end
theorem client_Check.j18_s k x y17:type_of% (client_Check.j18.eq_2 x y17 k):=client_Check.j18.eq_2 x y17 k
theorem client_Check.l28_s k x x27:type_of% (client_Check.l28.eq_2 x x27 k):=client_Check.l28.eq_2 x x27 k
theorem client_Check.j53_s k x x27 y52:type_of% (client_Check.j53.eq_2 x x27 y52 k):=client_Check.j53.eq_2 x x27 y52 k
theorem client_Check.j74_s k x y73:type_of% (client_Check.j74.eq_2 x y73 k):=client_Check.j74.eq_2 x y73 k
theorem client_Check.j93_s k y92:type_of% (client_Check.j93.eq_2 y92 k):=client_Check.j93.eq_2 y92 k
def client_Check.f(k:Nat)(x:qc):Option Int:=(client_in.f x.f0 2001 2999).bind fun t7=>(if t7=true then ((client_in.f (x.f1.length:Int) 1 5).bind fun t11=>(if t11=true then ((qAv.f k x.f2).bind fun t15=>(client_Check.j18 k x (!(t15 == 0)))) else (client_Check.j18 k x true))) else (client_Check.j18 k x true))
def client_Check.Post(W F:World)(r:Int)(v:Value)(w':World):Prop:=∃(F':World),v=iv r∧Sm W F w' F' []
theorem client_Check.calls(k:Nat)(x:qc)(A0_1:OA)(c0_1:Nat)(A0_6:OA)(c0_6:Nat)(A0_7:OA)(c0_7:Nat)(A0_8:OA)(c0_8:Nat)(A0_9:OA)(c0_9:Nat)(r:Int)(W F:World)(hown:Sub F W)(g0_1:Rd ki F A0_1 c0_1 x.f1)(g0_6:Rd qA.k F A0_6 c0_6 x.f2.f0.f4)(g0_7:Rd qI.k F A0_7 c0_7 x.f2.f0.f5)(g0_8:Rd qC.k F A0_8 c0_8 x.f2.f0.f6)(g0_9:Rd qE.k F A0_9 c0_9 x.f2.f1)(H:client_Check.f k x=some r):
    Cr 50 #[.agg #[iv x.f0,.slice A0_1 x.f1.length c0_1,iv x.f2.f0.f0,iv x.f2.f0.f1,iv x.f2.f0.f2,iv x.f2.f0.f3,.slice A0_6 x.f2.f0.f4.length c0_6,.slice A0_7 x.f2.f0.f5.length c0_7,.slice A0_8 x.f2.f0.f6.length c0_8,.slice A0_9 x.f2.f1.length c0_9,iv x.f3,.bool x.f4,iv x.f5,iv x.f6.f0,.string x.f6.f1,iv x.f6.f2.f0,iv x.f6.f2.f1,iv x.f6.f3,iv x.f6.f4,iv x.f6.f5,iv x.f7,iv x.f8,iv x.f9.f0,.bool x.f9.f1,iv x.f9.f2]] W (client_Check.Post W F r):=by
 have S:=sT hown
 unfold client_Check.f at H
 refine ent 92 rfl rfl rfl (fun a E=>?_)
 refine sq fun K1 hK1=>pl0 (plx (t:=55) E S [iv x.f0,.slice A0_1 x.f1.length c0_1,iv x.f2.f0.f0,iv x.f2.f0.f1,iv x.f2.f0.f2,iv x.f2.f0.f3,.slice A0_6 x.f2.f0.f4.length c0_6,.slice A0_7 x.f2.f0.f5.length c0_7,.slice A0_8 x.f2.f0.f6.length c0_8,.slice A0_9 x.f2.f1.length c0_9,iv x.f3,.bool x.f4,iv x.f5,iv x.f6.f0,.string x.f6.f1,iv x.f6.f2.f0,iv x.f6.f2.f1,iv x.f6.f3,iv x.f6.f4,iv x.f6.f5,iv x.f7,iv x.f8,iv x.f9.f0,.bool x.f9.f1,iv x.f9.f2] fun b2 u3 hb2 S a E=>plc E (.r 1 1 .nil) (fun a E=>pld (hK1 _ _ (sq fun K4 hK4=>sq fun K5 hK5=>?_))))
 have J21:∀ kq19,kq19≤k→∀(G:NV)(y17:Bool)(a:Act)(w':World),Env 92 G a→At G [(1,.pointer (pb b2)),(21,.bool y17)]→Sm W F w' F [box b2 #[iv x.f0,.slice A0_1 x.f1.length c0_1,iv x.f2.f0.f0,iv x.f2.f0.f1,iv x.f2.f0.f2,iv x.f2.f0.f3,.slice A0_6 x.f2.f0.f4.length c0_6,.slice A0_7 x.f2.f0.f5.length c0_7,.slice A0_8 x.f2.f0.f6.length c0_8,.slice A0_9 x.f2.f1.length c0_9,iv x.f3,.bool x.f4,iv x.f5,iv x.f6.f0,.string x.f6.f1,iv x.f6.f2.f0,iv x.f6.f2.f1,iv x.f6.f3,iv x.f6.f4,iv x.f6.f5,iv x.f7,iv x.f8,iv x.f9.f0,.bool x.f9.f1,iv x.f9.f2] 55]→client_Check.j18 kq19 x y17=some r→K5 a w':=by
  intro kq19 hkq G y17 a u22 E A S H
  obtain _ | k20:=kq19
  exact zz H
  rw [client_Check.j18_s]at H
  obtain ⟨J,E⟩:=E.at A
  refine hK5 _ _ (E.ib 21 H (fun c23 E H=>?_) fun c23 E H=>?_)
  refine rr E fun a E=>(wp_ret (qCJ ?_))
  replace S:=S.tail
  obtain rfl:=si H
  exact rt1 E ⟨_,rfl,_,rfl,S⟩
  refine wp_skip (hK4 _ _ (sq fun K25 hK25=>sq fun K26 hK26=>pl0 ?_))
  have hb2:=S.ba 0
  refine plc E (.r 0 1<|.b 1 1 hb2<|.r 2 2<|.nil) (fun a E=>pld (hK26 _ _ (wp_block ?_)))
  refine wp_loop_ghost (fun kq29 a w'=>∃(G:NV)(x27:Int),kq29≤k20∧Env 92 G a∧At G [(1,.pointer (pb b2)),(23,.slice A0_1 x.f1.length c0_1),(24,iv (x.f1.length:Int)),(25,iv x27)]∧Sm W F w' F [box b2 #[iv x.f0,.slice A0_1 x.f1.length c0_1,iv x.f2.f0.f0,iv x.f2.f0.f1,iv x.f2.f0.f2,iv x.f2.f0.f3,.slice A0_6 x.f2.f0.f4.length c0_6,.slice A0_7 x.f2.f0.f5.length c0_7,.slice A0_8 x.f2.f0.f6.length c0_8,.slice A0_9 x.f2.f1.length c0_9,iv x.f3,.bool x.f4,iv x.f5,iv x.f6.f0,.string x.f6.f1,iv x.f6.f2.f0,iv x.f6.f2.f1,iv x.f6.f3,iv x.f6.f4,iv x.f6.f5,iv x.f7,iv x.f8,iv x.f9.f0,.bool x.f9.f1,iv x.f9.f2] 55]∧client_Check.l28 kq29 x x27=some r) k20 ⟨_,0,Nat.le_refl _,E,.of,S,H⟩ ?_
  rintro kq29 a u31 ⟨G,x27,hkq,E,A,S,H⟩
  obtain _ | k30:=kq29
  exact zz H
  rw [client_Check.l28_s]at H
  obtain ⟨J,E⟩:=E.at A
  refine rr E fun a E=>(sq fun K33 hK33=>E.ik 26 H (fun c34 E H=>?_) fun c34 E H=>?_)
  refine wp_skip (hK33 _ _ (sq fun K35 hK35=>wp_block (sq fun K36 hK36=>pl0 ?_)))
  obtain ⟨c37,H⟩:=gd H
  have hE_:=E
  obtain ⟨ad38,rfl⟩:=g0_1.addr c37.1 c37.2
  replace E:=hE_
  obtain ⟨cs40,rfl,hc41⟩:=g0_1.el 0 x27 c37.1 c37.2
  refine plc E (.r 0 1<|.x 1 c37<|.c 2 (S.fc hc41 0)<|.r 3 2<|.nil) (fun a E=>pld (hK36 _ _ (sq fun K42 hK42=>?_)))
  have J56:∀ kq54,kq54≤k30→∀(G:NV)(y52:Bool)(a:Act)(w':World),Env 92 G a→At G [(1,.pointer (pb b2)),(23,.slice (some ad38) x.f1.length c0_1),(24,iv (x.f1.length:Int)),(25,iv x27),(46,.bool y52)]→Sm W F w' F [box b2 #[iv x.f0,.slice (some ad38) x.f1.length c0_1,iv x.f2.f0.f0,iv x.f2.f0.f1,iv x.f2.f0.f2,iv x.f2.f0.f3,.slice A0_6 x.f2.f0.f4.length c0_6,.slice A0_7 x.f2.f0.f5.length c0_7,.slice A0_8 x.f2.f0.f6.length c0_8,.slice A0_9 x.f2.f1.length c0_9,iv x.f3,.bool x.f4,iv x.f5,iv x.f6.f0,.string x.f6.f1,iv x.f6.f2.f0,iv x.f6.f2.f1,iv x.f6.f3,iv x.f6.f4,iv x.f6.f5,iv x.f7,iv x.f8,iv x.f9.f0,.bool x.f9.f1,iv x.f9.f2] 55]→client_Check.j53 kq54 x x27 y52=some r→K42 a w':=by
   intro kq54 hkq G y52 a u57 E A S H
   obtain _ | k55:=kq54
   exact zz H
   rw [client_Check.j53_s]at H
   obtain ⟨J,E⟩:=E.at A
   refine hK42 _ _ (E.ib 46 H (fun c58 E H=>?_) fun c58 E H=>?_)
   refine rr E fun a E=>(wp_ret (qCK (qCJ (qCJ (qCK (qCJ ?_))))))
   replace S:=S.tail
   obtain rfl:=si H
   exact rt1 E ⟨_,rfl,_,rfl,S⟩
   refine wp_skip ?_
   refine qCL ?_
   refine hK35 _ _ (pl0 (plc E (.r 0 2 .nil) (fun a E=>pld ?_)))
   exact qCM ⟨k55,by omega,_,(w64 (x27+1)),by omega,E,.of,S,H⟩
  refine pl0 (plc E (.r 0 1 .nil) (fun a E=>?_))
  obtain ⟨t44,h45,H⟩:=bd H
  refine plq E S en63 (client_in.calls (nth 0 x.f1 x27) 1001 1999 _ _ _ S.own.sub h45) fun u43 S a E=>plc E (.r 2 2 .nil) (fun a E=>E.fbn 33 H (fun c46 E H=>?_) fun c46 E H=>?_)
  refine plc E (.r 4 3 .nil) (fun a E=>E.fk 36 H (fun c47 E H=>?_) fun c47 E H=>?_)
  have hb2:=S.ba 0
  obtain ⟨c48,H⟩:=gd H
  obtain ⟨cs50,rfl,hc51⟩:=g0_1.el 0 (w64 (x27 - 1)) c48.1 c48.2
  refine plc E (.r 7 2<|.b 9 1 hb2<|.r 10 2<|.x 12 c48<|.c 13 (S.fc hc51 0)<|.r 14 3<|.nil) (fun a E=>pld ?_)
  exact J56 _ (by omega) _ (decide ((nth 0 x.f1 x27)≤(nth 0 x.f1 (w64 (x27 - 1))))) _ _ E .of S H
  refine plc E (.r 7 10 .nil) (fun a E=>pld ?_)
  exact J56 _ (by omega) _ false _ _ E .of S H
  refine plc E (.r 4 13 .nil) (fun a E=>pld ?_)
  exact J56 _ (by omega) _ true _ _ E .of S H
  refine wp_exit ?_
  refine hK25 _ _ (sq fun K60 hK60=>sq fun K61 hK61=>?_)
  have J77:∀ kq75,kq75≤k30→∀(G:NV)(y73:Bool)(a:Act)(w':World),Env 92 G a→At G [(1,.pointer (pb b2)),(65,.bool y73)]→Sm W F w' F [box b2 #[iv x.f0,.slice A0_1 x.f1.length c0_1,iv x.f2.f0.f0,iv x.f2.f0.f1,iv x.f2.f0.f2,iv x.f2.f0.f3,.slice A0_6 x.f2.f0.f4.length c0_6,.slice A0_7 x.f2.f0.f5.length c0_7,.slice A0_8 x.f2.f0.f6.length c0_8,.slice A0_9 x.f2.f1.length c0_9,iv x.f3,.bool x.f4,iv x.f5,iv x.f6.f0,.string x.f6.f1,iv x.f6.f2.f0,iv x.f6.f2.f1,iv x.f6.f3,iv x.f6.f4,iv x.f6.f5,iv x.f7,iv x.f8,iv x.f9.f0,.bool x.f9.f1,iv x.f9.f2] 55]→client_Check.j74 kq75 x y73=some r→K61 a w':=by
   intro kq75 hkq G y73 a u78 E A S H
   obtain _ | k76:=kq75
   exact zz H
   rw [client_Check.j74_s]at H
   obtain ⟨J,E⟩:=E.at A
   refine hK61 _ _ (E.ib 65 H (fun c79 E H=>?_) fun c79 E H=>?_)
   refine rr E fun a E=>(wp_ret (qCJ ?_))
   replace S:=S.tail
   obtain rfl:=si H
   exact rt1 E ⟨_,rfl,_,rfl,S⟩
   refine wp_skip (hK60 _ _ (sq fun K81 hK81=>sq fun K82 hK82=>?_))
   have J96:∀ kq94,kq94≤k76→∀(G:NV)(y92:Bool)(a:Act)(w':World),Env 92 G a→At G [(91,.bool y92)]→Sm W F w' F [box b2 #[iv x.f0,.slice A0_1 x.f1.length c0_1,iv x.f2.f0.f0,iv x.f2.f0.f1,iv x.f2.f0.f2,iv x.f2.f0.f3,.slice A0_6 x.f2.f0.f4.length c0_6,.slice A0_7 x.f2.f0.f5.length c0_7,.slice A0_8 x.f2.f0.f6.length c0_8,.slice A0_9 x.f2.f1.length c0_9,iv x.f3,.bool x.f4,iv x.f5,iv x.f6.f0,.string x.f6.f1,iv x.f6.f2.f0,iv x.f6.f2.f1,iv x.f6.f3,iv x.f6.f4,iv x.f6.f5,iv x.f7,iv x.f8,iv x.f9.f0,.bool x.f9.f1,iv x.f9.f2] 55]→client_Check.j93 kq94 y92=some r→K82 a w':=by
    intro kq94 hkq G y92 a u97 E A S H
    obtain _ | k95:=kq94
    exact zz H
    rw [client_Check.j93_s]at H
    obtain ⟨J,E⟩:=E.at A
    refine hK82 _ _ (E.ib 91 H (fun c98 E H=>?_) fun c98 E H=>?_)
    refine rr E fun a E=>(wp_ret (qCJ ?_))
    replace S:=S.tail
    obtain rfl:=si H
    exact rt1 E ⟨_,rfl,_,rfl,S⟩
    refine wp_skip (hK81 _ _ (rr E fun a E=>(wp_ret ?_)))
    replace S:=S.tail
    obtain rfl:=si H
    exact rt1 E ⟨_,rfl,_,rfl,S⟩
   refine pl0 ?_
   have hb2:=S.ba 0
   refine plc E (.r 0 1<|.b 1 11 hb2<|.r 2 1<|.nil) (fun a E=>E.fb 68 H (fun c83 E H=>?_) fun c83 E H=>?_)
   refine plc E (.r 3 1<|.b 4 10 hb2<|.r 5 1<|.b 6 21 hb2<|.r 7 2<|.nil) (fun a E=>E.fk 74 H (fun c84 E H=>?_) fun c84 E H=>?_)
   refine plc E (.r 9 17 .nil) (fun a E=>pld ?_)
   exact J96 _ (by omega) _ true _ _ E .of S H
   refine plc E (.r 9 1<|.b 10 12 hb2<|.r 11 3<|.b 14 5 hb2<|.r 15 1<|.nil) (fun a E=>?_)
   obtain ⟨t86,h87,H⟩:=bd H
   refine plq E S en63 (client_in.calls x.f5 0 (w64 (x.f2.f0.f3 - 1)) _ _ _ S.own.sub h87) fun u85 S a E=>plc E (.r 17 3 .nil) (fun a E=>E.fbn 85 H (fun c88 E H=>?_) fun c88 E H=>?_)
   refine plc E (.r 20 1<|.bn 21 13 7 (S.ba 0)<|.nil) (fun a E=>?_)
   obtain ⟨t90,h91,H⟩:=bd H
   refine plq E S en62 (shelf_CheckOp.calls k76 x.f6 _ _ _ S.own.sub h91) fun u89 S a E=>plc E (.r 23 3 .nil) (fun a E=>pld ?_)
   exact J96 _ (by omega) _ (!(t90 == 0)) _ _ E .of S H
   refine plc E (.r 20 6 .nil) (fun a E=>pld ?_)
   exact J96 _ (by omega) _ true _ _ E .of S H
   refine plc E (.r 3 23 .nil) (fun a E=>pld ?_)
   exact J96 _ (by omega) _ false _ _ E .of S H
  refine pl0 ?_
  have hb2:=S.ba 0
  refine plc E (.r 0 1<|.b 1 10 hb2<|.nil) (fun a E=>?_)
  obtain ⟨t63,h64,H⟩:=bd H
  refine plq E S en63 (client_in.calls x.f3 0 2147483647 _ _ _ S.own.sub h64) fun u62 S a E=>plc E (.r 3 2 .nil) (fun a E=>E.fbn 52 H (fun c65 E H=>?_) fun c65 E H=>?_)
  have hb2:=S.ba 0
  refine plc E (.r 5 1<|.b 6 20 hb2<|.nil) (fun a E=>?_)
  obtain ⟨t67,h68,H⟩:=bd H
  refine plq E S en63 (client_in.calls x.f7 0 2147483647 _ _ _ S.own.sub h68) fun u66 S a E=>plc E (.r 8 3 .nil) (fun a E=>E.fbn 58 H (fun c69 E H=>?_) fun c69 E H=>?_)
  have hb2:=S.ba 0
  refine plc E (.r 11 1<|.b 12 21 hb2<|.r 13 1<|.b 14 10 hb2<|.nil) (fun a E=>?_)
  obtain ⟨t71,h72,H⟩:=bd H
  refine plq E S en63 (client_in.calls x.f8 0 x.f3 _ _ _ S.own.sub h72) fun u70 S a E=>plc E (.r 16 2 .nil) (fun a E=>pld ?_)
  exact J77 _ (by omega) _ (!t71) _ _ E .of S H
  refine plc E (.r 11 7 .nil) (fun a E=>pld ?_)
  exact J77 _ (by omega) _ true _ _ E .of S H
  refine plc E (.r 5 13 .nil) (fun a E=>pld ?_)
  exact J77 _ (by omega) _ true _ _ E .of S H
 refine pl0 (plc E (.r 0 1<|.b 1 0 hb2<|.nil) (fun a E=>?_))
 obtain ⟨t7,h8,H⟩:=bd H
 refine plq E S en63 (client_in.calls x.f0 2001 2999 _ _ _ S.own.sub h8) fun u6 S a E=>plc E (.r 3 2 .nil) (fun a E=>E.fbn 9 H (fun c9 E H=>?_) fun c9 E H=>?_)
 have hb2:=S.ba 0
 refine plc E (.r 5 1<|.b 6 1 hb2<|.r 7 1<|.nil) (fun a E=>?_)
 obtain ⟨t11,h12,H⟩:=bd H
 refine plq E S en63 (client_in.calls (x.f1.length:Int) 1 5 _ _ _ S.own.sub h12) fun u10 S a E=>plc E (.r 9 3 .nil) (fun a E=>E.fbn 16 H (fun c13 E H=>?_) fun c13 E H=>?_)
 refine plc E (.r 12 1<|.bn 13 2 8 (S.ba 0)<|.nil) (fun a E=>?_)
 obtain ⟨t15,h16,H⟩:=bd H
 refine plq E S en113 (qAv.calls k x.f2 _ _ _ _ _ _ _ _ _ _ _ S.own.sub g0_6 g0_7 g0_8 g0_9 h16) fun u14 S a E=>plc E (.r 15 2 .nil) (fun a E=>pld ?_)
 exact J21 _ (by omega) _ (!(t15 == 0)) _ _ E .of S H
 refine plc E (.r 12 5 .nil) (fun a E=>pld ?_)
 exact J21 _ (by omega) _ true _ _ E .of S H
 refine plc E (.r 5 12 .nil) (fun a E=>pld ?_)
 exact J21 _ (by omega) _ true _ _ E .of S H
mutual
def qAx.j34:Nat→qF × Int→Bool→Option qF
 | 0,_,_=>none
 | k+1,t10,y33=>if y33=true then (qAx.j42 k t10 (w64 (t10.1.f0+1))) else (qAx.j42 k t10 t10.1.f0)
def qAx.j42:Nat→qF × Int→Int→Option qF
 | 0,_,_=>none
 | k+1,t10,x41=>some (⟨x41,t10.1.f1,t10.1.f2,t10.1.f3,t10.1.f4,t10.1.f5,t10.1.f6⟩:qF)
end
theorem qAx.j34_s k t10 y33:type_of% (qAx.j34.eq_2 t10 y33 k):=qAx.j34.eq_2 t10 y33 k
theorem qAx.j42_s k t10 x41:type_of% (qAx.j42.eq_2 t10 x41 k):=qAx.j42.eq_2 t10 x41 k
def qAx.f(k:Nat)(x:qF)(y:qE):Option qF:=(qBB.f k x y).bind fun t10=>(if t10.2=0 then (qAx.j34 k t10 false) else (if t10.1.f0<2147483647 then ((qt.f k x).bind fun t31=>(qAx.j34 k t10 (t31 == 0))) else (qAx.j34 k t10 false)))
def qAx.Post(W F:World)(r:qF)(v:Value)(w':World):Prop:=∃(F':World)(RA0_4:OA)(rc0_4:Nat)(RA0_5:OA)(rc0_5:Nat)(RA0_6:OA)(rc0_6:Nat),v = .agg #[iv r.f0,iv r.f1,iv r.f2,iv r.f3,.slice RA0_4 r.f4.length rc0_4,.slice RA0_5 r.f5.length rc0_5,.slice RA0_6 r.f6.length rc0_6]∧Sm W F w' F' [row qC.k 87 (.slice RA0_6 r.f6.length rc0_6) r.f6]∧Rd qA.k F' RA0_4 rc0_4 r.f4∧Rd qI.k F' RA0_5 rc0_5 r.f5
theorem qAx.calls(k:Nat)(x:qF)(y:qE)(A0_4:OA)(c0_4:Nat)(A0_5:OA)(c0_5:Nat)(A0_6:OA)(c0_6:Nat)(A1_6:OA)(c1_6:Nat)(r:qF)(W F:World)(hown:Sub F W)(g0_4:Rd qA.k F A0_4 c0_4 x.f4)(g0_5:Rd qI.k F A0_5 c0_5 x.f5)(g0_6:Rd qC.k F A0_6 c0_6 x.f6)(g1_6:Rd ki F A1_6 c1_6 y.f6)(H:qAx.f k x y=some r):
    Cr 111 #[.agg #[iv x.f0,iv x.f1,iv x.f2,iv x.f3,.slice A0_4 x.f4.length c0_4,.slice A0_5 x.f5.length c0_5,.slice A0_6 x.f6.length c0_6],.agg #[iv y.f0,iv y.f1,iv y.f2,iv y.f3,iv y.f4,iv y.f5,.slice A1_6 y.f6.length c1_6]] W (qAx.Post W F r):=by
 have S:=sT hown
 unfold qAx.f at H
 refine ent 30 rfl rfl rfl (fun a E=>?_)
 refine sq fun K1 hK1=>pl0 (plx (t:=27) E S [iv x.f0,iv x.f1,iv x.f2,iv x.f3,.slice A0_4 x.f4.length c0_4,.slice A0_5 x.f5.length c0_5,.slice A0_6 x.f6.length c0_6] fun b2 u3 hb2 S a E=>plx (t:=96) E S [iv y.f0,iv y.f1,iv y.f2,iv y.f3,iv y.f4,iv y.f5,.slice A1_6 y.f6.length c1_6] fun b4 u5 hb4 S a E=>pla (t:=27) E S [iv 0,iv 0,iv 0,iv 0,.slice none 0 0,.slice none 0 0,.slice none 0 0] fun b6 u7 hb6 S a E=>pld (hK1 _ _ (sq fun K8 hK8=>pl0 ?_)))
 have hb2:=S.ba 2
 refine plc E (.bn 0 0 7 hb2<|.bn 1 0 7 (S.ba 1)<|.nil) (fun a E=>?_)
 obtain ⟨t10,h11,H⟩:=bd H
 refine ple E (.cl en87 (qBB.calls k x y _ _ _ _ _ _ _ _ _ _ _ S.own.sub g0_4 g0_5 g0_6 g1_6 h11)) ?_
 rintro _ u9 a ⟨F12,A13,c14,A16,c17,A19,c20,rfl,hC,g15,g18⟩ E
 have hs:=hC.sub
 replace S:=S.called (X:=[]) hC
 replace g0_4:=g0_4.mono hs
 replace g0_5:=g0_5.mono hs
 replace g0_6:=g0_6.mono hs
 replace g1_6:=g1_6.mono hs
 refine plc E (.r 3 3 .nil) (fun a E=>pla (t:=27) E S [iv 0,iv 0,iv 0,iv 0,.slice none 0 0,.slice none 0 0,.slice none 0 0] fun b23 u24 hb23 S a E=>pls E S [iv t10.1.f0,iv t10.1.f1,iv t10.1.f2,iv t10.1.f3,.slice A13 t10.1.f4.length c14,.slice A16 t10.1.f5.length c17,.slice A19 t10.1.f6.length c20] fun u25 hb23 S a E=>plc E (.r 8 1 .nil) (fun a E=>pld (hK8 _ _ (sq fun K26 hK26=>?_))))
 have J45:∀ kq43,kq43≤k→∀(G:NV)(x41:Int)(a:Act)(w':World),Env 30 G a→At G [(4,.pointer (pb b6)),(5,.pointer (pb b23))]→Sm W F w' F12 [box b23 #[iv x41,iv t10.1.f1,iv t10.1.f2,iv t10.1.f3,.slice A13 t10.1.f4.length c14,.slice A16 t10.1.f5.length c17,.slice A19 t10.1.f6.length c20] 27,box b6 #[iv 0,iv 0,iv 0,iv 0,.slice none 0 0,.slice none 0 0,.slice none 0 0] 27,box b4 #[iv y.f0,iv y.f1,iv y.f2,iv y.f3,iv y.f4,iv y.f5,.slice A1_6 y.f6.length c1_6] 96,box b2 #[iv x.f0,iv x.f1,iv x.f2,iv x.f3,.slice A0_4 x.f4.length c0_4,.slice A0_5 x.f5.length c0_5,.slice A0_6 x.f6.length c0_6] 27,row qC.k 87 (.slice A19 t10.1.f6.length c20) t10.1.f6]→qAx.j42 kq43 t10 x41=some r→K26 a w':=by
  intro kq43 hkq G x41 a u46 E A S H
  obtain _ | k44:=kq43
  exact zz H
  rw [qAx.j42_s]at H
  obtain ⟨J,E⟩:=E.at A
  refine hK26 _ _ (sq fun K47 hK47=>pl0 (plc E (.bn 0 0 7 (S.ba 0) .nil) (fun a E=>?_)))
  replace S:=S.front 1 rfl
  refine pls E S [iv x41,iv t10.1.f1,iv t10.1.f2,iv t10.1.f3,.slice A13 t10.1.f4.length c14,.slice A16 t10.1.f5.length c17,.slice A19 t10.1.f6.length c20] fun u48 hb6 S a E=>pld (hK47 _ _ (wp_ret ?_))
  replace S:=S.pm [] 4
  obtain rfl:=si H
  exact ret1 E rfl (.cell (by kernel_rfl) (qCW [iv x41,iv t10.1.f1,iv t10.1.f2,iv t10.1.f3,.slice A13 t10.1.f4.length c14,.slice A16 t10.1.f5.length c17,.slice A19 t10.1.f6.length c20] ag27 sz27 hb6 rfl) .nil) ⟨_,rfl,_,_,_,_,_,_,_,rfl,S,g15,g18⟩
 refine sq fun K27 hK27=>?_
 have J37:∀ kq35,kq35≤k→∀(G:NV)(y33:Bool)(a:Act)(w':World),Env 30 G a→At G [(4,.pointer (pb b6)),(5,.pointer (pb b23)),(24,.bool y33)]→Sm W F w' F12 [box b23 #[iv t10.1.f0,iv t10.1.f1,iv t10.1.f2,iv t10.1.f3,.slice A13 t10.1.f4.length c14,.slice A16 t10.1.f5.length c17,.slice A19 t10.1.f6.length c20] 27,box b6 #[iv 0,iv 0,iv 0,iv 0,.slice none 0 0,.slice none 0 0,.slice none 0 0] 27,box b4 #[iv y.f0,iv y.f1,iv y.f2,iv y.f3,iv y.f4,iv y.f5,.slice A1_6 y.f6.length c1_6] 96,box b2 #[iv x.f0,iv x.f1,iv x.f2,iv x.f3,.slice A0_4 x.f4.length c0_4,.slice A0_5 x.f5.length c0_5,.slice A0_6 x.f6.length c0_6] 27,row qC.k 87 (.slice A19 t10.1.f6.length c20) t10.1.f6]→qAx.j34 kq35 t10 y33=some r→K27 a w':=by
  intro kq35 hkq G y33 a u38 E A S H
  obtain _ | k36:=kq35
  exact zz H
  rw [qAx.j34_s]at H
  obtain ⟨J,E⟩:=E.at A
  refine hK27 _ _ (E.ib 24 H (fun c39 E H=>?_) fun c39 E H=>?_)
  refine pl0 (plc E (.r 0 1<|.b 1 0 (S.ba 0)<|.r 2 2<|.nil) (fun a E=>pls E S [iv (w64 (t10.1.f0+1)),iv t10.1.f1,iv t10.1.f2,iv t10.1.f3,.slice A13 t10.1.f4.length c14,.slice A16 t10.1.f5.length c17,.slice A19 t10.1.f6.length c20] fun u40 hb23 S a E=>pld ?_))
  exact J45 _ (by omega) _ (w64 (t10.1.f0+1)) _ _ E .of S H
  refine wp_skip ?_
  exact J45 _ (by omega) _ t10.1.f0 _ _ E .of S H
 refine pl0 (plc E (.r 0 3 .nil) (fun a E=>E.fkn 15 H (fun c28 E H=>?_) fun c28 E H=>?_))
 refine plc E (.r 3 9 .nil) (fun a E=>pld ?_)
 replace S:=S.pm [0,2,3,4,1] 5
 exact J37 _ (by omega) _ false _ _ E .of S H
 refine plc E (.r 3 1<|.b 4 0 hb23<|.r 5 3<|.nil) (fun a E=>E.fk 20 H (fun c29 E H=>?_) fun c29 E H=>?_)
 refine plc E (.bn 8 0 7 (S.ba 4) .nil) (fun a E=>?_)
 obtain ⟨t31,h32,H⟩:=bd H
 refine plq E S en37 (qt.calls k x _ _ _ _ _ _ _ _ _ S.own.sub g0_4 g0_5 g0_6 h32) fun u30 S a E=>plc E (.r 10 2 .nil) (fun a E=>pld ?_)
 replace S:=S.pm [0,2,3,4,1] 5
 exact J37 _ (by omega) _ (t31 == 0) _ _ E .of S H
 refine plc E (.r 8 4 .nil) (fun a E=>pld ?_)
 replace S:=S.pm [0,2,3,4,1] 5
 exact J37 _ (by omega) _ false _ _ E .of S H
def qBK.l44:Nat→List qE→Int→Int→Int→Int→Int→List qA→List qI→List qC→Option qF
 | 0,_,_,_,_,_,_,_,_,_=>none
 | k+1,y,x27,x28,x29,x30,x31,l34,l38,l42=>if x27<(y.length:Int) then (if 0≤x27∧x27<(y.length:Int) then ((qAx.f k (⟨x28,x29,x30,x31,l34,l38,l42⟩:qF) (nth qE.z y x27)).bind fun t67=>(qBK.l44 k y (w64 (x27+1)) t67.f0 t67.f1 t67.f2 t67.f3 t67.f4 t67.f5 t67.f6)) else (none)) else ((qt.f k (⟨x28,x29,x30,x31,l34,l38,l42⟩:qF)).bind fun t88=>(if t88=0 then (some (⟨x28,x29,x30,x31,l34,l38,l42⟩:qF)) else (some (⟨0,0,0,0,[],[],[]⟩:qF))))
theorem qBK.l44_s k y x27 x28 x29 x30 x31 l34 l38 l42:type_of% (qBK.l44.eq_2 y x27 x28 x29 x30 x31 l34 l38 l42 k):=qBK.l44.eq_2 y x27 x28 x29 x30 x31 l34 l38 l42 k
def qBK.f(k:Nat)(x:qF)(y:List qE):Option qF:=(qAo.f k x).bind fun t8=>(qBK.l44 k y 0 t8.f0 t8.f1 t8.f2 t8.f3 t8.f4 t8.f5 t8.f6)
def qBK.Post(W F:World)(r:qF)(v:Value)(w':World):Prop:=∃(F':World)(RA0_4:OA)(rc0_4:Nat)(RA0_5:OA)(rc0_5:Nat)(RA0_6:OA)(rc0_6:Nat),v = .agg #[iv r.f0,iv r.f1,iv r.f2,iv r.f3,.slice RA0_4 r.f4.length rc0_4,.slice RA0_5 r.f5.length rc0_5,.slice RA0_6 r.f6.length rc0_6]∧Sm W F w' F' [row qC.k 87 (.slice RA0_6 r.f6.length rc0_6) r.f6]∧Rd qA.k F' RA0_4 rc0_4 r.f4∧Rd qI.k F' RA0_5 rc0_5 r.f5
theorem qBK.calls(k:Nat)(x:qF)(y:List qE)(A0_4:OA)(c0_4:Nat)(A0_5:OA)(c0_5:Nat)(A0_6:OA)(c0_6:Nat)(A1_0:OA)(c1_0:Nat)(r:qF)(W F:World)(hown:Sub F W)(g0_4:Rd qA.k F A0_4 c0_4 x.f4)(g0_5:Rd qI.k F A0_5 c0_5 x.f5)(g0_6:Rd qC.k F A0_6 c0_6 x.f6)(g1_0:Rd qE.k F A1_0 c1_0 y)(H:qBK.f k x y=some r):
    Cr 48 #[.agg #[iv x.f0,iv x.f1,iv x.f2,iv x.f3,.slice A0_4 x.f4.length c0_4,.slice A0_5 x.f5.length c0_5,.slice A0_6 x.f6.length c0_6],.slice A1_0 y.length c1_0] W (qBK.Post W F r):=by
 have S:=sT hown
 unfold qBK.f at H
 refine ent 24 rfl rfl rfl (fun a E=>?_)
 refine sq fun K1 hK1=>pl0 (plx (t:=27) E S [iv x.f0,iv x.f1,iv x.f2,iv x.f3,.slice A0_4 x.f4.length c0_4,.slice A0_5 x.f5.length c0_5,.slice A0_6 x.f6.length c0_6] fun b2 u3 hb2 S a E=>pla (t:=27) E S [iv 0,iv 0,iv 0,iv 0,.slice none 0 0,.slice none 0 0,.slice none 0 0] fun b4 u5 hb4 S a E=>pld (hK1 _ _ (sq fun K6 hK6=>pl0 (plc E (.bn 0 0 7 (S.ba 1) .nil) (fun a E=>?_)))))
 obtain ⟨t8,h9,H⟩:=bd H
 refine ple E (.cl en110 (qAo.calls k x _ _ _ _ _ _ _ _ _ S.own.sub g0_4 g0_5 g0_6 h9)) ?_
 rintro _ u7 a ⟨F10,A11,c12,A15,c16,A19,c20,rfl,hC⟩ E
 have hs:=hC.sub
 replace S:=S.called (X:=[]) hC
 replace g0_4:=g0_4.mono hs
 replace g0_5:=g0_5.mono hs
 replace g0_6:=g0_6.mono hs
 replace g1_0:=g1_0.mono hs
 replace S:=S.front 4 rfl
 refine pls E S [iv t8.f0,iv t8.f1,iv t8.f2,iv t8.f3,.slice A11 t8.f4.length c12,.slice A15 t8.f5.length c16,.slice A19 t8.f6.length c20] fun u23 hb2 S a E=>pld (hK6 _ _ (sq fun K24 hK24=>rr E fun a E=>(wp_block ?_)))
 replace S:=S.front 1 rfl
 obtain ⟨F81,hs,g82,S⟩:=S.give
 replace g0_4:=g0_4.mono hs
 replace g0_5:=g0_5.mono hs
 replace g0_6:=g0_6.mono hs
 replace g1_0:=g1_0.mono hs
 replace S:=S.front 1 rfl
 obtain ⟨F83,hs,g84,S⟩:=S.give
 replace g0_4:=g0_4.mono hs
 replace g0_5:=g0_5.mono hs
 replace g0_6:=g0_6.mono hs
 replace g1_0:=g1_0.mono hs
 replace g82:=g82.mono hs
 replace S:=S.pm [0,2,1] 3
 refine wp_loop_ghost (fun kq45 a w'=>∃(G:NV)(x27:Int)(x28:Int)(x29:Int)(x30:Int)(x31:Int)(A32:OA)(c33:Nat)(l34:List qA)(A36:OA)(c37:Nat)(l38:List qI)(A40:OA)(c41:Nat)(l42:List qC)(F43:World),kq45≤k∧Env 24 G a∧At G [(2,.pointer (pb b2)),(4,.pointer (pb b4)),(9,.slice A1_0 y.length c1_0),(10,iv (y.length:Int)),(11,iv x27)]∧Sm W F w' F43 [box b2 #[iv x28,iv x29,iv x30,iv x31,.slice A32 l34.length c33,.slice A36 l38.length c37,.slice A40 l42.length c41] 27,box b4 #[iv 0,iv 0,iv 0,iv 0,.slice none 0 0,.slice none 0 0,.slice none 0 0] 27,row qC.k 87 (.slice A40 l42.length c41) l42]∧Rd qA.k F43 A32 c33 l34∧Rd qI.k F43 A36 c37 l38∧Rd qE.k F43 A1_0 c1_0 y∧qBK.l44 kq45 y x27 x28 x29 x30 x31 l34 l38 l42=some r) k ⟨_,0,t8.f0,t8.f1,t8.f2,t8.f3,A11,c12,t8.f4,A15,c16,t8.f5,A19,c20,t8.f6,F83,Nat.le_refl _,E,.of,S,g82,g84,g1_0,H⟩ ?_
 rintro kq45 a u47 ⟨G,x27,x28,x29,x30,x31,A32,c33,l34,A36,c37,l38,A40,c41,l42,F43,hkq,E,A,S,g35,g39,g1_0,H⟩
 obtain _ | k46:=kq45
 exact zz H
 rw [qBK.l44_s]at H
 obtain ⟨J,E⟩:=E.at A
 refine rr E fun a E=>(sq fun K49 hK49=>E.ik 12 H (fun c50 E H=>?_) fun c50 E H=>?_)
 refine wp_skip (hK49 _ _ (sq fun K51 hK51=>wp_block (sq fun K52 hK52=>pl0 ?_)))
 obtain ⟨c53,H⟩:=gd H
 have hE_:=E
 obtain ⟨ad54,rfl⟩:=g1_0.addr c53.1 c53.2
 replace E:=hE_
 obtain ⟨cs56,⟨A58,c59,rfl,g60⟩,hc57⟩:=g1_0.el qE.z x27 c53.1 c53.2
 refine plc E (.x 0 c53<|.cs 1 (S.fcs hc57)<|.nil) (fun a E=>pla (t:=96) E S [iv 0,iv 0,iv 0,iv 0,iv 0,iv 0,.slice none 0 0] fun b61 u62 hb61 S a E=>pls E S [iv ((nth qE.z y x27).f0),iv ((nth qE.z y x27).f1),iv ((nth qE.z y x27).f2),iv ((nth qE.z y x27).f3),iv ((nth qE.z y x27).f4),iv ((nth qE.z y x27).f5),.slice A58 (((nth qE.z y x27).f6).length) c59] fun u63 hb61 S a E=>pld (hK52 _ _ (pl0 (plc E (.bn 0 0 7 (S.ba 1)<|.bn 1 0 7 hb61<|.nil) (fun a E=>?_)))))
 replace S:=S.front 3 rfl
 obtain ⟨F64,hs,g65,S⟩:=S.give
 replace g1_0:=g1_0.mono hs
 replace g60:=g60.mono hs
 replace g35:=g35.mono hs
 replace g39:=g39.mono hs
 obtain ⟨t67,h68,H⟩:=bd H
 refine ple E (.cl en111 (qAx.calls k46 (⟨x28,x29,x30,x31,l34,l38,l42⟩:qF) (nth qE.z y x27) _ _ _ _ _ _ _ _ _ _ _ S.own.sub g35 g39 g65 g60 h68)) ?_
 rintro _ u66 a ⟨F69,A70,c71,A73,c74,A76,c77,rfl,hC,g72,g75⟩ E
 have hs:=hC.sub
 replace S:=S.called (X:=[]) hC
 replace g1_0:=g1_0.mono hs
 replace g60:=g60.mono hs
 replace g35:=g35.mono hs
 replace g39:=g39.mono hs
 replace g65:=g65.mono hs
 replace S:=S.front 2 rfl
 refine pls E S [iv t67.f0,iv t67.f1,iv t67.f2,iv t67.f3,.slice A70 t67.f4.length c71,.slice A73 t67.f5.length c74,.slice A76 t67.f6.length c77] fun u80 hb2 S a E=>pld ?_
 refine qCL ?_
 refine hK51 _ _ (pl0 (plc E (.r 0 2 .nil) (fun a E=>pld ?_)))
 replace S:=S.pm [0,3,1] 4
 exact qCM ⟨k46,by omega,_,(w64 (x27+1)),t67.f0,t67.f1,t67.f2,t67.f3,A70,c71,t67.f4,A73,c74,t67.f5,A76,c77,t67.f6,F69,by omega,E,.of,S,g72,g75,g1_0,H⟩
 refine wp_exit ?_
 refine hK24 _ _ (sq fun K85 hK85=>sq fun K86 hK86=>pl0 ?_)
 have hb2:=S.ba 0
 refine plc E (.bn 0 0 7 hb2 .nil) (fun a E=>?_)
 obtain ⟨t88,h89,H⟩:=bd H
 refine plq E S en37 (qt.calls k46 (⟨x28,x29,x30,x31,l34,l38,l42⟩:qF) _ _ _ _ _ _ _ _ _ (Sub.refl _) (g35.mono S.own.sub) (g39.mono S.own.sub) (S.rd_at (i:=2) rfl) h89) fun u87 S a E=>plc E (.r 2 1 .nil) (fun a E=>pld (hK86 _ _ (E.ikn 21 H (fun c90 E H=>?_) fun c90 E H=>?_)))
 refine wp_skip (hK85 _ _ (sq fun K94 hK94=>pl0 (plc E (.bn 0 0 7 (S.ba 0) .nil) (fun a E=>?_))))
 replace S:=S.front 1 rfl
 refine pls E S [iv x28,iv x29,iv x30,iv x31,.slice A32 l34.length c33,.slice A36 l38.length c37,.slice A40 l42.length c41] fun u95 hb4 S a E=>pld (hK94 _ _ (wp_ret ?_))
 replace S:=S.pm [] 2
 obtain rfl:=si H
 exact ret1 E rfl (.cell (by kernel_rfl) (qCW [iv x28,iv x29,iv x30,iv x31,.slice A32 l34.length c33,.slice A36 l38.length c37,.slice A40 l42.length c41] ag27 sz27 hb4 rfl) .nil) ⟨_,rfl,_,_,_,_,_,_,_,rfl,S,g35,g39⟩
 refine sq fun K91 hK91=>pl0 (plc E (.r 0 1 .nil) (fun a E=>?_))
 replace S:=S.front 1 rfl
 refine pls E S [iv 0,iv 0,iv 0,iv 0,.slice none 0 0,.slice none 0 0,.slice none 0 0] fun u92 hb4 S a E=>pld (hK91 _ _ (wp_ret (qCJ ?_)))
 replace S:=S.nilrow qC.k 87
 replace S:=S.pm [0] 4
 obtain rfl:=si H
 exact ret1 E rfl (.cell (by kernel_rfl) (qCW [iv 0,iv 0,iv 0,iv 0,.slice none 0 0,.slice none 0 0,.slice none 0 0] ag27 sz27 hb4 rfl) .nil) ⟨_,rfl,_,_,_,_,_,_,_,rfl,S,(Rd.nil _ _),(Rd.nil _ _)⟩
def qAh.f(x:List qE):Option (List qE):=if ((([]:List qE).length:Int)+(x.length:Int)) * 72≤140737488355328 then (some (([]:List qE)++x)) else (none)
def qAh.Post(W F:World)(r:List qE)(v:Value)(w':World):Prop:=∃(F':World)(RA0_0:OA)(rc0_0:Nat),v = .slice RA0_0 r.length rc0_0∧Sm W F w' F' [row qE.k 96 (.slice RA0_0 r.length rc0_0) r]
theorem qAh.calls(x:List qE)(A0_0:OA)(c0_0:Nat)(r:List qE)(W F:World)(hown:Sub F W)(g0_0:Rd qE.k F A0_0 c0_0 x)(H:qAh.f x=some r):
    Cr 114 #[.slice A0_0 x.length c0_0] W (qAh.Post W F r):=by
 have S:=sT hown
 unfold qAh.f at H
 refine ent 8 rfl rfl rfl (fun a E=>?_)
 rcases A0_0 with _ | ad1
 have hnil:=g0_0.none_nil
 replace H:(some [])=some r:=by simpa [hnil] using H
 refine rr E fun a E=>(sq fun K3 hK3=>rr E fun a E=>(ct E (rr E fun a E=>(wp_ret (qCJ ?_)))))
 replace S:=S.nilrow qE.k 96
 obtain rfl:=si H
 exact rt1 E ⟨_,rfl,_,_,_,rfl,S⟩
 refine rr E fun a E=>(sq fun K8 hK8=>rr E fun a E=>(cf E (wp_skip (hK8 _ _ (sq fun K10 hK10=>pl0 (ple E (.lit (d:=qE.k) (e:=96) S ([]:List qE) (.nil)) ?_))))))
 rintro _ u11 a ⟨A12,c13,rfl,S,hg⟩ E
 refine plc E (.r 1 1 .nil) (fun a E=>?_)
 obtain ⟨c15,H⟩:=gd H
 refine ple E (.ap (d:=qE.k) 72 S (g0_0.src S.own.sub) c15 c0_0) ?_
 rintro _ u18 a ⟨A16,c17,rfl,S,hz⟩ E
 refine plc E (.r 3 1 .nil) (fun a E=>pld (hK10 _ _ (wp_ret ?_)))
 obtain rfl:=si H
 exact rt1 E ⟨_,rfl,_,_,_,rfl,S⟩
def client_own.l45:Nat→qc→List Int→qF→List qE→List qE→Int→Option qc
 | 0,_,_,_,_,_,_=>none
 | k+1,x,t8,t18,t32,l42,x43=>if x43<(t32.length:Int) then (if 0≤x43∧x43<(t32.length:Int) then ((qAC.f ((nth qE.z l42 x43).f6)).bind fun t68=>(client_own.l45 k x t8 t18 t32 (l42.set (x43).toNat (⟨(nth qE.z l42 x43).f0,(nth qE.z l42 x43).f1,(nth qE.z l42 x43).f2,(nth qE.z l42 x43).f3,(nth qE.z l42 x43).f4,(nth qE.z l42 x43).f5,t68⟩:qE)) (w64 (x43+1)))) else (none)) else (some (⟨x.f0,t8,(⟨t18,l42⟩:qAa),x.f3,x.f4,x.f5,x.f6,x.f7,x.f8,x.f9⟩:qc))
theorem client_own.l45_s k x t8 t18 t32 l42 x43:type_of% (client_own.l45.eq_2 x t8 t18 t32 l42 x43 k):=client_own.l45.eq_2 x t8 t18 t32 l42 x43 k
def client_own.f(k:Nat)(x:qc):Option qc:=(qAC.f x.f1).bind fun t8=>((qBK.f k x.f2.f0 []).bind fun t18=>((qAh.f x.f2.f1).bind fun t32=>(client_own.l45 k x t8 t18 t32 t32 0)))
def client_own.Post(W F:World)(r:qc)(v:Value)(w':World):Prop:=∃(F':World)(RA0_1:OA)(rc0_1:Nat)(RA0_6:OA)(rc0_6:Nat)(RA0_7:OA)(rc0_7:Nat)(RA0_8:OA)(rc0_8:Nat)(RA0_9:OA)(rc0_9:Nat),v = .agg #[iv r.f0,.slice RA0_1 r.f1.length rc0_1,iv r.f2.f0.f0,iv r.f2.f0.f1,iv r.f2.f0.f2,iv r.f2.f0.f3,.slice RA0_6 r.f2.f0.f4.length rc0_6,.slice RA0_7 r.f2.f0.f5.length rc0_7,.slice RA0_8 r.f2.f0.f6.length rc0_8,.slice RA0_9 r.f2.f1.length rc0_9,iv r.f3,.bool r.f4,iv r.f5,iv r.f6.f0,.string r.f6.f1,iv r.f6.f2.f0,iv r.f6.f2.f1,iv r.f6.f3,iv r.f6.f4,iv r.f6.f5,iv r.f7,iv r.f8,iv r.f9.f0,.bool r.f9.f1,iv r.f9.f2]∧Sm W F w' F' [row ki 3 (.slice RA0_1 r.f1.length rc0_1) r.f1,row qC.k 87 (.slice RA0_8 r.f2.f0.f6.length rc0_8) r.f2.f0.f6,row qE.k 96 (.slice RA0_9 r.f2.f1.length rc0_9) r.f2.f1]∧Rd qA.k F' RA0_6 rc0_6 r.f2.f0.f4∧Rd qI.k F' RA0_7 rc0_7 r.f2.f0.f5
theorem client_own.calls(k:Nat)(x:qc)(A0_1:OA)(c0_1:Nat)(A0_6:OA)(c0_6:Nat)(A0_7:OA)(c0_7:Nat)(A0_8:OA)(c0_8:Nat)(A0_9:OA)(c0_9:Nat)(r:qc)(W F:World)(hown:Sub F W)(g0_1:Rd ki F A0_1 c0_1 x.f1)(g0_6:Rd qA.k F A0_6 c0_6 x.f2.f0.f4)(g0_7:Rd qI.k F A0_7 c0_7 x.f2.f0.f5)(g0_8:Rd qC.k F A0_8 c0_8 x.f2.f0.f6)(g0_9:Rd qE.k F A0_9 c0_9 x.f2.f1)(H:client_own.f k x=some r):
    Cr 51 #[.agg #[iv x.f0,.slice A0_1 x.f1.length c0_1,iv x.f2.f0.f0,iv x.f2.f0.f1,iv x.f2.f0.f2,iv x.f2.f0.f3,.slice A0_6 x.f2.f0.f4.length c0_6,.slice A0_7 x.f2.f0.f5.length c0_7,.slice A0_8 x.f2.f0.f6.length c0_8,.slice A0_9 x.f2.f1.length c0_9,iv x.f3,.bool x.f4,iv x.f5,iv x.f6.f0,.string x.f6.f1,iv x.f6.f2.f0,iv x.f6.f2.f1,iv x.f6.f3,iv x.f6.f4,iv x.f6.f5,iv x.f7,iv x.f8,iv x.f9.f0,.bool x.f9.f1,iv x.f9.f2]] W (client_own.Post W F r):=by
 have S:=sT hown
 unfold client_own.f at H
 refine ent 39 rfl rfl rfl (fun a E=>?_)
 refine sq fun K1 hK1=>pl0 (plx (t:=55) E S [iv x.f0,.slice A0_1 x.f1.length c0_1,iv x.f2.f0.f0,iv x.f2.f0.f1,iv x.f2.f0.f2,iv x.f2.f0.f3,.slice A0_6 x.f2.f0.f4.length c0_6,.slice A0_7 x.f2.f0.f5.length c0_7,.slice A0_8 x.f2.f0.f6.length c0_8,.slice A0_9 x.f2.f1.length c0_9,iv x.f3,.bool x.f4,iv x.f5,iv x.f6.f0,.string x.f6.f1,iv x.f6.f2.f0,iv x.f6.f2.f1,iv x.f6.f3,iv x.f6.f4,iv x.f6.f5,iv x.f7,iv x.f8,iv x.f9.f0,.bool x.f9.f1,iv x.f9.f2] fun b2 u3 hb2 S a E=>pla (t:=55) E S [iv 0,.slice none 0 0,iv 0,iv 0,iv 0,iv 0,.slice none 0 0,.slice none 0 0,.slice none 0 0,.slice none 0 0,iv 0,.bool false,iv 0,iv 0,.string (⟨#[]⟩:ByteArray),iv 0,iv 0,iv 0,iv 0,iv 0,iv 0,iv 0,iv 0,.bool false,iv 0] fun b4 u5 hb4 S a E=>pld (hK1 _ _ (sq fun K6 hK6=>pl0 (plc E (.r 0 1<|.b 1 1 (S.ba 1)<|.nil) (fun a E=>?_)))))
 obtain ⟨t8,h9,H⟩:=bd H
 refine ple E (.cl en98 (qAC.calls x.f1 _ _ _ _ _ S.own.sub g0_1 h9)) ?_
 rintro _ u7 a ⟨F10,A11,c12,rfl,hC⟩ E
 have hs:=hC.sub
 replace S:=S.called (X:=[]) hC
 replace g0_1:=g0_1.mono hs
 replace g0_6:=g0_6.mono hs
 replace g0_7:=g0_7.mono hs
 replace g0_8:=g0_8.mono hs
 replace g0_9:=g0_9.mono hs
 refine plc E (.r 3 1 .nil) (fun a E=>?_)
 replace S:=S.front 2 rfl
 refine pls E S [iv x.f0,.slice A11 t8.length c12,iv x.f2.f0.f0,iv x.f2.f0.f1,iv x.f2.f0.f2,iv x.f2.f0.f3,.slice A0_6 x.f2.f0.f4.length c0_6,.slice A0_7 x.f2.f0.f5.length c0_7,.slice A0_8 x.f2.f0.f6.length c0_8,.slice A0_9 x.f2.f1.length c0_9,iv x.f3,.bool x.f4,iv x.f5,iv x.f6.f0,.string x.f6.f1,iv x.f6.f2.f0,iv x.f6.f2.f1,iv x.f6.f3,iv x.f6.f4,iv x.f6.f5,iv x.f7,iv x.f8,iv x.f9.f0,.bool x.f9.f1,iv x.f9.f2] fun u15 hb2 S a E=>pld (hK6 _ _ (sq fun K16 hK16=>?_))
 refine drawn 11 ⟨[10],[],fun q=>False⟩ mixed rfl (by kernel_rfl) (fun hst=>?_)
 replace S:=S.drew
 have hb2:=S.ba 0
 refine mny 5 hst E (.r 0 2<|.bn 2 2 7 hb2<|.r 4 2<|.b 6 9 hb2<|.nil) (fun a E=>?_)
 obtain ⟨t18,h19,H⟩:=bd H
 refine on1 3 E (.cl en48 (qBK.calls k x.f2.f0 [] _ _ _ _ _ _ _ _ _ _ _ S.own.sub g0_6 g0_7 g0_8 (Rd.nil _ _) h19)) ?_
 rintro _ u17 a ⟨F20,A21,c22,A24,c25,A27,c28,rfl,hC,g23,g26⟩ E
 refine ⟨.of hC.agr,?_⟩
 have hs:=hC.sub
 replace S:=S.called (X:=[]) hC
 replace g0_1:=g0_1.mono hs
 replace g0_6:=g0_6.mono hs
 replace g0_7:=g0_7.mono hs
 replace g0_8:=g0_8.mono hs
 replace g0_9:=g0_9.mono hs
 obtain ⟨t32,h33,H⟩:=bd H
 refine on1 7 E (.cl en114 (qAh.calls x.f2.f1 _ _ _ _ _ S.own.sub g0_9 h33)) ?_
 rintro _ u31 a ⟨F34,A35,c36,rfl,hC⟩ E
 refine ⟨.of hC.agr,?_⟩
 have hs:=hC.sub
 replace S:=S.called (X:=[]) hC
 replace g0_1:=g0_1.mono hs
 replace g0_6:=g0_6.mono hs
 replace g0_7:=g0_7.mono hs
 replace g0_8:=g0_8.mono hs
 replace g0_9:=g0_9.mono hs
 replace g23:=g23.mono hs
 replace g26:=g26.mono hs
 refine mny 1 hst E (.r 8 2 .nil) (fun a E=>?_)
 replace S:=S.front 2 rfl
 refine on1 10 E (.sto S [iv x.f0,.slice A11 t8.length c12,iv t18.f0,iv t18.f1,iv t18.f2,iv t18.f3,.slice A21 t18.f4.length c22,.slice A24 t18.f5.length c25,.slice A27 t18.f6.length c28,.slice A35 t32.length c36,iv x.f3,.bool x.f4,iv x.f5,iv x.f6.f0,.string x.f6.f1,iv x.f6.f2.f0,iv x.f6.f2.f1,iv x.f6.f3,iv x.f6.f4,iv x.f6.f5,iv x.f7,iv x.f8,iv x.f9.f0,.bool x.f9.f1,iv x.f9.f2]) ?_
 rintro _ u39 a ⟨rfl,hb2,S,hz⟩ E
 refine ⟨.d,?_⟩
 refine dn ?_
 refine hK16 _ _ (sq fun K40 hK40=>rg E (.r 0 2<|.b 2 9 hb2<|.r 3 2<|.nil) fun a E=>(wp_block ?_))
 replace S:=S.pm [0,4,2,3,1] 5
 refine wp_loop_ghost (fun kq46 a w'=>∃(G:NV)(l42:List qE)(x43:Int)(F44:World),kq46≤k∧Env 39 G a∧At G [(1,.pointer (pb b2)),(2,.pointer (pb b4)),(21,.slice A35 t32.length c36),(22,iv (t32.length:Int)),(23,iv x43)]∧Sm W F w' F44 [box b2 #[iv x.f0,.slice A11 t8.length c12,iv t18.f0,iv t18.f1,iv t18.f2,iv t18.f3,.slice A21 t18.f4.length c22,.slice A24 t18.f5.length c25,.slice A27 t18.f6.length c28,.slice A35 t32.length c36,iv x.f3,.bool x.f4,iv x.f5,iv x.f6.f0,.string x.f6.f1,iv x.f6.f2.f0,iv x.f6.f2.f1,iv x.f6.f3,iv x.f6.f4,iv x.f6.f5,iv x.f7,iv x.f8,iv x.f9.f0,.bool x.f9.f1,iv x.f9.f2] 55,box b4 #[iv 0,.slice none 0 0,iv 0,iv 0,iv 0,iv 0,.slice none 0 0,.slice none 0 0,.slice none 0 0,.slice none 0 0,iv 0,.bool false,iv 0,iv 0,.string (⟨#[]⟩:ByteArray),iv 0,iv 0,iv 0,iv 0,iv 0,iv 0,iv 0,iv 0,.bool false,iv 0] 55,row qC.k 87 (.slice A27 t18.f6.length c28) t18.f6,row ki 3 (.slice A11 t8.length c12) t8,row qE.k 96 (.slice A35 t32.length c36) l42]∧Rd qA.k F44 A21 c22 t18.f4∧Rd qI.k F44 A24 c25 t18.f5∧client_own.l45 kq46 x t8 t18 t32 l42 x43=some r) k ⟨_,t32,0,F34,Nat.le_refl _,E,.of,S,g23,g26,H⟩ ?_
 rintro kq46 a u48 ⟨G,l42,x43,F44,hkq,E,A,S,g23,g26,H⟩
 obtain _ | k47:=kq46
 exact zz H
 rw [client_own.l45_s]at H
 obtain ⟨J,E⟩:=E.at A
 refine rr E fun a E=>(sq fun K50 hK50=>E.ik 24 H (fun c51 E H=>?_) fun c51 E H=>?_)
 refine wp_skip (hK50 _ _ (sq fun K52 hK52=>wp_block (sq fun K53 hK53=>pl0 ?_)))
 obtain ⟨c54,H⟩:=gd H
 have hr55:=S.ra 4
 have c56:0≤x43∧x43<(l42.length:Int):=by rw [← (qCN hr55).1]; exact c54
 have hE_:=E
 obtain ⟨b57,rfl⟩:=qCP hr55 c56.1 c56.2
 replace E:=hE_
 have hr_:=S.ra 4
 obtain ⟨cs59,⟨A61,c62,rfl,g63⟩,hc60⟩:=qCO hr_ qE.z x43 c56.1 c56.2
 refine plc E (.r 0 1<|.x 1 c54<|.cs 2 hc60<|.nil) (fun a E=>pla (t:=96) E S [iv 0,iv 0,iv 0,iv 0,iv 0,iv 0,.slice none 0 0] fun b64 u65 hb64 S a E=>plc E (.r 4 1 .nil) (fun a E=>pls E S [iv ((nth qE.z l42 x43).f0),iv ((nth qE.z l42 x43).f1),iv ((nth qE.z l42 x43).f2),iv ((nth qE.z l42 x43).f3),iv ((nth qE.z l42 x43).f4),iv ((nth qE.z l42 x43).f5),.slice A61 (((nth qE.z l42 x43).f6).length) c62] fun u66 hb64 S a E=>pld (hK53 _ _ ?_)))
 refine drawn 10 ⟨[9],[],fun q=>False⟩ mixed rfl (by kernel_rfl) (fun hst=>?_)
 replace S:=S.drew
 have hb2:=S.ba 1
 have hb64:=S.ba 0
 refine mny 4 hst E (.r 0 2<|.b 2 9 hb2<|.r 3 2<|.b 5 6 hb64<|.nil) (fun a E=>?_)
 obtain ⟨t68,h69,H⟩:=bd H
 refine on1 6 E (.cl en98 (qAC.calls ((nth qE.z l42 x43).f6) _ _ _ _ _ S.own.sub g63 h69)) ?_
 rintro _ u67 a ⟨F70,A71,c72,rfl,hC⟩ E
 refine ⟨.of hC.agr,?_⟩
 have hs:=hC.sub
 replace S:=S.called (X:=[]) hC
 replace g63:=g63.mono hs
 replace g23:=g23.mono hs
 replace g26:=g26.mono hs
 have hr75:=S.ra 6
 have c76:0≤x43∧x43<(l42.length:Int):=by rw [← (qCN hr75).1]; exact c54
 have hr_:=S.ra 6
 obtain ⟨cs78,⟨A80,c81,rfl,g82⟩,hc79⟩:=qCO hr_ qE.z x43 c76.1 c76.2
 refine mny 1 hst E (.x 7 c54<|.r 8 1<|.nil) (fun a E=>?_)
 obtain ⟨F84,hs,g85,S⟩:=S.give
 replace g63:=g63.mono hs
 replace g23:=g23.mono hs
 replace g26:=g26.mono hs
 replace S:=S.front 5 rfl
 obtain ⟨cs89,⟨A86,c87,rfl,g88⟩,hc90⟩:=qCO (S.row_at (i:=0) rfl) qE.z x43 c76.1 c76.2
 refine on1 9 E (.set (d:=qE.k) (n:=t32.length) (i:=x43) (⟨(nth qE.z l42 x43).f0,(nth qE.z l42 x43).f1,(nth qE.z l42 x43).f2,(nth qE.z l42 x43).f3,(nth qE.z l42 x43).f4,(nth qE.z l42 x43).f5,t68⟩:qE) 6 (ea1 _ _ _) S c76 [iv ((nth qE.z l42 x43).f0),iv ((nth qE.z l42 x43).f1),iv ((nth qE.z l42 x43).f2),iv ((nth qE.z l42 x43).f3),iv ((nth qE.z l42 x43).f4),iv ((nth qE.z l42 x43).f5),.slice A86 (((nth qE.z l42 x43).f6).length) c87] hc90 [iv ((nth qE.z l42 x43).f0),iv ((nth qE.z l42 x43).f1),iv ((nth qE.z l42 x43).f2),iv ((nth qE.z l42 x43).f3),iv ((nth qE.z l42 x43).f4),iv ((nth qE.z l42 x43).f5),.slice A71 t68.length c72] ⟨_,_,rfl,g85⟩) ?_
 rintro _ u83 a ⟨rfl,S,hz⟩ E
 refine ⟨.d,?_⟩
 refine dn ?_
 refine qCL ?_
 refine hK52 _ _ (pl0 (plc E (.r 0 2 .nil) (fun a E=>pld ?_)))
 replace S:=S.pm [2,3,4,5,0] 6
 exact qCM ⟨k47,by omega,_,(l42.set (x43).toNat (⟨(nth qE.z l42 x43).f0,(nth qE.z l42 x43).f1,(nth qE.z l42 x43).f2,(nth qE.z l42 x43).f3,(nth qE.z l42 x43).f4,(nth qE.z l42 x43).f5,t68⟩:qE)),(w64 (x43+1)),F84,by omega,E,.of,S,g23,g26,H⟩
 refine wp_exit ?_
 refine hK40 _ _ (sq fun K91 hK91=>pl0 (plc E (.bn 0 0 25 (S.ba 0) .nil) (fun a E=>?_)))
 replace S:=S.front 1 rfl
 refine pls E S [iv x.f0,.slice A11 t8.length c12,iv t18.f0,iv t18.f1,iv t18.f2,iv t18.f3,.slice A21 t18.f4.length c22,.slice A24 t18.f5.length c25,.slice A27 t18.f6.length c28,.slice A35 t32.length c36,iv x.f3,.bool x.f4,iv x.f5,iv x.f6.f0,.string x.f6.f1,iv x.f6.f2.f0,iv x.f6.f2.f1,iv x.f6.f3,iv x.f6.f4,iv x.f6.f5,iv x.f7,iv x.f8,iv x.f9.f0,.bool x.f9.f1,iv x.f9.f2] fun u92 hb4 S a E=>pld (hK91 _ _ (wp_ret ?_))
 have hn93:=(qCN (S.row_at (i:=4) rfl)).1
 replace S:Sm W F u92 F44 [box b4 #[iv x.f0,.slice A11 t8.length c12,iv t18.f0,iv t18.f1,iv t18.f2,iv t18.f3,.slice A21 t18.f4.length c22,.slice A24 t18.f5.length c25,.slice A27 t18.f6.length c28,.slice A35 l42.length c36,iv x.f3,.bool x.f4,iv x.f5,iv x.f6.f0,.string x.f6.f1,iv x.f6.f2.f0,iv x.f6.f2.f1,iv x.f6.f3,iv x.f6.f4,iv x.f6.f5,iv x.f7,iv x.f8,iv x.f9.f0,.bool x.f9.f1,iv x.f9.f2] 55,box b2 #[iv x.f0,.slice A11 t8.length c12,iv t18.f0,iv t18.f1,iv t18.f2,iv t18.f3,.slice A21 t18.f4.length c22,.slice A24 t18.f5.length c25,.slice A27 t18.f6.length c28,.slice A35 l42.length c36,iv x.f3,.bool x.f4,iv x.f5,iv x.f6.f0,.string x.f6.f1,iv x.f6.f2.f0,iv x.f6.f2.f1,iv x.f6.f3,iv x.f6.f4,iv x.f6.f5,iv x.f7,iv x.f8,iv x.f9.f0,.bool x.f9.f1,iv x.f9.f2] 55,row qC.k 87 (.slice A27 t18.f6.length c28) t18.f6,row ki 3 (.slice A11 t8.length c12) t8,row qE.k 96 (.slice A35 l42.length c36) l42]:=by rw [← hn93]; exact S
 have hb4:=S.ba 0
 replace S:=S.pm [3,2] 4
 obtain rfl:=si H
 exact ret1 E rfl (.cell (by kernel_rfl) (qCW [iv x.f0,.slice A11 t8.length c12,iv t18.f0,iv t18.f1,iv t18.f2,iv t18.f3,.slice A21 t18.f4.length c22,.slice A24 t18.f5.length c25,.slice A27 t18.f6.length c28,.slice A35 l42.length c36,iv x.f3,.bool x.f4,iv x.f5,iv x.f6.f0,.string x.f6.f1,iv x.f6.f2.f0,iv x.f6.f2.f1,iv x.f6.f3,iv x.f6.f4,iv x.f6.f5,iv x.f7,iv x.f8,iv x.f9.f0,.bool x.f9.f1,iv x.f9.f2] ag55 sz55 hb4 rfl) .nil) ⟨_,rfl,_,_,_,_,_,_,_,_,_,_,_,rfl,S,g23,g26⟩
def client_New.f(k:Nat)(x:Int)(y:List Int)(z:qF):Option (qc × Int):=(client_Check.f k (⟨x,y,(⟨z,[]⟩:qAa),0,false,0,(⟨0,(⟨#[]⟩:ByteArray),(⟨0,0⟩:qk),0,0,0⟩:qAf),0,0,(⟨0,false,0⟩:qAO)⟩:qc)).bind fun t13=>(if t13=0 then ((client_own.f k (⟨x,y,(⟨z,[]⟩:qAa),0,false,0,(⟨0,(⟨#[]⟩:ByteArray),(⟨0,0⟩:qk),0,0,0⟩:qAf),0,0,(⟨0,false,0⟩:qAO)⟩:qc)).bind fun t24=>(some (t24,0))) else (some ((⟨0,[],(⟨(⟨0,0,0,0,[],[],[]⟩:qF),[]⟩:qAa),0,false,0,(⟨0,(⟨#[]⟩:ByteArray),(⟨0,0⟩:qk),0,0,0⟩:qAf),0,0,(⟨0,false,0⟩:qAO)⟩:qc),t13)))
def client_New.Post(W F:World)(r:qc × Int)(v:Value)(w':World):Prop:=∃(F':World)(RA0_1:OA)(rc0_1:Nat)(RA0_6:OA)(rc0_6:Nat)(RA0_7:OA)(rc0_7:Nat)(RA0_8:OA)(rc0_8:Nat)(RA0_9:OA)(rc0_9:Nat),v = .tuple #[.agg #[iv r.1.f0,.slice RA0_1 r.1.f1.length rc0_1,iv r.1.f2.f0.f0,iv r.1.f2.f0.f1,iv r.1.f2.f0.f2,iv r.1.f2.f0.f3,.slice RA0_6 r.1.f2.f0.f4.length rc0_6,.slice RA0_7 r.1.f2.f0.f5.length rc0_7,.slice RA0_8 r.1.f2.f0.f6.length rc0_8,.slice RA0_9 r.1.f2.f1.length rc0_9,iv r.1.f3,.bool r.1.f4,iv r.1.f5,iv r.1.f6.f0,.string r.1.f6.f1,iv r.1.f6.f2.f0,iv r.1.f6.f2.f1,iv r.1.f6.f3,iv r.1.f6.f4,iv r.1.f6.f5,iv r.1.f7,iv r.1.f8,iv r.1.f9.f0,.bool r.1.f9.f1,iv r.1.f9.f2],iv r.2]∧Sm W F w' F' [row ki 3 (.slice RA0_1 r.1.f1.length rc0_1) r.1.f1,row qC.k 87 (.slice RA0_8 r.1.f2.f0.f6.length rc0_8) r.1.f2.f0.f6,row qE.k 96 (.slice RA0_9 r.1.f2.f1.length rc0_9) r.1.f2.f1]∧Rd qA.k F' RA0_6 rc0_6 r.1.f2.f0.f4∧Rd qI.k F' RA0_7 rc0_7 r.1.f2.f0.f5
theorem client_New.calls(k:Nat)(x:Int)(y:List Int)(z:qF)(A1_0:OA)(c1_0:Nat)(A2_4:OA)(c2_4:Nat)(A2_5:OA)(c2_5:Nat)(A2_6:OA)(c2_6:Nat)(r:qc × Int)(W F:World)(hown:Sub F W)(g1_0:Rd ki F A1_0 c1_0 y)(g2_4:Rd qA.k F A2_4 c2_4 z.f4)(g2_5:Rd qI.k F A2_5 c2_5 z.f5)(g2_6:Rd qC.k F A2_6 c2_6 z.f6)(H:client_New.f k x y z=some r):
    Cr 17 #[iv x,.slice A1_0 y.length c1_0,.agg #[iv z.f0,iv z.f1,iv z.f2,iv z.f3,.slice A2_4 z.f4.length c2_4,.slice A2_5 z.f5.length c2_5,.slice A2_6 z.f6.length c2_6]] W (client_New.Post W F r):=by
 have S:=sT hown
 unfold client_New.f at H
 refine ent 23 rfl rfl rfl (fun a E=>?_)
 refine sq fun K1 hK1=>pl0 (plx (t:=27) E S [iv z.f0,iv z.f1,iv z.f2,iv z.f3,.slice A2_4 z.f4.length c2_4,.slice A2_5 z.f5.length c2_5,.slice A2_6 z.f6.length c2_6] fun b2 u3 hb2 S a E=>pla (t:=55) E S [iv 0,.slice none 0 0,iv 0,iv 0,iv 0,iv 0,.slice none 0 0,.slice none 0 0,.slice none 0 0,.slice none 0 0,iv 0,.bool false,iv 0,iv 0,.string (⟨#[]⟩:ByteArray),iv 0,iv 0,iv 0,iv 0,iv 0,iv 0,iv 0,iv 0,.bool false,iv 0] fun b4 u5 hb4 S a E=>plc E (.r 2 1 .nil) (fun a E=>pld (hK1 _ _ (sq fun K6 hK6=>pl0 (plc E (.r 0 2<|.bn 2 0 7 (S.ba 1)<|.r 3 2<|.nil) (fun a E=>pla (t:=55) E S [iv 0,.slice none 0 0,iv 0,iv 0,iv 0,iv 0,.slice none 0 0,.slice none 0 0,.slice none 0 0,.slice none 0 0,iv 0,.bool false,iv 0,iv 0,.string (⟨#[]⟩:ByteArray),iv 0,iv 0,iv 0,iv 0,iv 0,iv 0,iv 0,iv 0,.bool false,iv 0] fun b7 u8 hb7 S a E=>pls E S [iv x,.slice A1_0 y.length c1_0,iv z.f0,iv z.f1,iv z.f2,iv z.f3,.slice A2_4 z.f4.length c2_4,.slice A2_5 z.f5.length c2_5,.slice A2_6 z.f6.length c2_6,.slice none 0 0,iv 0,.bool false,iv 0,iv 0,.string (⟨#[]⟩:ByteArray),iv 0,iv 0,iv 0,iv 0,iv 0,iv 0,iv 0,iv 0,.bool false,iv 0] fun u9 hb7 S a E=>?_))))))
 refine pld (hK6 _ _ (sq fun K10 hK10=>sq fun K11 hK11=>pl0 (plc E (.bn 0 0 25 hb7 .nil) (fun a E=>?_))))
 obtain ⟨t13,h14,H⟩:=bd H
 refine plq E S en50 (client_Check.calls k (⟨x,y,(⟨z,[]⟩:qAa),0,false,0,(⟨0,(⟨#[]⟩:ByteArray),(⟨0,0⟩:qk),0,0,0⟩:qAf),0,0,(⟨0,false,0⟩:qAO)⟩:qc) _ _ _ _ _ _ _ _ _ _ _ _ _ S.own.sub g1_0 g2_4 g2_5 g2_6 (Rd.nil _ _) h14) fun u12 S a E=>plc E (.r 2 1 .nil) (fun a E=>pld (hK11 _ _ (rr E fun a E=>(E.ikn 18 H (fun c16 E H=>?_) fun c16 E H=>?_))))
 refine wp_skip (hK10 _ _ (sq fun K22 hK22=>pl0 (plc E (.bn 0 0 25 (S.ba 0) .nil) (fun a E=>?_))))
 obtain ⟨t24,h25,H⟩:=bd H
 refine ple E (.cl en51 (client_own.calls k (⟨x,y,(⟨z,[]⟩:qAa),0,false,0,(⟨0,(⟨#[]⟩:ByteArray),(⟨0,0⟩:qk),0,0,0⟩:qAf),0,0,(⟨0,false,0⟩:qAO)⟩:qc) _ _ _ _ _ _ _ _ _ _ _ _ _ S.own.sub g1_0 g2_4 g2_5 g2_6 (Rd.nil _ _) h25)) ?_
 rintro _ u23 a ⟨F26,A27,c28,A31,c32,A34,c35,A37,c38,A41,c42,rfl,hC,g33,g36⟩ E
 have hs:=hC.sub
 replace S:=S.called (X:=[]) hC
 replace g1_0:=g1_0.mono hs
 replace g2_4:=g2_4.mono hs
 replace g2_5:=g2_5.mono hs
 replace g2_6:=g2_6.mono hs
 replace S:=S.front 4 rfl
 refine pls E S [iv t24.f0,.slice A27 t24.f1.length c28,iv t24.f2.f0.f0,iv t24.f2.f0.f1,iv t24.f2.f0.f2,iv t24.f2.f0.f3,.slice A31 t24.f2.f0.f4.length c32,.slice A34 t24.f2.f0.f5.length c35,.slice A37 t24.f2.f0.f6.length c38,.slice A41 t24.f2.f1.length c42,iv t24.f3,.bool t24.f4,iv t24.f5,iv t24.f6.f0,.string t24.f6.f1,iv t24.f6.f2.f0,iv t24.f6.f2.f1,iv t24.f6.f3,iv t24.f6.f4,iv t24.f6.f5,iv t24.f7,iv t24.f8,iv t24.f9.f0,.bool t24.f9.f1,iv t24.f9.f2] fun u45 hb4 S a E=>plc E (.r 3 1 .nil) (fun a E=>pld (hK22 _ _ (wp_ret ?_)))
 replace S:=S.pm [1,2,3] 6
 obtain rfl:=si H
 exact rtm E (.b hb4 ag55 sz55 (.t .nil)) ⟨_,rfl,_,_,_,_,_,_,_,_,_,_,_,rfl,S,g33,g36⟩
 refine sq fun K17 hK17=>pl0 (plc E (.r 0 2 .nil) (fun a E=>?_))
 replace S:=S.front 1 rfl
 refine pls E S [iv 0,.slice none 0 0,iv 0,iv 0,iv 0,iv 0,.slice none 0 0,.slice none 0 0,.slice none 0 0,.slice none 0 0,iv 0,.bool false,iv 0,iv 0,.string (⟨#[]⟩:ByteArray),iv 0,iv 0,iv 0,iv 0,iv 0,iv 0,iv 0,iv 0,.bool false,iv 0] fun u18 hb4 S a E=>plc E (.r 3 1 .nil) (fun a E=>pld (hK17 _ _ (wp_ret (qCJ ?_))))
 replace S:=S.nilrow ki 3
 replace S:=S.nilrow qC.k 87
 replace S:=S.nilrow qE.k 96
 replace S:=S.pm [2,1,0] 6
 obtain rfl:=si H
 exact rtm E (.b hb4 ag55 sz55 (.t .nil)) ⟨_,rfl,_,_,_,_,_,_,_,_,_,_,_,rfl,S,(Rd.nil _ _),(Rd.nil _ _)⟩
def qBu.f(k:Nat)(x:qAa):Option qF:=(qAv.f k x).bind fun t9=>(if t9=0 then ((qBK.f k x.f0 x.f1).bind fun t17=>(some t17)) else (some (⟨0,0,0,0,[],[],[]⟩:qF)))
def qBu.Post(W F:World)(r:qF)(v:Value)(w':World):Prop:=∃(F':World)(RA0_4:OA)(rc0_4:Nat)(RA0_5:OA)(rc0_5:Nat)(RA0_6:OA)(rc0_6:Nat),v = .agg #[iv r.f0,iv r.f1,iv r.f2,iv r.f3,.slice RA0_4 r.f4.length rc0_4,.slice RA0_5 r.f5.length rc0_5,.slice RA0_6 r.f6.length rc0_6]∧Sm W F w' F' [row qC.k 87 (.slice RA0_6 r.f6.length rc0_6) r.f6]∧Rd qA.k F' RA0_4 rc0_4 r.f4∧Rd qI.k F' RA0_5 rc0_5 r.f5
theorem qBu.calls(k:Nat)(x:qAa)(A0_4:OA)(c0_4:Nat)(A0_5:OA)(c0_5:Nat)(A0_6:OA)(c0_6:Nat)(A0_7:OA)(c0_7:Nat)(r:qF)(W F:World)(hown:Sub F W)(g0_4:Rd qA.k F A0_4 c0_4 x.f0.f4)(g0_5:Rd qI.k F A0_5 c0_5 x.f0.f5)(g0_6:Rd qC.k F A0_6 c0_6 x.f0.f6)(g0_7:Rd qE.k F A0_7 c0_7 x.f1)(H:qBu.f k x=some r):
    Cr 68 #[.agg #[iv x.f0.f0,iv x.f0.f1,iv x.f0.f2,iv x.f0.f3,.slice A0_4 x.f0.f4.length c0_4,.slice A0_5 x.f0.f5.length c0_5,.slice A0_6 x.f0.f6.length c0_6,.slice A0_7 x.f1.length c0_7]] W (qBu.Post W F r):=by
 have S:=sT hown
 unfold qBu.f at H
 refine ent 12 rfl rfl rfl (fun a E=>?_)
 refine sq fun K1 hK1=>pl0 (plx (t:=47) E S [iv x.f0.f0,iv x.f0.f1,iv x.f0.f2,iv x.f0.f3,.slice A0_4 x.f0.f4.length c0_4,.slice A0_5 x.f0.f5.length c0_5,.slice A0_6 x.f0.f6.length c0_6,.slice A0_7 x.f1.length c0_7] fun b2 u3 hb2 S a E=>pla (t:=27) E S [iv 0,iv 0,iv 0,iv 0,.slice none 0 0,.slice none 0 0,.slice none 0 0] fun b4 u5 hb4 S a E=>pld (hK1 _ _ (sq fun K6 hK6=>sq fun K7 hK7=>pl0 ?_)))
 have hb2:=S.ba 1
 refine plc E (.bn 0 0 8 hb2 .nil) (fun a E=>?_)
 obtain ⟨t9,h10,H⟩:=bd H
 refine plq E S en113 (qAv.calls k x _ _ _ _ _ _ _ _ _ _ _ S.own.sub g0_4 g0_5 g0_6 g0_7 h10) fun u8 S a E=>plc E (.r 2 1 .nil) (fun a E=>pld (hK7 _ _ (E.ikn 5 H (fun c11 E H=>?_) fun c11 E H=>?_)))
 refine wp_skip (hK6 _ _ (sq fun K15 hK15=>pl0 ?_))
 have hb2:=S.ba 1
 refine plc E (.r 0 1<|.bn 1 0 7 hb2<|.r 2 1<|.b 3 7 hb2<|.nil) (fun a E=>?_)
 obtain ⟨t17,h18,H⟩:=bd H
 refine ple E (.cl en48 (qBK.calls k x.f0 x.f1 _ _ _ _ _ _ _ _ _ _ _ S.own.sub g0_4 g0_5 g0_6 g0_7 h18)) ?_
 rintro _ u16 a ⟨F19,A20,c21,A23,c24,A26,c27,rfl,hC,g22,g25⟩ E
 have hs:=hC.sub
 replace S:=S.called (X:=[]) hC
 replace g0_4:=g0_4.mono hs
 replace g0_5:=g0_5.mono hs
 replace g0_6:=g0_6.mono hs
 replace g0_7:=g0_7.mono hs
 replace S:=S.front 1 rfl
 refine pls E S [iv t17.f0,iv t17.f1,iv t17.f2,iv t17.f3,.slice A20 t17.f4.length c21,.slice A23 t17.f5.length c24,.slice A26 t17.f6.length c27] fun u30 hb4 S a E=>pld (hK15 _ _ (wp_ret ?_))
 replace S:=S.pm [1] 3
 obtain rfl:=si H
 exact ret1 E rfl (.cell (by kernel_rfl) (qCW [iv t17.f0,iv t17.f1,iv t17.f2,iv t17.f3,.slice A20 t17.f4.length c21,.slice A23 t17.f5.length c24,.slice A26 t17.f6.length c27] ag27 sz27 hb4 rfl) .nil) ⟨_,rfl,_,_,_,_,_,_,_,rfl,S,g22,g25⟩
 refine sq fun K12 hK12=>pl0 (plc E (.r 0 1 .nil) (fun a E=>pls E S [iv 0,iv 0,iv 0,iv 0,.slice none 0 0,.slice none 0 0,.slice none 0 0] fun u13 hb4 S a E=>pld (hK12 _ _ (wp_ret (qCJ ?_)))))
 replace S:=S.nilrow qC.k 87
 replace S:=S.pm [0] 3
 obtain rfl:=si H
 exact ret1 E rfl (.cell (by kernel_rfl) (qCW [iv 0,iv 0,iv 0,iv 0,.slice none 0 0,.slice none 0 0,.slice none 0 0] ag27 sz27 hb4 rfl) .nil) ⟨_,rfl,_,_,_,_,_,_,_,rfl,S,(Rd.nil _ _),(Rd.nil _ _)⟩
def client_known.f(k:Nat)(x:qc):Option qF:=(qBu.f k x.f2).bind fun t8=>(some t8)
def client_known.Post(W F:World)(r:qF)(v:Value)(w':World):Prop:=∃(F':World)(RA0_4:OA)(rc0_4:Nat)(RA0_5:OA)(rc0_5:Nat)(RA0_6:OA)(rc0_6:Nat),v = .agg #[iv r.f0,iv r.f1,iv r.f2,iv r.f3,.slice RA0_4 r.f4.length rc0_4,.slice RA0_5 r.f5.length rc0_5,.slice RA0_6 r.f6.length rc0_6]∧Sm W F w' F' [row qC.k 87 (.slice RA0_6 r.f6.length rc0_6) r.f6]∧Rd qA.k F' RA0_4 rc0_4 r.f4∧Rd qI.k F' RA0_5 rc0_5 r.f5
theorem client_known.calls(k:Nat)(x:qc)(A0_1:OA)(c0_1:Nat)(A0_6:OA)(c0_6:Nat)(A0_7:OA)(c0_7:Nat)(A0_8:OA)(c0_8:Nat)(A0_9:OA)(c0_9:Nat)(r:qF)(W F:World)(hown:Sub F W)(g0_1:Rd ki F A0_1 c0_1 x.f1)(g0_6:Rd qA.k F A0_6 c0_6 x.f2.f0.f4)(g0_7:Rd qI.k F A0_7 c0_7 x.f2.f0.f5)(g0_8:Rd qC.k F A0_8 c0_8 x.f2.f0.f6)(g0_9:Rd qE.k F A0_9 c0_9 x.f2.f1)(H:client_known.f k x=some r):
    Cr 61 #[.agg #[iv x.f0,.slice A0_1 x.f1.length c0_1,iv x.f2.f0.f0,iv x.f2.f0.f1,iv x.f2.f0.f2,iv x.f2.f0.f3,.slice A0_6 x.f2.f0.f4.length c0_6,.slice A0_7 x.f2.f0.f5.length c0_7,.slice A0_8 x.f2.f0.f6.length c0_8,.slice A0_9 x.f2.f1.length c0_9,iv x.f3,.bool x.f4,iv x.f5,iv x.f6.f0,.string x.f6.f1,iv x.f6.f2.f0,iv x.f6.f2.f1,iv x.f6.f3,iv x.f6.f4,iv x.f6.f5,iv x.f7,iv x.f8,iv x.f9.f0,.bool x.f9.f1,iv x.f9.f2]] W (client_known.Post W F r):=by
 have S:=sT hown
 unfold client_known.f at H
 refine ent 6 rfl rfl rfl (fun a E=>?_)
 refine sq fun K1 hK1=>pl0 (plx (t:=55) E S [iv x.f0,.slice A0_1 x.f1.length c0_1,iv x.f2.f0.f0,iv x.f2.f0.f1,iv x.f2.f0.f2,iv x.f2.f0.f3,.slice A0_6 x.f2.f0.f4.length c0_6,.slice A0_7 x.f2.f0.f5.length c0_7,.slice A0_8 x.f2.f0.f6.length c0_8,.slice A0_9 x.f2.f1.length c0_9,iv x.f3,.bool x.f4,iv x.f5,iv x.f6.f0,.string x.f6.f1,iv x.f6.f2.f0,iv x.f6.f2.f1,iv x.f6.f3,iv x.f6.f4,iv x.f6.f5,iv x.f7,iv x.f8,iv x.f9.f0,.bool x.f9.f1,iv x.f9.f2] fun b2 u3 hb2 S a E=>pla (t:=27) E S [iv 0,iv 0,iv 0,iv 0,.slice none 0 0,.slice none 0 0,.slice none 0 0] fun b4 u5 hb4 S a E=>pld (hK1 _ _ (sq fun K6 hK6=>pl0 (plc E (.r 0 1<|.bn 1 2 8 (S.ba 1)<|.nil) (fun a E=>?_)))))
 obtain ⟨t8,h9,H⟩:=bd H
 refine ple E (.cl en68 (qBu.calls k x.f2 _ _ _ _ _ _ _ _ _ _ _ S.own.sub g0_6 g0_7 g0_8 g0_9 h9)) ?_
 rintro _ u7 a ⟨F10,A11,c12,A14,c15,A17,c18,rfl,hC,g13,g16⟩ E
 have hs:=hC.sub
 replace S:=S.called (X:=[]) hC
 replace g0_1:=g0_1.mono hs
 replace g0_6:=g0_6.mono hs
 replace g0_7:=g0_7.mono hs
 replace g0_8:=g0_8.mono hs
 replace g0_9:=g0_9.mono hs
 replace S:=S.front 1 rfl
 refine pls E S [iv t8.f0,iv t8.f1,iv t8.f2,iv t8.f3,.slice A11 t8.f4.length c12,.slice A14 t8.f5.length c15,.slice A17 t8.f6.length c18] fun u21 hb4 S a E=>pld (hK6 _ _ (wp_ret ?_))
 replace S:=S.pm [1] 3
 obtain rfl:=si H
 exact ret1 E rfl (.cell (by kernel_rfl) (qCW [iv t8.f0,iv t8.f1,iv t8.f2,iv t8.f3,.slice A11 t8.f4.length c12,.slice A14 t8.f5.length c15,.slice A17 t8.f6.length c18] ag27 sz27 hb4 rfl) .nil) ⟨_,rfl,_,_,_,_,_,_,_,rfl,S,g13,g16⟩
mutual
def qBO.l14:Nat→Int→ByteArray→List Int→Int→Option Int
 | 0,_,_,_,_=>none
 | k+1,x,y,l12,x13=>if x13<(y.size:Int) then (if (x13.tmod 8)=0 then (if ((l12.length:Int)+((1:Nat):Int)) * 8≤140737488355328 then (qBO.j38 k x y x13 (l12++[0])) else (none)) else (qBO.j38 k x y x13 l12)) else ((qBI.f k x l12).bind fun t61=>(some t61))
def qBO.j38:Nat→Int→ByteArray→Int→List Int→Option Int
 | 0,_,_,_,_=>none
 | k+1,x,y,x13,l37=>if 0≤(w64 ((l37.length:Int) - 1))∧(w64 ((l37.length:Int) - 1))<(l37.length:Int) then (if 0≤x13∧x13<(y.size:Int) then (if 0≤(w64 (8 * (x13.tmod 8))) then (qBO.l14 k x y (l37.set ((w64 ((l37.length:Int) - 1))).toNat (IntKind.u64.wrap (((BitVec.ofInt 64 (nth 0 l37 (w64 ((l37.length:Int) - 1))) ||| BitVec.ofInt 64 (IntKind.u64.wrap ((IntKind.u64.wrap (byteAt y x13)) * 2 ^ (min (w64 (8 * (x13.tmod 8))).toNat 64)))).toNat:Int)))) (w64 (x13+1))) else (none)) else (none)) else (none)
end
theorem qBO.l14_s k x y l12 x13:type_of% (qBO.l14.eq_2 x y l12 x13 k):=qBO.l14.eq_2 x y l12 x13 k
theorem qBO.j38_s k x y x13 l37:type_of% (qBO.j38.eq_2 x y x13 l37 k):=qBO.j38.eq_2 x y x13 l37 k
def qBO.f(k:Nat)(x:Int)(y:ByteArray):Option Int:=qBO.l14 k x y [(IntKind.u64.wrap (y.size:Int))] 0
def qBO.Post(W F:World)(r:Int)(v:Value)(w':World):Prop:=∃(F':World),v = .int .u64 r∧Sm W F w' F' []
theorem qBO.calls(k:Nat)(x:Int)(y:ByteArray)(r:Int)(W F:World)(hown:Sub F W)(H:qBO.f k x y=some r):
    Cr 57 #[.int .u64 x,.string y] W (qBO.Post W F r):=by
 have S:=sT hown
 unfold qBO.f at H
 refine ent 42 rfl rfl rfl (fun a E=>?_)
 refine rr E fun a E=>(sq fun K2 hK2=>pl0 (plc E (.r 0 3 .nil) (fun a E=>ple E (.lit (d:=(Kn.int .u64)) (e:=117) S [(IntKind.u64.wrap (y.size:Int))] (.cons rfl .nil)) ?_)))
 rintro _ u3 a ⟨A4,c5,rfl,S,hg⟩ E
 refine plc E (.r 4 1 .nil) (fun a E=>pld (hK2 _ _ (sq fun K7 hK7=>rr E fun a E=>(wp_block ?_))))
 refine wp_loop_ghost (fun kq15 a w'=>∃(G:NV)(A10:OA)(c11:Nat)(l12:List Int)(x13:Int),kq15≤k∧Env 42 G a∧At G [(0,.int .u64 x),(1,.string y),(5,.slice A10 l12.length c11),(12,iv (y.size:Int)),(13,iv x13)]∧Sm W F w' F [row (Kn.int .u64) 117 (.slice A10 l12.length c11) l12]∧qBO.l14 kq15 x y l12 x13=some r) k ⟨_,A4,c5,[(IntKind.u64.wrap (y.size:Int))],0,Nat.le_refl _,E,.of,S,H⟩ ?_
 rintro kq15 a u17 ⟨G,A10,c11,l12,x13,hkq,E,A,S,H⟩
 obtain _ | k16:=kq15
 exact zz H
 rw [qBO.l14_s]at H
 obtain ⟨J,E⟩:=E.at A
 refine rr E fun a E=>(sq fun K19 hK19=>E.ik 14 H (fun c20 E H=>?_) fun c20 E H=>?_)
 refine wp_skip (hK19 _ _ (sq fun K21 hK21=>wp_block (rr E fun a E=>(sq fun K23 hK23=>?_))))
 have J41:∀ kq39,kq39≤k16→∀(G:NV)(A35:OA)(c36:Nat)(l37:List Int)(a:Act)(w':World),Env 42 G a→At G [(0,.int .u64 x),(1,.string y),(5,.slice A35 l37.length c36),(6,iv x13),(12,iv (y.size:Int)),(13,iv x13)]→Sm W F w' F [row (Kn.int .u64) 117 (.slice A35 l37.length c36) l37]→qBO.j38 kq39 x y x13 l37=some r→K23 a w':=by
  intro kq39 hkq G A35 c36 l37 a u42 E A S H
  obtain _ | k40:=kq39
  exact zz H
  rw [qBO.j38_s]at H
  obtain ⟨J,E⟩:=E.at A
  refine hK23 _ _ ?_
  refine drawn 17 ⟨[16],[],fun q=>False⟩ mixed rfl (by kernel_rfl) (fun hst=>?_)
  replace S:=S.drew
  obtain ⟨c43,H⟩:=gd H
  have hr44:=S.ra 0
  have hE_:=E
  obtain ⟨b45,rfl⟩:=qCP hr44 c43.1 c43.2
  replace E:=hE_
  have hr_:=S.ra 0
  obtain ⟨cs47,rfl,hc48⟩:=qCO hr_ 0 (w64 ((l37.length:Int) - 1)) c43.1 c43.2
  obtain ⟨c49,H⟩:=gd H
  obtain ⟨c50,H⟩:=gd H
  have hr51:=S.ra 0
  refine mny 1 hst E (.r 0 4<|.x 4 c43<|.c 5 (hc48 0 _ rfl)<|.r 6 2<|.y 8 (qFk c49)<|.r 9 4<|.y 13 (y_shl 117 .u64 .i64 64 (IntKind.u64.wrap (byteAt y x13)) c50)<|.r 14 1<|.x 15 c43<|.nil) (fun a E=>?_)
  obtain ⟨cs56,rfl,hc57⟩:=qCO (S.row_at (i:=0) rfl) 0 (w64 ((l37.length:Int) - 1)) c43.1 c43.2
  refine on1 16 E (.set (d:=(Kn.int .u64)) (n:=l37.length) (i:=(w64 ((l37.length:Int) - 1))) (IntKind.u64.wrap (((BitVec.ofInt 64 (nth 0 l37 (w64 ((l37.length:Int) - 1))) ||| BitVec.ofInt 64 (IntKind.u64.wrap ((IntKind.u64.wrap (byteAt y x13)) * 2 ^ (min (w64 (8 * (x13.tmod 8))).toNat 64)))).toNat:Int))) (0) (ea0 _ _) S c43 [.int .u64 (nth 0 l37 (w64 ((l37.length:Int) - 1)))] hc57 [.int .u64 (IntKind.u64.wrap (((BitVec.ofInt 64 (nth 0 l37 (w64 ((l37.length:Int) - 1))) ||| BitVec.ofInt 64 (IntKind.u64.wrap ((IntKind.u64.wrap (byteAt y x13)) * 2 ^ (min (w64 (8 * (x13.tmod 8))).toNat 64)))).toNat:Int)))] rfl) ?_
  rintro _ u55 a ⟨rfl,S,hz⟩ E
  refine ⟨.d,?_⟩
  refine dn ?_
  refine qCL ?_
  refine hK21 _ _ (pl0 (plc E (.r 0 2 .nil) (fun a E=>pld ?_)))
  have hn58:=(qCN (S.row_at (i:=0) rfl)).1
  replace E:=E.set (d:=5) (v:=.slice (pb b45) ((l37.set ((w64 ((l37.length:Int) - 1))).toNat (IntKind.u64.wrap (((BitVec.ofInt 64 (nth 0 l37 (w64 ((l37.length:Int) - 1))) ||| BitVec.ofInt 64 (IntKind.u64.wrap ((IntKind.u64.wrap (byteAt y x13)) * 2 ^ (min (w64 (8 * (x13.tmod 8))).toNat 64)))).toNat:Int)))).length) c36) (Eq.trans (b:=.slice (pb b45) l37.length c36) (by kernel_rfl) (by rw [← hn58]))
  replace S:Sm W F u55 F [row (Kn.int .u64) 117 (.slice (pb b45) ((l37.set ((w64 ((l37.length:Int) - 1))).toNat (IntKind.u64.wrap (((BitVec.ofInt 64 (nth 0 l37 (w64 ((l37.length:Int) - 1))) ||| BitVec.ofInt 64 (IntKind.u64.wrap ((IntKind.u64.wrap (byteAt y x13)) * 2 ^ (min (w64 (8 * (x13.tmod 8))).toNat 64)))).toNat:Int)))).length) c36) (l37.set ((w64 ((l37.length:Int) - 1))).toNat (IntKind.u64.wrap (((BitVec.ofInt 64 (nth 0 l37 (w64 ((l37.length:Int) - 1))) ||| BitVec.ofInt 64 (IntKind.u64.wrap ((IntKind.u64.wrap (byteAt y x13)) * 2 ^ (min (w64 (8 * (x13.tmod 8))).toNat 64)))).toNat:Int))))]:=by rw [← hn58]; exact S
  exact qCM ⟨k40,by omega,_,(pb b45),c36,(l37.set ((w64 ((l37.length:Int) - 1))).toNat (IntKind.u64.wrap (((BitVec.ofInt 64 (nth 0 l37 (w64 ((l37.length:Int) - 1))) ||| BitVec.ofInt 64 (IntKind.u64.wrap ((IntKind.u64.wrap (byteAt y x13)) * 2 ^ (min (w64 (8 * (x13.tmod 8))).toNat 64)))).toNat:Int)))),(w64 (x13+1)),by omega,E,.of,S,H⟩
 refine rr E fun a E=>(E.ik 18 H (fun c25 E H=>?_) fun c25 E H=>?_)
 refine pl0 (plc E (.r 0 1 .nil) (fun a E=>ple E (.lit (d:=(Kn.int .u64)) (e:=117) S [0] (.cons rfl .nil)) ?_))
 rintro _ u26 a ⟨A27,c28,rfl,S,hg⟩ E
 obtain ⟨c30,H⟩:=gd H
 replace S:=S.front 1 rfl
 refine ple E (.ap (d:=(Kn.int .u64)) 8 S (qCX (S.row_at (i:=1) rfl)) c30 c28) ?_
 rintro _ u33 a ⟨A31,c32,rfl,S,hz⟩ E
 refine plc E (.r 3 1 .nil) (fun a E=>pld ?_)
 replace S:=S.pm [0] 2
 exact J41 _ (by omega) _ A31 c32 (l12++[0]) _ _ E .of S H
 refine wp_skip ?_
 exact J41 _ (by omega) _ A10 c11 l12 _ _ E .of S H
 refine wp_exit ?_
 refine hK7 _ _ (sq fun K59 hK59=>pl0 (plc E (.r 0 2 .nil) (fun a E=>?_)))
 obtain ⟨t61,h62,H⟩:=bd H
 refine plq E S en121 (qBI.calls k16 x l12 _ _ _ _ _ (Sub.refl _) (S.rd_at (i:=0) rfl) h62) fun u60 S a E=>plc E (.r 3 1 .nil) (fun a E=>pld (hK59 _ _ (wp_ret ?_)))
 replace S:=S.tail
 obtain rfl:=si H
 exact rt1 E ⟨_,rfl,_,rfl,S⟩
def qBa.j6:Nat→Int→Int→Bool→Option Int
 | 0,_,_,_=>none
 | k+1,x,y,y5=>if y5=true then (some 0) else (some (w64 ((IntKind.u64.wrap ((x.fdiv 4294967296) * (IntKind.u64.wrap y))).fdiv 4294967296)))
theorem qBa.j6_s k x y y5:type_of% (qBa.j6.eq_2 x y y5 k):=qBa.j6.eq_2 x y y5 k
def qBa.f(k:Nat)(x:Int)(y:Int):Option Int:=if y<1 then (qBa.j6 k x y true) else (qBa.j6 k x y (decide (y>2147483647)))
def qBa.Post(W F:World)(r:Int)(v:Value)(w':World):Prop:=∃(F':World),v=iv r∧Sm W F w' F' []
theorem qBa.calls(k:Nat)(x:Int)(y:Int)(r:Int)(W F:World)(hown:Sub F W)(H:qBa.f k x y=some r):
    Cr 56 #[.int .u64 x,iv y] W (qBa.Post W F r):=by
 have S:=sT hown
 unfold qBa.f at H
 refine ent 18 rfl rfl rfl (fun a E=>?_)
 refine rr E fun a E=>(sq fun K2 hK2=>sq fun K3 hK3=>?_)
 have J9:∀ kq7,kq7≤k→∀(G:NV)(y5:Bool)(a:Act)(w':World),Env 18 G a→At G [(0,.int .u64 x),(1,iv y),(10,.bool y5)]→Sm W F w' F []→qBa.j6 kq7 x y y5=some r→K3 a w':=by
  intro kq7 hkq G y5 a u10 E A S H
  obtain _ | k8:=kq7
  exact zz H
  rw [qBa.j6_s]at H
  obtain ⟨J,E⟩:=E.at A
  refine hK3 _ _ (E.ib 10 H (fun c11 E H=>?_) fun c11 E H=>?_)
  refine rr E fun a E=>(wp_ret (qCJ ?_))
  obtain rfl:=si H
  exact rt1 E ⟨_,rfl,_,rfl,S⟩
  refine wp_skip (hK2 _ _ (rr E fun a E=>(wp_ret ?_)))
  obtain rfl:=si H
  exact rt1 E ⟨_,rfl,_,rfl,S⟩
 refine pl0 (plc E (.r 0 3 .nil) (fun a E=>E.fk 7 H (fun c4 E H=>?_) fun c4 E H=>?_))
 refine plc E (.r 3 3 .nil) (fun a E=>pld ?_)
 exact J9 _ (by omega) _ true _ _ E .of S H
 refine plc E (.r 3 3 .nil) (fun a E=>pld ?_)
 exact J9 _ (by omega) _ (decide (y>2147483647)) _ _ E .of S H
def client_Group.f(k:Nat)(x:qF)(y:ByteArray):Option Int:=(qt.f k x).bind fun t7=>(if t7=0 then ((qBO.f k 0 y).bind fun t13=>((qBa.f k t13 x.f3).bind fun t16=>(some t16))) else (some 0))
def client_Group.Post(W F:World)(r:Int)(v:Value)(w':World):Prop:=∃(F':World),v=iv r∧Sm W F w' F' []
theorem client_Group.calls(k:Nat)(x:qF)(y:ByteArray)(A0_4:OA)(c0_4:Nat)(A0_5:OA)(c0_5:Nat)(A0_6:OA)(c0_6:Nat)(r:Int)(W F:World)(hown:Sub F W)(g0_4:Rd qA.k F A0_4 c0_4 x.f4)(g0_5:Rd qI.k F A0_5 c0_5 x.f5)(g0_6:Rd qC.k F A0_6 c0_6 x.f6)(H:client_Group.f k x y=some r):
    Cr 22 #[.agg #[iv x.f0,iv x.f1,iv x.f2,iv x.f3,.slice A0_4 x.f4.length c0_4,.slice A0_5 x.f5.length c0_5,.slice A0_6 x.f6.length c0_6],.string y] W (client_Group.Post W F r):=by
 have S:=sT hown
 unfold client_Group.f at H
 refine ent 13 rfl rfl rfl (fun a E=>?_)
 refine sq fun K1 hK1=>pl0 (plx (t:=27) E S [iv x.f0,iv x.f1,iv x.f2,iv x.f3,.slice A0_4 x.f4.length c0_4,.slice A0_5 x.f5.length c0_5,.slice A0_6 x.f6.length c0_6] fun b2 u3 hb2 S a E=>plc E (.r 1 1 .nil) (fun a E=>pld (hK1 _ _ (sq fun K4 hK4=>sq fun K5 hK5=>pl0 (plc E (.bn 0 0 7 hb2 .nil) (fun a E=>?_))))))
 obtain ⟨t7,h8,H⟩:=bd H
 refine plq E S en37 (qt.calls k x _ _ _ _ _ _ _ _ _ S.own.sub g0_4 g0_5 g0_6 h8) fun u6 S a E=>plc E (.r 2 1 .nil) (fun a E=>pld (hK5 _ _ (E.ikn 7 H (fun c9 E H=>?_) fun c9 E H=>?_)))
 refine wp_skip (hK4 _ _ (sq fun K11 hK11=>?_))
 refine drawn 6 ⟨[],[],fun q=>False⟩ mixed rfl (by kernel_rfl) (fun hst=>?_)
 replace S:=S.drew
 have hb2:=S.ba 0
 refine mny 3 hst E (.r 0 1<|.r 2 1<|.b 3 3 hb2<|.nil) (fun a E=>?_)
 obtain ⟨t13,h14,H⟩:=bd H
 refine on1 1 E (.cl en57 (qBO.calls k 0 y _ _ _ S.own.sub h14)) ?_
 rintro _ u12 a ⟨_,rfl,hC⟩ E
 refine ⟨.of hC.agr,?_⟩
 replace S:=S.lent hC
 obtain ⟨t16,h17,H⟩:=bd H
 refine on1 4 E (.cl en56 (qBa.calls k t13 x.f3 _ _ _ S.own.sub h17)) ?_
 rintro _ u15 a ⟨_,rfl,hC⟩ E
 refine ⟨.of hC.agr,?_⟩
 replace S:=S.lent hC
 refine mny 0 hst E (.r 5 1 .nil) (fun a E=>?_)
 refine dn ?_
 refine hK11 _ _ (wp_ret ?_)
 replace S:=S.tail
 obtain rfl:=si H
 exact rt1 E ⟨_,rfl,_,rfl,S⟩
 refine rr E fun a E=>(wp_ret (qCJ ?_))
 replace S:=S.tail
 obtain rfl:=si H
 exact rt1 E ⟨_,rfl,_,rfl,S⟩
end Go.Proofs.YtpabbpebefdafaaGreat.CN
