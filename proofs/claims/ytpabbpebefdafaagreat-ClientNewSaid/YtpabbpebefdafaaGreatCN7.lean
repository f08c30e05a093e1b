import Derived.Test.YtpabbpebefdafaaGreatCN6
namespace Go.Proofs.YtpabbpebefdafaaGreat.CN
open Go Go.RowKit Go.Proofs.YtpabbpebefdafaaGreat.Sl
set_option linter.unusedVariables false
set_option linter.unusedSimpArgs false
set_option maxHeartbeats 4000000
set_option maxRecDepth 100000
mutual
def qi.l5:Nat→List qA→List Int→Int→Option Bool
 | 0,_,_,_=>none
 | k+1,x,y,x4=>if x4<(y.length:Int) then (if 0≤x4∧x4<(y.length:Int) then ((qAA.f k x (nth 0 y x4)).bind fun t20=>(if t20.2=true then (qi.l31 k x y x4 t20 0) else (some false))) else (none)) else (some true)
def qi.l31:Nat→List qA→List Int→Int→qA × Bool→Int→Option Bool
 | 0,_,_,_,_,_=>none
 | k+1,x,y,x4,t20,x30=>if x30<x4 then (if 0≤x30∧x30<(y.length:Int) then ((qAA.f k x (nth 0 y x30)).bind fun t45=>(if t20.1.f1=t45.1.f1 then (some false) else (qi.l31 k x y x4 t20 (w64 (x30+1))))) else (none)) else (qi.l5 k x y (w64 (x4+1)))
end
theorem qi.l5_s k x y x4:type_of% (qi.l5.eq_2 x y x4 k):=qi.l5.eq_2 x y x4 k
theorem qi.l31_s k x y x4 t20 x30:type_of% (qi.l31.eq_2 x y x4 t20 x30 k):=qi.l31.eq_2 x y x4 t20 x30 k
def qi.f(k:Nat)(x:List qA)(y:List Int):Option Bool:=qi.l5 k x y 0
def qi.Post(W F:World)(r:Bool)(v:Value)(w':World):Prop:=∃(F':World),v = .bool r∧Sm W F w' F' []
theorem qi.calls(k:Nat)(x:List qA)(y:List Int)(A0_0:OA)(c0_0:Nat)(A1_0:OA)(c1_0:Nat)(r:Bool)(W F:World)(hown:Sub F W)(g0_0:Rd qA.k F A0_0 c0_0 x)(g1_0:Rd ki F A1_0 c1_0 y)(H:qi.f k x y=some r):
    Cr 40 #[.slice A0_0 x.length c0_0,.slice A1_0 y.length c1_0] W (qi.Post W F r):=by
 have S:=sT hown
 unfold qi.f at H
 refine ent 47 rfl rfl rfl (fun a E=>?_)
 refine rr E fun a E=>(sq fun K2 hK2=>rr E fun a E=>(wp_block ?_))
 refine wp_loop_ghost (fun kq6 a w'=>∃(G:NV)(x4:Int),kq6≤k∧Env 47 G a∧At G [(0,.slice A0_0 x.length c0_0),(1,.slice A1_0 y.length c1_0),(5,iv x4)]∧Sm W F w' F []∧qi.l5 kq6 x y x4=some r) k ⟨_,0,Nat.le_refl _,E,.of,S,H⟩ ?_
 rintro kq6 a u8 ⟨G,x4,hkq,E,A,S,H⟩
 obtain _ | k7:=kq6
 exact zz H
 rw [qi.l5_s]at H
 obtain ⟨J,E⟩:=E.at A
 refine sq fun K9 hK9=>rr E fun a E=>(E.ik 14 H (fun c11 E H=>?_) fun c11 E H=>?_)
 refine wp_skip (hK9 _ _ (sq fun K12 hK12=>wp_block (sq fun K13 hK13=>pl0 ?_)))
 obtain ⟨c14,H⟩:=gd H
 have hE_:=E
 obtain ⟨ad15,rfl⟩:=g1_0.addr c14.1 c14.2
 replace E:=hE_
 obtain ⟨cs17,rfl,hc18⟩:=g1_0.el 0 x4 c14.1 c14.2
 refine plc E (.r 0 3<|.x 3 c14<|.c 4 (S.fc hc18 0)<|.nil) (fun a E=>?_)
 obtain ⟨t20,h21,H⟩:=bd H
 refine plq E S en106 (qAA.calls k7 x (nth 0 y x4) _ _ _ _ _ S.own.sub g0_0 h21) fun u19 S a E=>plc E (.r 6 3 .nil) (fun a E=>pla (t:=153) E S [iv 0,iv 0,iv 0,iv 0,.bool false,.bool false] fun b22 u23 hb22 S a E=>pls E S [iv t20.1.f0,iv t20.1.f1,iv t20.1.f2,iv t20.1.f3,.bool t20.1.f4,.bool t20.1.f5] fun u24 hb22 S a E=>plc E (.r 11 1 .nil) (fun a E=>pld (hK13 _ _ (sq fun K25 hK25=>rr E fun a E=>(E.ibn 27 H (fun c27 E H=>?_) fun c27 E H=>?_)))))
 refine wp_skip (hK25 _ _ (rr E fun a E=>(wp_block ?_)))
 refine wp_loop_ghost (fun kq32 a w'=>∃(G:NV)(x30:Int),kq32≤k7∧Env 47 G a∧At G [(0,.slice A0_0 x.length c0_0),(1,.slice (some ad15) y.length c1_0),(5,iv x4),(6,.pointer (pb b22)),(8,iv x30)]∧Sm W F w' F [box b22 #[iv t20.1.f0,iv t20.1.f1,iv t20.1.f2,iv t20.1.f3,.bool t20.1.f4,.bool t20.1.f5] 153]∧qi.l31 kq32 x y x4 t20 x30=some r) k7 ⟨_,0,Nat.le_refl _,E,.of,S,H⟩ ?_
 rintro kq32 a u34 ⟨G,x30,hkq,E,A,S,H⟩
 obtain _ | k33:=kq32
 exact zz H
 rw [qi.l31_s]at H
 obtain ⟨J,E⟩:=E.at A
 refine sq fun K35 hK35=>rr E fun a E=>(E.ik 30 H (fun c37 E H=>?_) fun c37 E H=>?_)
 refine wp_skip (hK35 _ _ (sq fun K38 hK38=>wp_block (sq fun K39 hK39=>pl0 ?_)))
 obtain ⟨c40,H⟩:=gd H
 obtain ⟨cs42,rfl,hc43⟩:=g1_0.el 0 x30 c40.1 c40.2
 refine plc E (.r 0 3<|.x 3 c40<|.c 4 (S.fc hc43 0)<|.nil) (fun a E=>?_)
 obtain ⟨t45,h46,H⟩:=bd H
 refine plq E S en106 (qAA.calls k33 x (nth 0 y x30) _ _ _ _ _ S.own.sub g0_0 h46) fun u44 S a E=>plc E (.r 6 3 .nil) (fun a E=>pla (t:=153) E S [iv 0,iv 0,iv 0,iv 0,.bool false,.bool false] fun b47 u48 hb47 S a E=>pls E S [iv t45.1.f0,iv t45.1.f1,iv t45.1.f2,iv t45.1.f3,.bool t45.1.f4,.bool t45.1.f5] fun u49 hb47 S a E=>plc E (.r 11 1 .nil) (fun a E=>pld (hK39 _ _ (rg E (.r 0 1<|.b 1 1 (S.ba 1)<|.r 2 1<|.b 3 1 hb47<|.r 4 1<|.nil) fun a E=>(E.ik 46 H (fun c51 E H=>?_) fun c51 E H=>?_)))))
 refine rr E fun a E=>(wp_ret (qCK (qCJ (qCJ (qCK (qCK (qCJ (qCJ (qCK (qCJ ?_))))))))))
 replace S:=S.pm [] 2
 obtain rfl:=si H
 exact rt1 E ⟨_,rfl,_,rfl,S⟩
 refine wp_skip ?_
 refine qCL ?_
 refine hK38 _ _ (pl0 (plc E (.r 0 3 .nil) (fun a E=>pld ?_)))
 replace S:=S.tail
 exact qCM ⟨k33,by omega,_,(w64 (x30+1)),by omega,E,.of,S,H⟩
 refine wp_exit ?_
 refine hK12 _ _ (pl0 (plc E (.r 0 3 .nil) (fun a E=>pld ?_)))
 replace S:=S.tail
 exact qCM ⟨k33,by omega,_,(w64 (x4+1)),by omega,E,.of,S,H⟩
 refine rr E fun a E=>(wp_ret (qCJ (qCK (qCJ (qCJ (qCK (qCJ ?_)))))))
 replace S:=S.tail
 obtain rfl:=si H
 exact rt1 E ⟨_,rfl,_,rfl,S⟩
 refine wp_exit ?_
 refine hK2 _ _ (rr E fun a E=>(wp_ret ?_))
 obtain rfl:=si H
 exact rt1 E ⟨_,rfl,_,rfl,S⟩
mutual
def qH.l7:Nat→qF→Int→Option Bool
 | 0,_,_=>none
 | k+1,x,x6=>if x6<(x.f6.length:Int) then (if 0≤x6∧x6<(x.f6.length:Int) then (if (nth qC.z x.f6 x6).f0<0 then (qH.j31 k x x6 true) else (qH.j31 k x x6 (decide ((nth qC.z x.f6 x6).f0>x.f0)))) else (none)) else (some ((x.f6.length:Int) == x.f3))
def qH.j31:Nat→qF→Int→Bool→Option Bool
 | 0,_,_,_=>none
 | k+1,x,x6,y30=>if y30=true then (some false) else (qH.l40 k x x6 0)
def qH.l40:Nat→qF→Int→Int→Option Bool
 | 0,_,_,_=>none
 | k+1,x,x6,x39=>if x39<(((nth qC.z x.f6 x6).f1).length:Int) then (if 0≤x39∧x39<(((nth qC.z x.f6 x6).f1).length:Int) then (if (nth qL.z ((nth qC.z x.f6 x6).f1) x39).f0<0 then (qH.j66 k x x6 x39 true) else (if (nth qL.z ((nth qC.z x.f6 x6).f1) x39).f0≥(nth qC.z x.f6 x6).f0 then (qH.j66 k x x6 x39 true) else (if (((nth qL.z ((nth qC.z x.f6 x6).f1) x39).f1).length:Int)<x.f2 then (qH.j66 k x x6 x39 true) else (qH.j66 k x x6 x39 (decide ((((nth qL.z ((nth qC.z x.f6 x6).f1) x39).f1).length:Int)>x.f1)))))) else (none)) else (qH.l7 k x (w64 (x6+1)))
def qH.j66:Nat→qF→Int→Int→Bool→Option Bool
 | 0,_,_,_,_=>none
 | k+1,x,x6,x39,y65=>if y65=true then (some false) else (qH.l76 k x x6 x39 0)
def qH.l76:Nat→qF→Int→Int→Int→Option Bool
 | 0,_,_,_,_=>none
 | k+1,x,x6,x39,x75=>if x75<(((nth qL.z ((nth qC.z x.f6 x6).f1) x39).f1).length:Int) then (if 0≤x75∧x75<(((nth qL.z ((nth qC.z x.f6 x6).f1) x39).f1).length:Int) then (if (nth 0 ((nth qL.z ((nth qC.z x.f6 x6).f1) x39).f1) x75)<1 then (qH.j104 k x x6 x39 x75 true) else (if (nth 0 ((nth qL.z ((nth qC.z x.f6 x6).f1) x39).f1) x75)>999 then (qH.j104 k x x6 x39 x75 true) else (if x75>0 then (if 0≤(w64 (x75 - 1))∧(w64 (x75 - 1))<(((nth qL.z ((nth qC.z x.f6 x6).f1) x39).f1).length:Int) then (qH.j104 k x x6 x39 x75 (decide ((nth 0 ((nth qL.z ((nth qC.z x.f6 x6).f1) x39).f1) (w64 (x75 - 1)))≥(nth 0 ((nth qL.z ((nth qC.z x.f6 x6).f1) x39).f1) x75)))) else (none)) else (qH.j104 k x x6 x39 x75 false)))) else (none)) else (qH.l113 k x x6 x39 0)
def qH.j104:Nat→qF→Int→Int→Int→Bool→Option Bool
 | 0,_,_,_,_,_=>none
 | k+1,x,x6,x39,x75,y103=>if y103=true then (some false) else (qH.l76 k x x6 x39 (w64 (x75+1)))
def qH.l113:Nat→qF→Int→Int→Int→Option Bool
 | 0,_,_,_,_=>none
 | k+1,x,x6,x39,x112=>if x112<x39 then (if 0≤x112∧x112<(((nth qC.z x.f6 x6).f1).length:Int) then (if (nth qL.z ((nth qC.z x.f6 x6).f1) x112).f0≥(nth qL.z ((nth qC.z x.f6 x6).f1) x39).f0 then (qH.j137 k x x6 x39 x112 true) else ((qv.f k ((nth qL.z ((nth qC.z x.f6 x6).f1) x112).f1) ((nth qL.z ((nth qC.z x.f6 x6).f1) x39).f1)).bind fun t134=>(qH.j137 k x x6 x39 x112 t134))) else (none)) else (qH.l40 k x x6 (w64 (x39+1)))
def qH.j137:Nat→qF→Int→Int→Int→Bool→Option Bool
 | 0,_,_,_,_,_=>none
 | k+1,x,x6,x39,x112,y136=>if y136=true then (some false) else (qH.l113 k x x6 x39 (w64 (x112+1)))
end
theorem qH.l7_s k x x6:type_of% (qH.l7.eq_2 x x6 k):=qH.l7.eq_2 x x6 k
theorem qH.j31_s k x x6 y30:type_of% (qH.j31.eq_2 x x6 y30 k):=qH.j31.eq_2 x x6 y30 k
theorem qH.l40_s k x x6 x39:type_of% (qH.l40.eq_2 x x6 x39 k):=qH.l40.eq_2 x x6 x39 k
theorem qH.j66_s k x x6 x39 y65:type_of% (qH.j66.eq_2 x x6 x39 y65 k):=qH.j66.eq_2 x x6 x39 y65 k
theorem qH.l76_s k x x6 x39 x75:type_of% (qH.l76.eq_2 x x6 x39 x75 k):=qH.l76.eq_2 x x6 x39 x75 k
theorem qH.j104_s k x x6 x39 x75 y103:type_of% (qH.j104.eq_2 x x6 x39 x75 y103 k):=qH.j104.eq_2 x x6 x39 x75 y103 k
theorem qH.l113_s k x x6 x39 x112:type_of% (qH.l113.eq_2 x x6 x39 x112 k):=qH.l113.eq_2 x x6 x39 x112 k
theorem qH.j137_s k x x6 x39 x112 y136:type_of% (qH.j137.eq_2 x x6 x39 x112 y136 k):=qH.j137.eq_2 x x6 x39 x112 y136 k
def qH.f(k:Nat)(x:qF):Option Bool:=qH.l7 k x 0
def qH.Post(W F:World)(r:Bool)(v:Value)(w':World):Prop:=∃(F':World),v = .bool r∧Sm W F w' F' []
theorem qH.calls(k:Nat)(x:qF)(A0_4:OA)(c0_4:Nat)(A0_5:OA)(c0_5:Nat)(A0_6:OA)(c0_6:Nat)(r:Bool)(W F:World)(hown:Sub F W)(g0_4:Rd qA.k F A0_4 c0_4 x.f4)(g0_5:Rd qI.k F A0_5 c0_5 x.f5)(g0_6:Rd qC.k F A0_6 c0_6 x.f6)(H:qH.f k x=some r):
    Cr 41 #[.agg #[iv x.f0,iv x.f1,iv x.f2,iv x.f3,.slice A0_4 x.f4.length c0_4,.slice A0_5 x.f5.length c0_5,.slice A0_6 x.f6.length c0_6]] W (qH.Post W F r):=by
 have S:=sT hown
 unfold qH.f at H
 refine ent 139 rfl rfl rfl (fun a E=>?_)
 refine sq fun K1 hK1=>pl0 (plx (t:=27) E S [iv x.f0,iv x.f1,iv x.f2,iv x.f3,.slice A0_4 x.f4.length c0_4,.slice A0_5 x.f5.length c0_5,.slice A0_6 x.f6.length c0_6] fun b2 u3 hb2 S a E=>plc E (.r 1 1 .nil) (fun a E=>pld (hK1 _ _ (sq fun K4 hK4=>rr E fun a E=>(wp_block ?_)))))
 refine wp_loop_ghost (fun kq8 a w'=>∃(G:NV)(x6:Int),kq8≤k∧Env 139 G a∧At G [(1,.pointer (pb b2)),(3,iv x6)]∧Sm W F w' F [box b2 #[iv x.f0,iv x.f1,iv x.f2,iv x.f3,.slice A0_4 x.f4.length c0_4,.slice A0_5 x.f5.length c0_5,.slice A0_6 x.f6.length c0_6] 27]∧qH.l7 kq8 x x6=some r) k ⟨_,0,Nat.le_refl _,E,.of,S,H⟩ ?_
 rintro kq8 a u10 ⟨G,x6,hkq,E,A,S,H⟩
 obtain _ | k9:=kq8
 exact zz H
 rw [qH.l7_s]at H
 obtain ⟨J,E⟩:=E.at A
 refine sq fun K11 hK11=>sq fun K12 hK12=>pl0 ?_
 have hb2:=S.ba 0
 refine plc E (.r 0 2<|.b 2 6 hb2<|.r 3 2<|.nil) (fun a E=>pld (hK12 _ _ (E.ik 13 H (fun c13 E H=>?_) fun c13 E H=>?_)))
 refine wp_skip (hK11 _ _ (sq fun K14 hK14=>wp_block (sq fun K15 hK15=>pl0 ?_)))
 obtain ⟨c16,H⟩:=gd H
 have hE_:=E
 obtain ⟨ad17,rfl⟩:=g0_6.addr c16.1 c16.2
 replace E:=hE_
 obtain ⟨cs19,⟨A21,c22,rfl,g23⟩,hc20⟩:=g0_6.el qC.z x6 c16.1 c16.2
 refine plc E (.r 0 1<|.b 1 6 hb2<|.r 2 1<|.x 3 c16<|.cs 4 (S.fcs hc20)<|.nil) (fun a E=>pla (t:=87) E S [iv 0,.slice none 0 0] fun b24 u25 hb24 S a E=>pls E S [iv ((nth qC.z x.f6 x6).f0),.slice A21 (((nth qC.z x.f6 x6).f1).length) c22] fun u26 hb24 S a E=>pld (hK15 _ _ (sq fun K27 hK27=>sq fun K28 hK28=>?_)))
 have J34:∀ kq32,kq32≤k9→∀(G:NV)(y30:Bool)(a:Act)(w':World),Env 139 G a→At G [(1,.pointer (pb b2)),(3,iv x6),(4,.pointer (pb b24)),(30,.bool y30)]→Sm W F w' F [box b24 #[iv ((nth qC.z x.f6 x6).f0),.slice A21 (((nth qC.z x.f6 x6).f1).length) c22] 87,box b2 #[iv x.f0,iv x.f1,iv x.f2,iv x.f3,.slice A0_4 x.f4.length c0_4,.slice A0_5 x.f5.length c0_5,.slice (some ad17) x.f6.length c0_6] 27]→qH.j31 kq32 x x6 y30=some r→K28 a w':=by
  intro kq32 hkq G y30 a u35 E A S H
  obtain _ | k33:=kq32
  exact zz H
  rw [qH.j31_s]at H
  obtain ⟨J,E⟩:=E.at A
  refine hK28 _ _ (E.ib 30 H (fun c36 E H=>?_) fun c36 E H=>?_)
  refine rr E fun a E=>(wp_ret (qCJ (qCK (qCJ (qCJ (qCK (qCJ ?_)))))))
  replace S:=S.pm [] 2
  obtain rfl:=si H
  exact rt1 E ⟨_,rfl,_,rfl,S⟩
  refine wp_skip (hK27 _ _ (rr E fun a E=>(wp_block ?_)))
  refine wp_loop_ghost (fun kq41 a w'=>∃(G:NV)(x39:Int),kq41≤k33∧Env 139 G a∧At G [(1,.pointer (pb b2)),(3,iv x6),(4,.pointer (pb b24)),(5,iv x39)]∧Sm W F w' F [box b24 #[iv ((nth qC.z x.f6 x6).f0),.slice A21 (((nth qC.z x.f6 x6).f1).length) c22] 87,box b2 #[iv x.f0,iv x.f1,iv x.f2,iv x.f3,.slice A0_4 x.f4.length c0_4,.slice A0_5 x.f5.length c0_5,.slice (some ad17) x.f6.length c0_6] 27]∧qH.l40 kq41 x x6 x39=some r) k33 ⟨_,0,Nat.le_refl _,E,.of,S,H⟩ ?_
  rintro kq41 a u43 ⟨G,x39,hkq,E,A,S,H⟩
  obtain _ | k42:=kq41
  exact zz H
  rw [qH.l40_s]at H
  obtain ⟨J,E⟩:=E.at A
  refine sq fun K44 hK44=>sq fun K45 hK45=>pl0 ?_
  have hb24:=S.ba 0
  refine plc E (.r 0 2<|.b 2 1 hb24<|.r 3 2<|.nil) (fun a E=>pld (hK45 _ _ (E.ik 35 H (fun c46 E H=>?_) fun c46 E H=>?_)))
  refine wp_skip (hK44 _ _ (sq fun K47 hK47=>wp_block (sq fun K48 hK48=>pl0 ?_)))
  obtain ⟨c49,H⟩:=gd H
  have hE_:=E
  obtain ⟨ad50,rfl⟩:=g23.addr c49.1 c49.2
  replace E:=hE_
  obtain ⟨cs52,⟨A54,c55,rfl,g56⟩,hc53⟩:=g23.el qL.z x39 c49.1 c49.2
  refine plc E (.r 0 1<|.b 1 1 hb24<|.r 2 1<|.x 3 c49<|.cs 4 (S.fcs hc53)<|.nil) (fun a E=>pla (t:=89) E S [iv 0,.slice none 0 0] fun b57 u58 hb57 S a E=>pls E S [iv ((nth qL.z ((nth qC.z x.f6 x6).f1) x39).f0),.slice A54 (((nth qL.z ((nth qC.z x.f6 x6).f1) x39).f1).length) c55] fun u59 hb57 S a E=>pld (hK48 _ _ (sq fun K60 hK60=>sq fun K61 hK61=>?_)))
  have J69:∀ kq67,kq67≤k42→∀(G:NV)(y65:Bool)(a:Act)(w':World),Env 139 G a→At G [(1,.pointer (pb b2)),(3,iv x6),(4,.pointer (pb b24)),(5,iv x39),(6,.pointer (pb b57)),(68,.bool y65)]→Sm W F w' F [box b57 #[iv ((nth qL.z ((nth qC.z x.f6 x6).f1) x39).f0),.slice A54 (((nth qL.z ((nth qC.z x.f6 x6).f1) x39).f1).length) c55] 89,box b24 #[iv ((nth qC.z x.f6 x6).f0),.slice (some ad50) (((nth qC.z x.f6 x6).f1).length) c22] 87,box b2 #[iv x.f0,iv x.f1,iv x.f2,iv x.f3,.slice A0_4 x.f4.length c0_4,.slice A0_5 x.f5.length c0_5,.slice (some ad17) x.f6.length c0_6] 27]→qH.j66 kq67 x x6 x39 y65=some r→K61 a w':=by
   intro kq67 hkq G y65 a u70 E A S H
   obtain _ | k68:=kq67
   exact zz H
   rw [qH.j66_s]at H
   obtain ⟨J,E⟩:=E.at A
   refine hK61 _ _ (E.ib 68 H (fun c71 E H=>?_) fun c71 E H=>?_)
   refine rr E fun a E=>(wp_ret (qCJ (qCK (qCJ (qCJ (qCK (qCK (qCJ (qCJ (qCK (qCJ ?_)))))))))))
   replace S:=S.pm [] 3
   obtain rfl:=si H
   exact rt1 E ⟨_,rfl,_,rfl,S⟩
   refine wp_skip (hK60 _ _ (sq fun K73 hK73=>rr E fun a E=>(wp_block ?_)))
   refine wp_loop_ghost (fun kq77 a w'=>∃(G:NV)(x75:Int),kq77≤k68∧Env 139 G a∧At G [(1,.pointer (pb b2)),(3,iv x6),(4,.pointer (pb b24)),(5,iv x39),(6,.pointer (pb b57)),(7,iv x75)]∧Sm W F w' F [box b57 #[iv ((nth qL.z ((nth qC.z x.f6 x6).f1) x39).f0),.slice A54 (((nth qL.z ((nth qC.z x.f6 x6).f1) x39).f1).length) c55] 89,box b24 #[iv ((nth qC.z x.f6 x6).f0),.slice (some ad50) (((nth qC.z x.f6 x6).f1).length) c22] 87,box b2 #[iv x.f0,iv x.f1,iv x.f2,iv x.f3,.slice A0_4 x.f4.length c0_4,.slice A0_5 x.f5.length c0_5,.slice (some ad17) x.f6.length c0_6] 27]∧qH.l76 kq77 x x6 x39 x75=some r) k68 ⟨_,0,Nat.le_refl _,E,.of,S,H⟩ ?_
   rintro kq77 a u79 ⟨G,x75,hkq,E,A,S,H⟩
   obtain _ | k78:=kq77
   exact zz H
   rw [qH.l76_s]at H
   obtain ⟨J,E⟩:=E.at A
   refine sq fun K80 hK80=>sq fun K81 hK81=>pl0 ?_
   have hb57:=S.ba 0
   refine plc E (.r 0 2<|.b 2 1 hb57<|.r 3 2<|.nil) (fun a E=>pld (hK81 _ _ (E.ik 73 H (fun c82 E H=>?_) fun c82 E H=>?_)))
   refine wp_skip (hK80 _ _ (sq fun K83 hK83=>wp_block (sq fun K84 hK84=>?_)))
   have J107:∀ kq105,kq105≤k78→∀(G:NV)(y103:Bool)(a:Act)(w':World),Env 139 G a→At G [(1,.pointer (pb b2)),(3,iv x6),(4,.pointer (pb b24)),(5,iv x39),(6,.pointer (pb b57)),(7,iv x75),(107,.bool y103)]→Sm W F w' F [box b57 #[iv ((nth qL.z ((nth qC.z x.f6 x6).f1) x39).f0),.slice A54 (((nth qL.z ((nth qC.z x.f6 x6).f1) x39).f1).length) c55] 89,box b24 #[iv ((nth qC.z x.f6 x6).f0),.slice (some ad50) (((nth qC.z x.f6 x6).f1).length) c22] 87,box b2 #[iv x.f0,iv x.f1,iv x.f2,iv x.f3,.slice A0_4 x.f4.length c0_4,.slice A0_5 x.f5.length c0_5,.slice (some ad17) x.f6.length c0_6] 27]→qH.j104 kq105 x x6 x39 x75 y103=some r→K84 a w':=by
    intro kq105 hkq G y103 a u108 E A S H
    obtain _ | k106:=kq105
    exact zz H
    rw [qH.j104_s]at H
    obtain ⟨J,E⟩:=E.at A
    refine hK84 _ _ (E.ib 107 H (fun c109 E H=>?_) fun c109 E H=>?_)
    refine rr E fun a E=>(wp_ret (qCK (qCJ (qCJ (qCK (qCJ (qCK (qCJ (qCJ (qCK (qCK (qCJ (qCJ (qCK (qCJ ?_)))))))))))))))
    replace S:=S.pm [] 3
    obtain rfl:=si H
    exact rt1 E ⟨_,rfl,_,rfl,S⟩
    refine wp_skip ?_
    refine qCL ?_
    refine hK83 _ _ (pl0 (plc E (.r 0 3 .nil) (fun a E=>pld ?_)))
    exact qCM ⟨k106,by omega,_,(w64 (x75+1)),by omega,E,.of,S,H⟩
   refine drawn 32 ⟨[],[],fun q=>False⟩ mixed rfl (by kernel_rfl) (fun hst=>?_)
   replace S:=S.drew
   have hb57:=S.ba 0
   obtain ⟨c85,H⟩:=gd H
   have hE_:=E
   obtain ⟨ad86,rfl⟩:=g56.addr c85.1 c85.2
   replace E:=hE_
   obtain ⟨cs88,rfl,hc89⟩:=g56.el 0 x75 c85.1 c85.2
   refine mny 25 hst E (.r 0 1<|.b 1 1 hb57<|.r 2 1<|.x 3 c85<|.c 4 (S.fc hc89 0)<|.r 5 2<|.nil) (fun a E=>?_)
   refine E.fk 82 H (fun c90 E H=>?_) fun c90 E H=>?_
   refine mny 0 hst E (.r 7 25 .nil) (fun a E=>?_)
   refine dn ?_
   exact J107 _ (by omega) _ true _ _ E .of S H
   refine mny 17 hst E (.r 7 1<|.b 8 1 hb57<|.r 9 1<|.x 10 c85<|.c 11 (S.fc hc89 0)<|.r 12 3<|.nil) (fun a E=>?_)
   refine E.fk 90 H (fun c94 E H=>?_) fun c94 E H=>?_
   refine mny 0 hst E (.r 15 17 .nil) (fun a E=>?_)
   refine dn ?_
   exact J107 _ (by omega) _ true _ _ E .of S H
   refine mny 14 hst E (.r 15 3 .nil) (fun a E=>?_)
   refine E.fk 93 H (fun c95 E H=>?_) fun c95 E H=>?_
   obtain ⟨c96,H⟩:=gd H
   obtain ⟨cs98,rfl,hc99⟩:=g56.el 0 (w64 (x75 - 1)) c96.1 c96.2
   refine mny 0 hst E (.r 18 1<|.b 19 1 hb57<|.r 20 2<|.x 22 c96<|.c 23 (S.fc hc99 0)<|.r 24 1<|.b 25 1 hb57<|.r 26 1<|.x 27 c85<|.c 28 (S.fc hc89 0)<|.r 29 3<|.nil) (fun a E=>?_)
   refine dn ?_
   exact J107 _ (by omega) _ (decide ((nth 0 ((nth qL.z ((nth qC.z x.f6 x6).f1) x39).f1) (w64 (x75 - 1)))≥(nth 0 ((nth qL.z ((nth qC.z x.f6 x6).f1) x39).f1) x75))) _ _ E .of S H
   refine mny 0 hst E (.r 18 14 .nil) (fun a E=>?_)
   refine dn ?_
   exact J107 _ (by omega) _ false _ _ E .of S H
   refine wp_exit ?_
   refine hK73 _ _ (rr E fun a E=>(wp_block ?_))
   refine wp_loop_ghost (fun kq114 a w'=>∃(G:NV)(x112:Int),kq114≤k78∧Env 139 G a∧At G [(1,.pointer (pb b2)),(3,iv x6),(4,.pointer (pb b24)),(5,iv x39),(6,.pointer (pb b57)),(8,iv x112)]∧Sm W F w' F [box b57 #[iv ((nth qL.z ((nth qC.z x.f6 x6).f1) x39).f0),.slice A54 (((nth qL.z ((nth qC.z x.f6 x6).f1) x39).f1).length) c55] 89,box b24 #[iv ((nth qC.z x.f6 x6).f0),.slice (some ad50) (((nth qC.z x.f6 x6).f1).length) c22] 87,box b2 #[iv x.f0,iv x.f1,iv x.f2,iv x.f3,.slice A0_4 x.f4.length c0_4,.slice A0_5 x.f5.length c0_5,.slice (some ad17) x.f6.length c0_6] 27]∧qH.l113 kq114 x x6 x39 x112=some r) k78 ⟨_,0,Nat.le_refl _,E,.of,S,H⟩ ?_
   rintro kq114 a u116 ⟨G,x112,hkq,E,A,S,H⟩
   obtain _ | k115:=kq114
   exact zz H
   rw [qH.l113_s]at H
   obtain ⟨J,E⟩:=E.at A
   refine sq fun K117 hK117=>rr E fun a E=>(E.ik 110 H (fun c119 E H=>?_) fun c119 E H=>?_)
   refine wp_skip (hK117 _ _ (sq fun K120 hK120=>wp_block (sq fun K121 hK121=>?_)))
   have J140:∀ kq138,kq138≤k115→∀(G:NV)(y136:Bool)(a:Act)(w':World),Env 139 G a→At G [(1,.pointer (pb b2)),(3,iv x6),(4,.pointer (pb b24)),(5,iv x39),(6,.pointer (pb b57)),(8,iv x112),(132,.bool y136)]→Sm W F w' F [box b57 #[iv ((nth qL.z ((nth qC.z x.f6 x6).f1) x39).f0),.slice A54 (((nth qL.z ((nth qC.z x.f6 x6).f1) x39).f1).length) c55] 89,box b24 #[iv ((nth qC.z x.f6 x6).f0),.slice (some ad50) (((nth qC.z x.f6 x6).f1).length) c22] 87,box b2 #[iv x.f0,iv x.f1,iv x.f2,iv x.f3,.slice A0_4 x.f4.length c0_4,.slice A0_5 x.f5.length c0_5,.slice (some ad17) x.f6.length c0_6] 27]→qH.j137 kq138 x x6 x39 x112 y136=some r→K121 a w':=by
    intro kq138 hkq G y136 a u141 E A S H
    obtain _ | k139:=kq138
    exact zz H
    rw [qH.j137_s]at H
    obtain ⟨J,E⟩:=E.at A
    refine hK121 _ _ (E.ib 132 H (fun c142 E H=>?_) fun c142 E H=>?_)
    refine rr E fun a E=>(wp_ret (qCK (qCJ (qCJ (qCK (qCK (qCJ (qCJ (qCK (qCK (qCJ (qCJ (qCK (qCJ ?_))))))))))))))
    replace S:=S.pm [] 3
    obtain rfl:=si H
    exact rt1 E ⟨_,rfl,_,rfl,S⟩
    refine wp_skip ?_
    refine qCL ?_
    refine hK120 _ _ (pl0 (plc E (.r 0 3 .nil) (fun a E=>pld ?_)))
    exact qCM ⟨k139,by omega,_,(w64 (x112+1)),by omega,E,.of,S,H⟩
   refine drawn 20 ⟨[],[],fun q=>False⟩ mixed rfl (by kernel_rfl) (fun hst=>?_)
   replace S:=S.drew
   have hb24:=S.ba 1
   obtain ⟨c122,H⟩:=gd H
   obtain ⟨cs124,⟨A126,c127,rfl,g128⟩,hc125⟩:=g23.el qL.z x112 c122.1 c122.2
   have hb57:=S.ba 0
   refine mny 10 hst E (.r 0 1<|.b 1 1 hb24<|.r 2 1<|.x 3 c122<|.r 4 1<|.c 5 (S.fc hc125 0)<|.r 6 1<|.b 7 0 hb57<|.r 8 2<|.nil) (fun a E=>?_)
   refine E.fk 122 H (fun c129 E H=>?_) fun c129 E H=>?_
   refine mny 0 hst E (.r 10 10 .nil) (fun a E=>?_)
   refine dn ?_
   exact J140 _ (by omega) _ true _ _ E .of S H
   refine mny 2 hst E (.r 10 1<|.b 11 1 hb24<|.r 12 1<|.x 13 c122<|.r 14 1<|.c 15 (S.fc hc125 1)<|.r 16 1<|.b 17 1 hb57<|.nil) (fun a E=>?_)
   obtain ⟨t134,h135,H⟩:=bd H
   refine on1 18 E (.cl en43 (qv.calls k115 ((nth qL.z ((nth qC.z x.f6 x6).f1) x112).f1) ((nth qL.z ((nth qC.z x.f6 x6).f1) x39).f1) _ _ _ _ _ _ _ S.own.sub g128 g56 h135)) ?_
   rintro _ u133 a ⟨_,rfl,hC⟩ E
   refine ⟨.of hC.agr,?_⟩
   replace S:=S.lent hC
   refine mny 0 hst E (.r 19 1 .nil) (fun a E=>?_)
   refine dn ?_
   exact J140 _ (by omega) _ t134 _ _ E .of S H
   refine wp_exit ?_
   refine hK47 _ _ (pl0 (plc E (.r 0 3 .nil) (fun a E=>pld ?_)))
   replace S:=S.tail
   exact qCM ⟨k115,by omega,_,(w64 (x39+1)),by omega,E,.of,S,H⟩
  refine pl0 (plc E (.r 0 1<|.b 1 0 hb57<|.r 2 2<|.nil) (fun a E=>E.fk 46 H (fun c62 E H=>?_) fun c62 E H=>?_))
  refine plc E (.r 4 22 .nil) (fun a E=>pld ?_)
  exact J69 _ (by omega) _ true _ _ E .of S H
  refine plc E (.r 4 1<|.b 5 0 hb57<|.r 6 1<|.b 7 0 (S.ba 1)<|.r 8 3<|.nil) (fun a E=>E.fk 53 H (fun c63 E H=>?_) fun c63 E H=>?_)
  refine plc E (.r 11 15 .nil) (fun a E=>pld ?_)
  exact J69 _ (by omega) _ true _ _ E .of S H
  have hb2:=S.ba 2
  refine plc E (.r 11 1<|.b 12 1 hb57<|.r 13 2<|.b 15 2 hb2<|.r 16 3<|.nil) (fun a E=>E.fk 61 H (fun c64 E H=>?_) fun c64 E H=>?_)
  refine plc E (.r 19 7 .nil) (fun a E=>pld ?_)
  exact J69 _ (by omega) _ true _ _ E .of S H
  refine plc E (.r 19 1<|.b 20 1 hb57<|.r 21 2<|.b 23 1 hb2<|.r 24 2<|.nil) (fun a E=>pld ?_)
  exact J69 _ (by omega) _ (decide ((((nth qL.z ((nth qC.z x.f6 x6).f1) x39).f1).length:Int)>x.f1)) _ _ E .of S H
  refine wp_exit ?_
  refine hK14 _ _ (pl0 (plc E (.r 0 3 .nil) (fun a E=>pld ?_)))
  replace S:=S.tail
  exact qCM ⟨k42,by omega,_,(w64 (x6+1)),by omega,E,.of,S,H⟩
 refine pl0 (plc E (.r 0 1<|.b 1 0 hb24<|.r 2 2<|.nil) (fun a E=>E.fk 24 H (fun c29 E H=>?_) fun c29 E H=>?_))
 refine plc E (.r 4 6 .nil) (fun a E=>pld ?_)
 exact J34 _ (by omega) _ true _ _ E .of S H
 refine plc E (.r 4 1<|.b 5 0 hb24<|.r 6 1<|.b 7 0 (S.ba 1)<|.r 8 2<|.nil) (fun a E=>pld ?_)
 exact J34 _ (by omega) _ (decide ((nth qC.z x.f6 x6).f0>x.f0)) _ _ E .of S H
 refine wp_exit ?_
 refine hK4 _ _ (rg E (.r 0 1<|.b 1 6 hb2<|.r 2 2<|.b 4 3 hb2<|.r 5 2<|.nil) fun a E=>(wp_ret ?_))
 replace S:=S.tail
 obtain rfl:=si H
 exact rt1 E ⟨_,rfl,_,rfl,S⟩
mutual
def qY.j18:Nat→qF→Bool→Option Bool
 | 0,_,_=>none
 | k+1,x,y17=>if y17=true then (some false) else (qY.l28 k x 0)
def qY.l28:Nat→qF→Int→Option Bool
 | 0,_,_=>none
 | k+1,x,x27=>if x27<(x.f5.length:Int) then (if 0≤x27∧x27<(x.f5.length:Int) then (if (nth qI.z x.f5 x27).f0<0 then (qY.j71 k x x27 true) else (if (nth qI.z x.f5 x27).f0≥x.f3 then (qY.j71 k x x27 true) else (if x27>0 then (if 0≤(w64 (x27 - 1))∧(w64 (x27 - 1))<(x.f5.length:Int) then (if (nth qI.z x.f5 (w64 (x27 - 1))).f0≥(nth qI.z x.f5 x27).f0 then (qY.j71 k x x27 true) else (if (((nth qI.z x.f5 x27).f1).length:Int)<1 then (qY.j71 k x x27 true) else (if (((nth qI.z x.f5 x27).f1).length:Int)>x.f1 then (qY.j71 k x x27 true) else ((qi.f k x.f4 ((nth qI.z x.f5 x27).f1)).bind fun t63=>(qY.j71 k x x27 (!t63)))))) else (none)) else (if (((nth qI.z x.f5 x27).f1).length:Int)<1 then (qY.j71 k x x27 true) else (if (((nth qI.z x.f5 x27).f1).length:Int)>x.f1 then (qY.j71 k x x27 true) else ((qi.f k x.f4 ((nth qI.z x.f5 x27).f1)).bind fun t68=>(qY.j71 k x x27 (!t68)))))))) else (none)) else ((qH.f k x).bind fun t80=>(some t80))
def qY.j71:Nat→qF→Int→Bool→Option Bool
 | 0,_,_,_=>none
 | k+1,x,x27,y70=>if y70=true then (some false) else (qY.l28 k x (w64 (x27+1)))
end
theorem qY.j18_s k x y17:type_of% (qY.j18.eq_2 x y17 k):=qY.j18.eq_2 x y17 k
theorem qY.l28_s k x x27:type_of% (qY.l28.eq_2 x x27 k):=qY.l28.eq_2 x x27 k
theorem qY.j71_s k x x27 y70:type_of% (qY.j71.eq_2 x x27 y70 k):=qY.j71.eq_2 x x27 y70 k
def qY.f(k:Nat)(x:qF):Option Bool:=if x.f0<0 then (qY.j18 k x true) else (if x.f0≥2147483648 then (qY.j18 k x true) else (if x.f1<1 then (qY.j18 k x true) else (if x.f1>3 then (qY.j18 k x true) else (if x.f2<1 then (qY.j18 k x true) else (if x.f2>x.f1 then (qY.j18 k x true) else (if x.f3<1 then (qY.j18 k x true) else (if x.f3>8 then (qY.j18 k x true) else ((qh.f k x.f4).bind fun t15=>(qY.j18 k x (!t15))))))))))
def qY.Post(W F:World)(r:Bool)(v:Value)(w':World):Prop:=∃(F':World),v = .bool r∧Sm W F w' F' []
theorem qY.calls(k:Nat)(x:qF)(A0_4:OA)(c0_4:Nat)(A0_5:OA)(c0_5:Nat)(A0_6:OA)(c0_6:Nat)(r:Bool)(W F:World)(hown:Sub F W)(g0_4:Rd qA.k F A0_4 c0_4 x.f4)(g0_5:Rd qI.k F A0_5 c0_5 x.f5)(g0_6:Rd qC.k F A0_6 c0_6 x.f6)(H:qY.f k x=some r):
    Cr 12 #[.agg #[iv x.f0,iv x.f1,iv x.f2,iv x.f3,.slice A0_4 x.f4.length c0_4,.slice A0_5 x.f5.length c0_5,.slice A0_6 x.f6.length c0_6]] W (qY.Post W F r):=by
 have S:=sT hown
 unfold qY.f at H
 refine ent 113 rfl rfl rfl (fun a E=>?_)
 refine sq fun K1 hK1=>pl0 (plx (t:=27) E S [iv x.f0,iv x.f1,iv x.f2,iv x.f3,.slice A0_4 x.f4.length c0_4,.slice A0_5 x.f5.length c0_5,.slice A0_6 x.f6.length c0_6] fun b2 u3 hb2 S a E=>plc E (.r 1 1 .nil) (fun a E=>pld (hK1 _ _ (sq fun K4 hK4=>sq fun K5 hK5=>?_))))
 have J21:∀ kq19,kq19≤k→∀(G:NV)(y17:Bool)(a:Act)(w':World),Env 113 G a→At G [(1,.pointer (pb b2)),(50,.bool y17)]→Sm W F w' F [box b2 #[iv x.f0,iv x.f1,iv x.f2,iv x.f3,.slice A0_4 x.f4.length c0_4,.slice A0_5 x.f5.length c0_5,.slice A0_6 x.f6.length c0_6] 27]→qY.j18 kq19 x y17=some r→K5 a w':=by
  intro kq19 hkq G y17 a u22 E A S H
  obtain _ | k20:=kq19
  exact zz H
  rw [qY.j18_s]at H
  obtain ⟨J,E⟩:=E.at A
  refine hK5 _ _ (E.ib 50 H (fun c23 E H=>?_) fun c23 E H=>?_)
  refine rr E fun a E=>(wp_ret (qCJ ?_))
  replace S:=S.tail
  obtain rfl:=si H
  exact rt1 E ⟨_,rfl,_,rfl,S⟩
  refine wp_skip (hK4 _ _ (sq fun K25 hK25=>rr E fun a E=>(wp_block ?_)))
  refine wp_loop_ghost (fun kq29 a w'=>∃(G:NV)(x27:Int),kq29≤k20∧Env 113 G a∧At G [(1,.pointer (pb b2)),(3,iv x27)]∧Sm W F w' F [box b2 #[iv x.f0,iv x.f1,iv x.f2,iv x.f3,.slice A0_4 x.f4.length c0_4,.slice A0_5 x.f5.length c0_5,.slice A0_6 x.f6.length c0_6] 27]∧qY.l28 kq29 x x27=some r) k20 ⟨_,0,Nat.le_refl _,E,.of,S,H⟩ ?_
  rintro kq29 a u31 ⟨G,x27,hkq,E,A,S,H⟩
  obtain _ | k30:=kq29
  exact zz H
  rw [qY.l28_s]at H
  obtain ⟨J,E⟩:=E.at A
  refine sq fun K32 hK32=>sq fun K33 hK33=>pl0 ?_
  have hb2:=S.ba 0
  refine plc E (.r 0 2<|.b 2 5 hb2<|.r 3 2<|.nil) (fun a E=>pld (hK33 _ _ (E.ik 55 H (fun c34 E H=>?_) fun c34 E H=>?_)))
  refine wp_skip (hK32 _ _ (sq fun K35 hK35=>wp_block (sq fun K36 hK36=>pl0 ?_)))
  obtain ⟨c37,H⟩:=gd H
  have hE_:=E
  obtain ⟨ad38,rfl⟩:=g0_5.addr c37.1 c37.2
  replace E:=hE_
  obtain ⟨cs40,⟨A42,c43,rfl,g44⟩,hc41⟩:=g0_5.el qI.z x27 c37.1 c37.2
  refine plc E (.r 0 1<|.b 1 5 hb2<|.r 2 1<|.x 3 c37<|.cs 4 (S.fcs hc41)<|.nil) (fun a E=>pla (t:=84) E S [iv 0,.slice none 0 0] fun b45 u46 hb45 S a E=>pls E S [iv ((nth qI.z x.f5 x27).f0),.slice A42 (((nth qI.z x.f5 x27).f1).length) c43] fun u47 hb45 S a E=>pld (hK36 _ _ (sq fun K48 hK48=>?_)))
  have J74:∀ kq72,kq72≤k30→∀(G:NV)(y70:Bool)(a:Act)(w':World),Env 113 G a→At G [(1,.pointer (pb b2)),(3,iv x27),(110,.bool y70)]→Sm W F w' F [box b45 #[iv ((nth qI.z x.f5 x27).f0),.slice A42 (((nth qI.z x.f5 x27).f1).length) c43] 84,box b2 #[iv x.f0,iv x.f1,iv x.f2,iv x.f3,.slice A0_4 x.f4.length c0_4,.slice (some ad38) x.f5.length c0_5,.slice A0_6 x.f6.length c0_6] 27]→qY.j71 kq72 x x27 y70=some r→K48 a w':=by
   intro kq72 hkq G y70 a u75 E A S H
   obtain _ | k73:=kq72
   exact zz H
   rw [qY.j71_s]at H
   obtain ⟨J,E⟩:=E.at A
   refine hK48 _ _ (E.ib 110 H (fun c76 E H=>?_) fun c76 E H=>?_)
   refine rr E fun a E=>(wp_ret (qCK (qCJ (qCJ (qCK (qCJ ?_))))))
   replace S:=S.pm [] 2
   obtain rfl:=si H
   exact rt1 E ⟨_,rfl,_,rfl,S⟩
   refine wp_skip ?_
   refine qCL ?_
   refine hK35 _ _ (pl0 (plc E (.r 0 3 .nil) (fun a E=>pld ?_)))
   replace S:=S.tail
   exact qCM ⟨k73,by omega,_,(w64 (x27+1)),by omega,E,.of,S,H⟩
  refine drawn 48 ⟨[],[],fun q=>False⟩ mixed rfl (by kernel_rfl) (fun hst=>?_)
  replace S:=S.drew
  have hb45:=S.ba 0
  refine mny 44 hst E (.r 0 1<|.b 1 0 hb45<|.r 2 2<|.nil) (fun a E=>?_)
  refine E.fk 66 H (fun c49 E H=>?_) fun c49 E H=>?_
  refine mny 0 hst E (.r 4 44 .nil) (fun a E=>?_)
  refine dn ?_
  exact J74 _ (by omega) _ true _ _ E .of S H
  have hb2:=S.ba 1
  refine mny 37 hst E (.r 4 1<|.b 5 0 hb45<|.r 6 1<|.b 7 3 hb2<|.r 8 3<|.nil) (fun a E=>?_)
  refine E.fk 73 H (fun c50 E H=>?_) fun c50 E H=>?_
  refine mny 0 hst E (.r 11 37 .nil) (fun a E=>?_)
  refine dn ?_
  exact J74 _ (by omega) _ true _ _ E .of S H
  refine mny 34 hst E (.r 11 3 .nil) (fun a E=>?_)
  refine E.fk 76 H (fun c51 E H=>?_) fun c51 E H=>?_
  obtain ⟨c52,H⟩:=gd H
  obtain ⟨cs54,⟨A56,c57,rfl,g58⟩,hc55⟩:=g0_5.el qI.z (w64 (x27 - 1)) c52.1 c52.2
  refine mny 21 hst E (.r 14 1<|.b 15 5 hb2<|.r 16 2<|.x 18 c52<|.r 19 1<|.c 20 (S.fc hc55 0)<|.r 21 1<|.b 22 0 hb45<|.r 23 4<|.nil) (fun a E=>?_)
  refine E.fk 89 H (fun c59 E H=>?_) fun c59 E H=>?_
  refine mny 0 hst E (.r 27 21 .nil) (fun a E=>?_)
  refine dn ?_
  exact J74 _ (by omega) _ true _ _ E .of S H
  refine mny 15 hst E (.r 27 1<|.b 28 1 hb45<|.r 29 4<|.nil) (fun a E=>?_)
  refine E.fk 95 H (fun c60 E H=>?_) fun c60 E H=>?_
  refine mny 0 hst E (.r 33 15 .nil) (fun a E=>?_)
  refine dn ?_
  exact J74 _ (by omega) _ true _ _ E .of S H
  refine mny 7 hst E (.r 33 1<|.b 34 1 hb45<|.r 35 2<|.b 37 1 hb2<|.r 38 3<|.nil) (fun a E=>?_)
  refine E.fk 103 H (fun c61 E H=>?_) fun c61 E H=>?_
  refine mny 0 hst E (.r 41 7 .nil) (fun a E=>?_)
  refine dn ?_
  exact J74 _ (by omega) _ true _ _ E .of S H
  refine mny 3 hst E (.r 41 1<|.b 42 4 hb2<|.r 43 1<|.b 44 1 hb45<|.nil) (fun a E=>?_)
  obtain ⟨t63,h64,H⟩:=bd H
  refine on1 45 E (.cl en40 (qi.calls k30 x.f4 ((nth qI.z x.f5 x27).f1) _ _ _ _ _ _ _ S.own.sub g0_4 g44 h64)) ?_
  rintro _ u62 a ⟨_,rfl,hC⟩ E
  refine ⟨.of hC.agr,?_⟩
  replace S:=S.lent hC
  refine mny 0 hst E (.r 46 2 .nil) (fun a E=>?_)
  refine dn ?_
  exact J74 _ (by omega) _ (!t63) _ _ E .of S H
  refine mny 15 hst E (.r 14 14<|.b 28 1 hb45<|.r 29 4<|.nil) (fun a E=>?_)
  refine E.fk 95 H (fun c65 E H=>?_) fun c65 E H=>?_
  refine mny 0 hst E (.r 33 15 .nil) (fun a E=>?_)
  refine dn ?_
  exact J74 _ (by omega) _ true _ _ E .of S H
  refine mny 7 hst E (.r 33 1<|.b 34 1 hb45<|.r 35 2<|.b 37 1 hb2<|.r 38 3<|.nil) (fun a E=>?_)
  refine E.fk 103 H (fun c66 E H=>?_) fun c66 E H=>?_
  refine mny 0 hst E (.r 41 7 .nil) (fun a E=>?_)
  refine dn ?_
  exact J74 _ (by omega) _ true _ _ E .of S H
  refine mny 3 hst E (.r 41 1<|.b 42 4 hb2<|.r 43 1<|.b 44 1 hb45<|.nil) (fun a E=>?_)
  obtain ⟨t68,h69,H⟩:=bd H
  refine on1 45 E (.cl en40 (qi.calls k30 x.f4 ((nth qI.z x.f5 x27).f1) _ _ _ _ _ _ _ S.own.sub g0_4 g44 h69)) ?_
  rintro _ u67 a ⟨_,rfl,hC⟩ E
  refine ⟨.of hC.agr,?_⟩
  replace S:=S.lent hC
  refine mny 0 hst E (.r 46 2 .nil) (fun a E=>?_)
  refine dn ?_
  exact J74 _ (by omega) _ (!t68) _ _ E .of S H
  refine wp_exit ?_
  refine hK25 _ _ (sq fun K78 hK78=>pl0 (plc E (.bn 0 0 7 hb2 .nil) (fun a E=>?_)))
  obtain ⟨t80,h81,H⟩:=bd H
  refine plq E S en41 (qH.calls k30 x _ _ _ _ _ _ _ _ _ S.own.sub g0_4 g0_5 g0_6 h81) fun u79 S a E=>plc E (.r 2 1 .nil) (fun a E=>pld (hK78 _ _ (wp_ret ?_)))
  replace S:=S.tail
  obtain rfl:=si H
  exact rt1 E ⟨_,rfl,_,rfl,S⟩
 refine pl0 (plc E (.r 0 1<|.b 1 0 hb2<|.r 2 2<|.nil) (fun a E=>E.fk 8 H (fun c6 E H=>?_) fun c6 E H=>?_))
 refine plc E (.r 4 42 .nil) (fun a E=>pld ?_)
 exact J21 _ (by omega) _ true _ _ E .of S H
 refine plc E (.r 4 1<|.b 5 0 hb2<|.r 6 3<|.nil) (fun a E=>E.fk 13 H (fun c7 E H=>?_) fun c7 E H=>?_)
 refine plc E (.r 9 37 .nil) (fun a E=>pld ?_)
 exact J21 _ (by omega) _ true _ _ E .of S H
 refine plc E (.r 9 1<|.b 10 1 hb2<|.r 11 3<|.nil) (fun a E=>E.fk 18 H (fun c8 E H=>?_) fun c8 E H=>?_)
 refine plc E (.r 14 32 .nil) (fun a E=>pld ?_)
 exact J21 _ (by omega) _ true _ _ E .of S H
 refine plc E (.r 14 1<|.b 15 1 hb2<|.r 16 3<|.nil) (fun a E=>E.fk 23 H (fun c9 E H=>?_) fun c9 E H=>?_)
 refine plc E (.r 19 27 .nil) (fun a E=>pld ?_)
 exact J21 _ (by omega) _ true _ _ E .of S H
 refine plc E (.r 19 1<|.b 20 2 hb2<|.r 21 3<|.nil) (fun a E=>E.fk 28 H (fun c10 E H=>?_) fun c10 E H=>?_)
 refine plc E (.r 24 22 .nil) (fun a E=>pld ?_)
 exact J21 _ (by omega) _ true _ _ E .of S H
 refine plc E (.r 24 1<|.b 25 2 hb2<|.r 26 1<|.b 27 1 hb2<|.r 28 3<|.nil) (fun a E=>E.fk 35 H (fun c11 E H=>?_) fun c11 E H=>?_)
 refine plc E (.r 31 15 .nil) (fun a E=>pld ?_)
 exact J21 _ (by omega) _ true _ _ E .of S H
 refine plc E (.r 31 1<|.b 32 3 hb2<|.r 33 3<|.nil) (fun a E=>E.fk 40 H (fun c12 E H=>?_) fun c12 E H=>?_)
 refine plc E (.r 36 10 .nil) (fun a E=>pld ?_)
 exact J21 _ (by omega) _ true _ _ E .of S H
 refine plc E (.r 36 1<|.b 37 3 hb2<|.r 38 3<|.nil) (fun a E=>E.fk 45 H (fun c13 E H=>?_) fun c13 E H=>?_)
 refine plc E (.r 41 5 .nil) (fun a E=>pld ?_)
 exact J21 _ (by omega) _ true _ _ E .of S H
 refine plc E (.r 41 1<|.b 42 4 hb2<|.nil) (fun a E=>?_)
 obtain ⟨t15,h16,H⟩:=bd H
 refine plq E S en39 (qh.calls k x.f4 _ _ _ _ _ S.own.sub g0_4 h16) fun u14 S a E=>plc E (.r 44 2 .nil) (fun a E=>pld ?_)
 exact J21 _ (by omega) _ (!t15) _ _ E .of S H
def qAZ.l7:Nat→qAa→Int→Option Bool
 | 0,_,_=>none
 | k+1,x,x6=>if x6<(x.f1.length:Int) then (if 0≤x6∧x6<(x.f1.length:Int) then ((qAd.f k (nth qE.z x.f1 x6)).bind fun t25=>(if t25=true then (qAZ.l7 k x (w64 (x6+1))) else (some false))) else (none)) else ((qY.f k x.f0).bind fun t31=>(if t31=true then (some (decide ((x.f1.length:Int)≤8))) else (some false)))
theorem qAZ.l7_s k x x6:type_of% (qAZ.l7.eq_2 x x6 k):=qAZ.l7.eq_2 x x6 k
def qAZ.f(k:Nat)(x:qAa):Option Bool:=qAZ.l7 k x 0
def qAZ.Post(W F:World)(r:Bool)(v:Value)(w':World):Prop:=∃(F':World),v = .bool r∧Sm W F w' F' []
theorem qAZ.calls(k:Nat)(x:qAa)(A0_4:OA)(c0_4:Nat)(A0_5:OA)(c0_5:Nat)(A0_6:OA)(c0_6:Nat)(A0_7:OA)(c0_7:Nat)(r:Bool)(W F:World)(hown:Sub F W)(g0_4:Rd qA.k F A0_4 c0_4 x.f0.f4)(g0_5:Rd qI.k F A0_5 c0_5 x.f0.f5)(g0_6:Rd qC.k F A0_6 c0_6 x.f0.f6)(g0_7:Rd qE.k F A0_7 c0_7 x.f1)(H:qAZ.f k x=some r):
    Cr 52 #[.agg #[iv x.f0.f0,iv x.f0.f1,iv x.f0.f2,iv x.f0.f3,.slice A0_4 x.f0.f4.length c0_4,.slice A0_5 x.f0.f5.length c0_5,.slice A0_6 x.f0.f6.length c0_6,.slice A0_7 x.f1.length c0_7]] W (qAZ.Post W F r):=by
 have S:=sT hown
 unfold qAZ.f at H
 refine ent 27 rfl rfl rfl (fun a E=>?_)
 refine sq fun K1 hK1=>pl0 (plx (t:=47) E S [iv x.f0.f0,iv x.f0.f1,iv x.f0.f2,iv x.f0.f3,.slice A0_4 x.f0.f4.length c0_4,.slice A0_5 x.f0.f5.length c0_5,.slice A0_6 x.f0.f6.length c0_6,.slice A0_7 x.f1.length c0_7] fun b2 u3 hb2 S a E=>plc E (.r 1 1 .nil) (fun a E=>pld (hK1 _ _ (sq fun K4 hK4=>rr E fun a E=>(wp_block ?_)))))
 refine wp_loop_ghost (fun kq8 a w'=>∃(G:NV)(x6:Int),kq8≤k∧Env 27 G a∧At G [(1,.pointer (pb b2)),(3,iv x6)]∧Sm W F w' F [box b2 #[iv x.f0.f0,iv x.f0.f1,iv x.f0.f2,iv x.f0.f3,.slice A0_4 x.f0.f4.length c0_4,.slice A0_5 x.f0.f5.length c0_5,.slice A0_6 x.f0.f6.length c0_6,.slice A0_7 x.f1.length c0_7] 47]∧qAZ.l7 kq8 x x6=some r) k ⟨_,0,Nat.le_refl _,E,.of,S,H⟩ ?_
 rintro kq8 a u10 ⟨G,x6,hkq,E,A,S,H⟩
 obtain _ | k9:=kq8
 exact zz H
 rw [qAZ.l7_s]at H
 obtain ⟨J,E⟩:=E.at A
 refine sq fun K11 hK11=>sq fun K12 hK12=>pl0 ?_
 have hb2:=S.ba 0
 refine plc E (.r 0 2<|.b 2 7 hb2<|.r 3 2<|.nil) (fun a E=>pld (hK12 _ _ (E.ik 8 H (fun c13 E H=>?_) fun c13 E H=>?_)))
 refine wp_skip (hK11 _ _ (sq fun K14 hK14=>wp_block (sq fun K15 hK15=>pl0 ?_)))
 obtain ⟨c16,H⟩:=gd H
 have hE_:=E
 obtain ⟨ad17,rfl⟩:=g0_7.addr c16.1 c16.2
 replace E:=hE_
 obtain ⟨cs19,⟨A21,c22,rfl,g23⟩,hc20⟩:=g0_7.el qE.z x6 c16.1 c16.2
 refine plc E (.r 0 1<|.b 1 7 hb2<|.r 2 1<|.x 3 c16<|.cs 4 (S.fcs hc20)<|.nil) (fun a E=>?_)
 obtain ⟨t25,h26,H⟩:=bd H
 refine plq E S en115 (qAd.calls k9 (nth qE.z x.f1 x6) _ _ _ _ _ S.own.sub g23 h26) fun u24 S a E=>plc E (.r 6 1 .nil) (fun a E=>pld (hK15 _ _ (E.ibn 17 H (fun c27 E H=>?_) fun c27 E H=>?_)))
 refine wp_skip ?_
 refine qCL ?_
 refine hK14 _ _ (pl0 (plc E (.r 0 3 .nil) (fun a E=>pld ?_)))
 exact qCM ⟨k9,by omega,_,(w64 (x6+1)),by omega,E,.of,S,H⟩
 refine rr E fun a E=>(wp_ret (qCK (qCJ (qCJ (qCK (qCJ ?_))))))
 replace S:=S.tail
 obtain rfl:=si H
 exact rt1 E ⟨_,rfl,_,rfl,S⟩
 refine wp_exit ?_
 refine hK4 _ _ (sq fun K29 hK29=>pl0 (plc E (.r 0 1<|.bn 1 0 7 hb2<|.nil) (fun a E=>?_)))
 obtain ⟨t31,h32,H⟩:=bd H
 refine plq E S en12 (qY.calls k9 x.f0 _ _ _ _ _ _ _ _ _ S.own.sub g0_4 g0_5 g0_6 h32) fun u30 S a E=>plc E (.r 3 1 .nil) (fun a E=>E.fb 21 H (fun c33 E H=>?_) fun c33 E H=>?_)
 refine plc E (.r 4 1<|.b 5 7 (S.ba 0)<|.r 6 4<|.nil) (fun a E=>pld (hK29 _ _ (wp_ret ?_)))
 replace S:=S.tail
 obtain rfl:=si H
 exact rt1 E ⟨_,rfl,_,rfl,S⟩
 refine plc E (.r 4 6 .nil) (fun a E=>pld (hK29 _ _ (wp_ret ?_)))
 replace S:=S.tail
 obtain rfl:=si H
 exact rt1 E ⟨_,rfl,_,rfl,S⟩
def qBG.f(x:ByteArray):Option Bool:=none
def qBG.Post(W F:World)(r:Bool)(v:Value)(w':World):Prop:=∃(F':World),v = .bool r∧Sm W F w' F' []
theorem qBG.calls(x:ByteArray)(r:Bool)(W F:World)(hown:Sub F W)(H:qBG.f x=some r):
    Cr 116 #[.string x] W (qBG.Post W F r):=by
 have S:=sT hown
 unfold qBG.f at H
 refine ent 17 rfl rfl rfl (fun a E=>?_)
 refine rr E fun a E=>(sq fun K2 hK2=>pl0 (plc E (.r 0 1 .nil) (fun a E=>?_)))
 exact zz H
mutual
def qz.l5:Nat→List qk→Int→Option Bool
 | 0,_,_=>none
 | k+1,x,x4=>if x4<(x.length:Int) then (if 0≤x4∧x4<(x.length:Int) then (if (nth qk.z x x4).f0<0 then (qz.j41 k x x4 true) else (if (nth qk.z x x4).f0>1099511627776 then (qz.j41 k x x4 true) else (if (nth qk.z x x4).f1<(-1099511627776) then (qz.j41 k x x4 true) else (if (nth qk.z x x4).f1>1099511627776 then (qz.j41 k x x4 true) else (if x4>0 then (if 0≤(w64 (x4 - 1))∧(w64 (x4 - 1))<(x.length:Int) then (qz.j41 k x x4 (decide ((nth qk.z x (w64 (x4 - 1))).f0≥(nth qk.z x x4).f0))) else (none)) else (qz.j41 k x x4 false)))))) else (none)) else (some (decide ((x.length:Int)≤64)))
def qz.j41:Nat→List qk→Int→Bool→Option Bool
 | 0,_,_,_=>none
 | k+1,x,x4,y40=>if y40=true then (some false) else (qz.l5 k x (w64 (x4+1)))
end
theorem qz.l5_s k x x4:type_of% (qz.l5.eq_2 x x4 k):=qz.l5.eq_2 x x4 k
theorem qz.j41_s k x x4 y40:type_of% (qz.j41.eq_2 x x4 y40 k):=qz.j41.eq_2 x x4 y40 k
def qz.f(k:Nat)(x:List qk):Option Bool:=qz.l5 k x 0
def qz.Post(W F:World)(r:Bool)(v:Value)(w':World):Prop:=∃(F':World),v = .bool r∧Sm W F w' F' []
theorem qz.calls(k:Nat)(x:List qk)(A0_0:OA)(c0_0:Nat)(r:Bool)(W F:World)(hown:Sub F W)(g0_0:Rd qk.k F A0_0 c0_0 x)(H:qz.f k x=some r):
    Cr 117 #[.slice A0_0 x.length c0_0] W (qz.Post W F r):=by
 have S:=sT hown
 unfold qz.f at H
 refine ent 61 rfl rfl rfl (fun a E=>?_)
 refine rr E fun a E=>(sq fun K2 hK2=>rr E fun a E=>(wp_block ?_))
 refine wp_loop_ghost (fun kq6 a w'=>∃(G:NV)(x4:Int),kq6≤k∧Env 61 G a∧At G [(0,.slice A0_0 x.length c0_0),(3,iv x4)]∧Sm W F w' F []∧qz.l5 kq6 x x4=some r) k ⟨_,0,Nat.le_refl _,E,.of,S,H⟩ ?_
 rintro kq6 a u8 ⟨G,x4,hkq,E,A,S,H⟩
 obtain _ | k7:=kq6
 exact zz H
 rw [qz.l5_s]at H
 obtain ⟨J,E⟩:=E.at A
 refine sq fun K9 hK9=>rr E fun a E=>(E.ik 7 H (fun c11 E H=>?_) fun c11 E H=>?_)
 refine wp_skip (hK9 _ _ (sq fun K12 hK12=>wp_block (sq fun K13 hK13=>?_)))
 have J44:∀ kq42,kq42≤k7→∀(G:NV)(y40:Bool)(a:Act)(w':World),Env 61 G a→At G [(0,.slice A0_0 x.length c0_0),(3,iv x4),(57,.bool y40)]→Sm W F w' F []→qz.j41 kq42 x x4 y40=some r→K13 a w':=by
  intro kq42 hkq G y40 a u45 E A S H
  obtain _ | k43:=kq42
  exact zz H
  rw [qz.j41_s]at H
  obtain ⟨J,E⟩:=E.at A
  refine hK13 _ _ (E.ib 57 H (fun c46 E H=>?_) fun c46 E H=>?_)
  refine rr E fun a E=>(wp_ret (qCK (qCJ (qCJ (qCK (qCJ ?_))))))
  obtain rfl:=si H
  exact rt1 E ⟨_,rfl,_,rfl,S⟩
  refine wp_skip ?_
  refine qCL ?_
  refine hK12 _ _ (pl0 (plc E (.r 0 3 .nil) (fun a E=>pld ?_)))
  exact qCM ⟨k43,by omega,_,(w64 (x4+1)),by omega,E,.of,S,H⟩
 refine drawn 48 ⟨[],[],fun q=>False⟩ mixed rfl (by kernel_rfl) (fun hst=>?_)
 replace S:=S.drew
 obtain ⟨c14,H⟩:=gd H
 have hE_:=E
 obtain ⟨ad15,rfl⟩:=g0_0.addr c14.1 c14.2
 replace E:=hE_
 obtain ⟨cs17,rfl,hc18⟩:=g0_0.el qk.z x4 c14.1 c14.2
 refine mny 41 hst E (.r 0 2<|.x 2 c14<|.r 3 1<|.c 4 (S.fc hc18 0)<|.r 5 2<|.nil) (fun a E=>?_)
 refine E.fk 16 H (fun c19 E H=>?_) fun c19 E H=>?_
 refine mny 0 hst E (.r 7 41 .nil) (fun a E=>?_)
 refine dn ?_
 exact J44 _ (by omega) _ true _ _ E .of S H
 refine mny 33 hst E (.r 7 2<|.x 9 c14<|.r 10 1<|.c 11 (S.fc hc18 0)<|.r 12 3<|.nil) (fun a E=>?_)
 refine E.fk 24 H (fun c23 E H=>?_) fun c23 E H=>?_
 refine mny 0 hst E (.r 15 33 .nil) (fun a E=>?_)
 refine dn ?_
 exact J44 _ (by omega) _ true _ _ E .of S H
 refine mny 25 hst E (.r 15 2<|.x 17 c14<|.r 18 1<|.c 19 (S.fc hc18 1)<|.r 20 3<|.nil) (fun a E=>?_)
 refine E.fk 32 H (fun c27 E H=>?_) fun c27 E H=>?_
 refine mny 0 hst E (.r 23 25 .nil) (fun a E=>?_)
 refine dn ?_
 exact J44 _ (by omega) _ true _ _ E .of S H
 refine mny 17 hst E (.r 23 2<|.x 25 c14<|.r 26 1<|.c 27 (S.fc hc18 1)<|.r 28 3<|.nil) (fun a E=>?_)
 refine E.fk 40 H (fun c31 E H=>?_) fun c31 E H=>?_
 refine mny 0 hst E (.r 31 17 .nil) (fun a E=>?_)
 refine dn ?_
 exact J44 _ (by omega) _ true _ _ E .of S H
 refine mny 14 hst E (.r 31 3 .nil) (fun a E=>?_)
 refine E.fk 43 H (fun c32 E H=>?_) fun c32 E H=>?_
 obtain ⟨c33,H⟩:=gd H
 obtain ⟨cs35,rfl,hc36⟩:=g0_0.el qk.z (w64 (x4 - 1)) c33.1 c33.2
 refine mny 0 hst E (.r 34 3<|.x 37 c33<|.r 38 1<|.c 39 (S.fc hc36 0)<|.r 40 2<|.x 42 c14<|.r 43 1<|.c 44 (S.fc hc18 0)<|.r 45 3<|.nil) (fun a E=>?_)
 refine dn ?_
 exact J44 _ (by omega) _ (decide ((nth qk.z x (w64 (x4 - 1))).f0≥(nth qk.z x x4).f0)) _ _ E .of S H
 refine mny 0 hst E (.r 34 14 .nil) (fun a E=>?_)
 refine dn ?_
 exact J44 _ (by omega) _ false _ _ E .of S H
 refine wp_exit ?_
 refine hK2 _ _ (rr E fun a E=>(wp_ret ?_))
 obtain rfl:=si H
 exact rt1 E ⟨_,rfl,_,rfl,S⟩
def qBT.f(k:Nat)(x:qAf):Option Bool:=if x.f0=2 then (if x=(⟨x.f0,(⟨#[]⟩:ByteArray),(⟨0,0⟩:qk),x.f3,0,0⟩:qAf) then (if x.f3≥0 then (some (decide (x.f3≤1099511627776))) else (some false)) else (some false)) else ((qBG.f x.f1).bind fun t13=>(if t13=true then (if x.f0=1 then (if x=(⟨x.f0,x.f1,x.f2,0,0,0⟩:qAf) then ((qz.f k [x.f2]).bind fun t28=>(some t28)) else (some false)) else (if x.f0=3 then (if x=(⟨x.f0,x.f1,(⟨0,0⟩:qk),x.f3,x.f4,x.f5⟩:qAf) then (if x.f5≥1 then (some (decide (x.f5≤5))) else (some false)) else (some false)) else (if x.f0=4 then (some (decide (x=(⟨x.f0,x.f1,(⟨0,0⟩:qk),x.f3,0,0⟩:qAf)))) else (some false)))) else (some false)))
def qBT.Post(W F:World)(r:Bool)(v:Value)(w':World):Prop:=∃(F':World),v = .bool r∧Sm W F w' F' []
theorem qBT.calls(k:Nat)(x:qAf)(r:Bool)(W F:World)(hown:Sub F W)(H:qBT.f k x=some r):
    Cr 53 #[.agg #[iv x.f0,.string x.f1,iv x.f2.f0,iv x.f2.f1,iv x.f3,iv x.f4,iv x.f5]] W (qBT.Post W F r):=by
 have S:=sT hown
 unfold qBT.f at H
 refine ent 82 rfl rfl rfl (fun a E=>?_)
 refine sq fun K1 hK1=>pl0 (plx (t:=51) E S [iv x.f0,.string x.f1,iv x.f2.f0,iv x.f2.f1,iv x.f3,iv x.f4,iv x.f5] fun b2 u3 hb2 S a E=>plc E (.r 1 1 .nil) (fun a E=>pld (hK1 _ _ (sq fun K4 hK4=>rg E (.r 0 1<|.b 1 0 hb2<|.r 2 1<|.nil) fun a E=>(E.ik 5 H (fun c6 E H=>?_) fun c6 E H=>?_)))))
 refine sq fun K7 hK7=>pl0 (plc E (.bn 0 0 7 hb2<|.r 1 1<|.b 2 0 hb2<|.r 3 1<|.b 4 4 hb2<|.r 5 1<|.y 6 (y_eqs (fun w=>eqs51 x (⟨x.f0,(⟨#[]⟩:ByteArray),(⟨0,0⟩:qk),x.f3,0,0⟩:qAf) w 9997))<|.r 7 1<|.nil) (fun a E=>E.fk 13 H (fun c8 E H=>?_) fun c8 E H=>?_))
 refine plc E (.r 8 1<|.b 9 4 hb2<|.r 10 3<|.nil) (fun a E=>E.fk 18 H (fun c9 E H=>?_) fun c9 E H=>?_)
 refine plc E (.r 13 1<|.b 14 4 hb2<|.r 15 3<|.nil) (fun a E=>pld (hK7 _ _ (wp_ret (qCJ ?_))))
 replace S:=S.tail
 obtain rfl:=si H
 exact rt1 E ⟨_,rfl,_,rfl,S⟩
 refine plc E (.r 13 5 .nil) (fun a E=>pld (hK7 _ _ (wp_ret (qCJ ?_))))
 replace S:=S.tail
 obtain rfl:=si H
 exact rt1 E ⟨_,rfl,_,rfl,S⟩
 refine plc E (.r 8 10 .nil) (fun a E=>pld (hK7 _ _ (wp_ret (qCJ ?_))))
 replace S:=S.tail
 obtain rfl:=si H
 exact rt1 E ⟨_,rfl,_,rfl,S⟩
 refine wp_skip (hK4 _ _ (sq fun K10 hK10=>sq fun K11 hK11=>pl0 (plc E (.r 0 1<|.b 1 1 hb2<|.nil) (fun a E=>?_))))
 obtain ⟨t13,h14,H⟩:=bd H
 refine plq E S en116 (qBG.calls x.f1 _ _ _ S.own.sub h14) fun u12 S a E=>plc E (.r 3 1 .nil) (fun a E=>pld (hK11 _ _ (E.ibn 26 H (fun c15 E H=>?_) fun c15 E H=>?_)))
 refine wp_skip (hK10 _ _ (sq fun K17 hK17=>sq fun K18 hK18=>pl0 ?_))
 have hb2:=S.ba 0
 refine plc E (.r 0 1<|.b 1 0 hb2<|.nil) (fun a E=>pld (hK18 _ _ (wp_block (rr E fun a E=>(E.ik 29 H (fun c20 E H=>?_) fun c20 E H=>?_)))))
 refine sq fun K21 hK21=>pl0 (plc E (.bn 0 0 7 hb2<|.r 1 1<|.b 2 0 hb2<|.r 3 1<|.b 4 1 hb2<|.r 5 1<|.bn 6 2 2 hb2<|.r 7 1<|.y 8 (y_eqs (fun w=>eqs51 x (⟨x.f0,x.f1,x.f2,0,0,0⟩:qAf) w 9997))<|.r 9 1<|.nil) (fun a E=>E.fk 40 H (fun c22 E H=>?_) fun c22 E H=>?_))
 refine plc E (.r 10 1<|.bn 11 2 2 hb2<|.nil) (fun a E=>ple E (.lit (d:=qk.k) (e:=49) S [x.f2] (.cons rfl .nil)) ?_)
 rintro _ u23 a ⟨A24,c25,rfl,S,hg⟩ E
 obtain ⟨t28,h29,H⟩:=bd H
 refine plq E S en117 (qz.calls k [x.f2] _ _ _ _ _ (Sub.refl _) (S.rd_at (i:=0) rfl) h29) fun u27 S a E=>plc E (.r 14 2 .nil) (fun a E=>pld (hK21 _ _ (wp_ret (qCK (qCJ ?_)))))
 replace S:=S.pm [] 2
 obtain rfl:=si H
 exact rt1 E ⟨_,rfl,_,rfl,S⟩
 refine plc E (.r 10 6 .nil) (fun a E=>pld (hK21 _ _ (wp_ret (qCK (qCJ ?_)))))
 replace S:=S.tail
 obtain rfl:=si H
 exact rt1 E ⟨_,rfl,_,rfl,S⟩
 refine rr E fun a E=>(E.ik 46 H (fun c31 E H=>?_) fun c31 E H=>?_)
 refine sq fun K32 hK32=>pl0 (plc E (.bn 0 0 7 hb2<|.r 1 1<|.b 2 0 hb2<|.r 3 1<|.b 4 1 hb2<|.r 5 1<|.b 6 4 hb2<|.r 7 1<|.b 8 5 hb2<|.r 9 1<|.b 10 6 hb2<|.r 11 1<|.y 12 (y_eqs (fun w=>eqs51 x (⟨x.f0,x.f1,(⟨0,0⟩:qk),x.f3,x.f4,x.f5⟩:qAf) w 9997))<|.r 13 1<|.nil) (fun a E=>E.fk 61 H (fun c33 E H=>?_) fun c33 E H=>?_))
 refine plc E (.r 14 1<|.b 15 6 hb2<|.r 16 3<|.nil) (fun a E=>E.fk 66 H (fun c34 E H=>?_) fun c34 E H=>?_)
 refine plc E (.r 19 1<|.b 20 6 hb2<|.r 21 3<|.nil) (fun a E=>pld (hK32 _ _ (wp_ret (qCK (qCJ ?_)))))
 replace S:=S.tail
 obtain rfl:=si H
 exact rt1 E ⟨_,rfl,_,rfl,S⟩
 refine plc E (.r 19 5 .nil) (fun a E=>pld (hK32 _ _ (wp_ret (qCK (qCJ ?_)))))
 replace S:=S.tail
 obtain rfl:=si H
 exact rt1 E ⟨_,rfl,_,rfl,S⟩
 refine plc E (.r 14 10 .nil) (fun a E=>pld (hK32 _ _ (wp_ret (qCK (qCJ ?_)))))
 replace S:=S.tail
 obtain rfl:=si H
 exact rt1 E ⟨_,rfl,_,rfl,S⟩
 refine rr E fun a E=>(E.ik 71 H (fun c36 E H=>?_) fun c36 E H=>?_)
 refine rg E (.bn 0 0 7 hb2<|.r 1 1<|.b 2 0 hb2<|.r 3 1<|.b 4 1 hb2<|.r 5 1<|.b 6 4 hb2<|.r 7 1<|.y 8 (y_eqs (fun w=>eqs51 x (⟨x.f0,x.f1,(⟨0,0⟩:qk),x.f3,0,0⟩:qAf) w 9997))<|.r 9 1<|.nil) fun a E=>(wp_ret (qCK (qCJ ?_)))
 replace S:=S.tail
 obtain rfl:=si H
 exact rt1 E ⟨_,rfl,_,rfl,S⟩
 refine wp_skip ?_
 refine qCL ?_
 refine hK17 _ _ (rr E fun a E=>(wp_ret ?_))
 replace S:=S.tail
 obtain rfl:=si H
 exact rt1 E ⟨_,rfl,_,rfl,S⟩
 refine rr E fun a E=>(wp_ret (qCJ ?_))
 replace S:=S.tail
 obtain rfl:=si H
 exact rt1 E ⟨_,rfl,_,rfl,S⟩
mutual
def qa.l8:Nat→qc→Int→Option Bool
 | 0,_,_=>none
 | k+1,x,x7=>if x7<(x.f1.length:Int) then (if 0≤x7∧x7<(x.f1.length:Int) then (if (nth 0 x.f1 x7)<1001 then (qa.j36 k x x7 true) else (if (nth 0 x.f1 x7)>1999 then (qa.j36 k x x7 true) else (if x7>0 then (if 0≤(w64 (x7 - 1))∧(w64 (x7 - 1))<(x.f1.length:Int) then (qa.j36 k x x7 (decide ((nth 0 x.f1 (w64 (x7 - 1)))≥(nth 0 x.f1 x7)))) else (none)) else (qa.j36 k x x7 false)))) else (none)) else (if x.f0<2001 then (qa.j59 k x true) else (if x.f0>2999 then (qa.j59 k x true) else (if (x.f1.length:Int)<1 then (qa.j59 k x true) else (if (x.f1.length:Int)>5 then (qa.j59 k x true) else ((qAZ.f k x.f2).bind fun t50=>(if t50=true then (if x.f3<0 then (qa.j59 k x true) else (if x.f3>2147483647 then (qa.j59 k x true) else (if x.f7<0 then (qa.j59 k x true) else (if x.f7>2147483647 then (qa.j59 k x true) else (if x.f8<0 then (qa.j59 k x true) else (qa.j59 k x (decide (x.f8>x.f3)))))))) else (qa.j59 k x true)))))))
def qa.j36:Nat→qc→Int→Bool→Option Bool
 | 0,_,_,_=>none
 | k+1,x,x7,y35=>if y35=true then (some false) else (qa.l8 k x (w64 (x7+1)))
def qa.j59:Nat→qc→Bool→Option Bool
 | 0,_,_=>none
 | k+1,x,y58=>if y58=true then (some false) else (if x.f4=true then (if x.f3=x.f8 then (some false) else (if x.f5≥0 then (if x.f5<x.f2.f0.f3 then ((qBT.f k x.f6).bind fun t72=>(some t72)) else (some false)) else (some false))) else (some true))
end
theorem qa.l8_s k x x7:type_of% (qa.l8.eq_2 x x7 k):=qa.l8.eq_2 x x7 k
theorem qa.j36_s k x x7 y35:type_of% (qa.j36.eq_2 x x7 y35 k):=qa.j36.eq_2 x x7 y35 k
theorem qa.j59_s k x y58:type_of% (qa.j59.eq_2 x y58 k):=qa.j59.eq_2 x y58 k
def qa.f(k:Nat)(x:qc):Option Bool:=qa.l8 k x 0
def qa.Post(W F:World)(r:Bool)(v:Value)(w':World):Prop:=∃(F':World),v = .bool r∧Sm W F w' F' []
theorem qa.calls(k:Nat)(x:qc)(A0_1:OA)(c0_1:Nat)(A0_6:OA)(c0_6:Nat)(A0_7:OA)(c0_7:Nat)(A0_8:OA)(c0_8:Nat)(A0_9:OA)(c0_9:Nat)(r:Bool)(W F:World)(hown:Sub F W)(g0_1:Rd ki F A0_1 c0_1 x.f1)(g0_6:Rd qA.k F A0_6 c0_6 x.f2.f0.f4)(g0_7:Rd qI.k F A0_7 c0_7 x.f2.f0.f5)(g0_8:Rd qC.k F A0_8 c0_8 x.f2.f0.f6)(g0_9:Rd qE.k F A0_9 c0_9 x.f2.f1)(H:qa.f k x=some r):
    Cr 18 #[.agg #[iv x.f0,.slice A0_1 x.f1.length c0_1,iv x.f2.f0.f0,iv x.f2.f0.f1,iv x.f2.f0.f2,iv x.f2.f0.f3,.slice A0_6 x.f2.f0.f4.length c0_6,.slice A0_7 x.f2.f0.f5.length c0_7,.slice A0_8 x.f2.f0.f6.length c0_8,.slice A0_9 x.f2.f1.length c0_9,iv x.f3,.bool x.f4,iv x.f5,iv x.f6.f0,.string x.f6.f1,iv x.f6.f2.f0,iv x.f6.f2.f1,iv x.f6.f3,iv x.f6.f4,iv x.f6.f5,iv x.f7,iv x.f8,iv x.f9.f0,.bool x.f9.f1,iv x.f9.f2]] W (qa.Post W F r):=by
 have S:=sT hown
 unfold qa.f at H
 refine ent 133 rfl rfl rfl (fun a E=>?_)
 refine sq fun K1 hK1=>pl0 (plx (t:=55) E S [iv x.f0,.slice A0_1 x.f1.length c0_1,iv x.f2.f0.f0,iv x.f2.f0.f1,iv x.f2.f0.f2,iv x.f2.f0.f3,.slice A0_6 x.f2.f0.f4.length c0_6,.slice A0_7 x.f2.f0.f5.length c0_7,.slice A0_8 x.f2.f0.f6.length c0_8,.slice A0_9 x.f2.f1.length c0_9,iv x.f3,.bool x.f4,iv x.f5,iv x.f6.f0,.string x.f6.f1,iv x.f6.f2.f0,iv x.f6.f2.f1,iv x.f6.f3,iv x.f6.f4,iv x.f6.f5,iv x.f7,iv x.f8,iv x.f9.f0,.bool x.f9.f1,iv x.f9.f2] fun b2 u3 hb2 S a E=>plc E (.r 1 1 .nil) (fun a E=>pld (hK1 _ _ (rr E fun a E=>(sq fun K5 hK5=>rr E fun a E=>(wp_block ?_))))))
 refine wp_loop_ghost (fun kq9 a w'=>∃(G:NV)(x7:Int),kq9≤k∧Env 133 G a∧At G [(1,.pointer (pb b2)),(3,iv 2147483647),(4,iv x7)]∧Sm W F w' F [box b2 #[iv x.f0,.slice A0_1 x.f1.length c0_1,iv x.f2.f0.f0,iv x.f2.f0.f1,iv x.f2.f0.f2,iv x.f2.f0.f3,.slice A0_6 x.f2.f0.f4.length c0_6,.slice A0_7 x.f2.f0.f5.length c0_7,.slice A0_8 x.f2.f0.f6.length c0_8,.slice A0_9 x.f2.f1.length c0_9,iv x.f3,.bool x.f4,iv x.f5,iv x.f6.f0,.string x.f6.f1,iv x.f6.f2.f0,iv x.f6.f2.f1,iv x.f6.f3,iv x.f6.f4,iv x.f6.f5,iv x.f7,iv x.f8,iv x.f9.f0,.bool x.f9.f1,iv x.f9.f2] 55]∧qa.l8 kq9 x x7=some r) k ⟨_,0,Nat.le_refl _,E,.of,S,H⟩ ?_
 rintro kq9 a u11 ⟨G,x7,hkq,E,A,S,H⟩
 obtain _ | k10:=kq9
 exact zz H
 rw [qa.l8_s]at H
 obtain ⟨J,E⟩:=E.at A
 refine sq fun K12 hK12=>sq fun K13 hK13=>pl0 ?_
 have hb2:=S.ba 0
 refine plc E (.r 0 2<|.b 2 1 hb2<|.r 3 2<|.nil) (fun a E=>pld (hK13 _ _ (E.ik 9 H (fun c14 E H=>?_) fun c14 E H=>?_)))
 refine wp_skip (hK12 _ _ (sq fun K15 hK15=>wp_block (sq fun K16 hK16=>?_)))
 have J39:∀ kq37,kq37≤k10→∀(G:NV)(y35:Bool)(a:Act)(w':World),Env 133 G a→At G [(1,.pointer (pb b2)),(3,iv 2147483647),(4,iv x7),(43,.bool y35)]→Sm W F w' F [box b2 #[iv x.f0,.slice A0_1 x.f1.length c0_1,iv x.f2.f0.f0,iv x.f2.f0.f1,iv x.f2.f0.f2,iv x.f2.f0.f3,.slice A0_6 x.f2.f0.f4.length c0_6,.slice A0_7 x.f2.f0.f5.length c0_7,.slice A0_8 x.f2.f0.f6.length c0_8,.slice A0_9 x.f2.f1.length c0_9,iv x.f3,.bool x.f4,iv x.f5,iv x.f6.f0,.string x.f6.f1,iv x.f6.f2.f0,iv x.f6.f2.f1,iv x.f6.f3,iv x.f6.f4,iv x.f6.f5,iv x.f7,iv x.f8,iv x.f9.f0,.bool x.f9.f1,iv x.f9.f2] 55]→qa.j36 kq37 x x7 y35=some r→K16 a w':=by
  intro kq37 hkq G y35 a u40 E A S H
  obtain _ | k38:=kq37
  exact zz H
  rw [qa.j36_s]at H
  obtain ⟨J,E⟩:=E.at A
  refine hK16 _ _ (E.ib 43 H (fun c41 E H=>?_) fun c41 E H=>?_)
  refine rr E fun a E=>(wp_ret (qCK (qCJ (qCJ (qCK (qCJ ?_))))))
  replace S:=S.tail
  obtain rfl:=si H
  exact rt1 E ⟨_,rfl,_,rfl,S⟩
  refine wp_skip ?_
  refine qCL ?_
  refine hK15 _ _ (pl0 (plc E (.r 0 3 .nil) (fun a E=>pld ?_)))
  exact qCM ⟨k38,by omega,_,(w64 (x7+1)),by omega,E,.of,S,H⟩
 refine drawn 32 ⟨[],[],fun q=>False⟩ mixed rfl (by kernel_rfl) (fun hst=>?_)
 replace S:=S.drew
 have hb2:=S.ba 0
 obtain ⟨c17,H⟩:=gd H
 have hE_:=E
 obtain ⟨ad18,rfl⟩:=g0_1.addr c17.1 c17.2
 replace E:=hE_
 obtain ⟨cs20,rfl,hc21⟩:=g0_1.el 0 x7 c17.1 c17.2
 refine mny 25 hst E (.r 0 1<|.b 1 1 hb2<|.r 2 1<|.x 3 c17<|.c 4 (S.fc hc21 0)<|.r 5 2<|.nil) (fun a E=>?_)
 refine E.fk 18 H (fun c22 E H=>?_) fun c22 E H=>?_
 refine mny 0 hst E (.r 7 25 .nil) (fun a E=>?_)
 refine dn ?_
 exact J39 _ (by omega) _ true _ _ E .of S H
 refine mny 17 hst E (.r 7 1<|.b 8 1 hb2<|.r 9 1<|.x 10 c17<|.c 11 (S.fc hc21 0)<|.r 12 3<|.nil) (fun a E=>?_)
 refine E.fk 26 H (fun c26 E H=>?_) fun c26 E H=>?_
 refine mny 0 hst E (.r 15 17 .nil) (fun a E=>?_)
 refine dn ?_
 exact J39 _ (by omega) _ true _ _ E .of S H
 refine mny 14 hst E (.r 15 3 .nil) (fun a E=>?_)
 refine E.fk 29 H (fun c27 E H=>?_) fun c27 E H=>?_
 obtain ⟨c28,H⟩:=gd H
 obtain ⟨cs30,rfl,hc31⟩:=g0_1.el 0 (w64 (x7 - 1)) c28.1 c28.2
 refine mny 0 hst E (.r 18 1<|.b 19 1 hb2<|.r 20 2<|.x 22 c28<|.c 23 (S.fc hc31 0)<|.r 24 1<|.b 25 1 hb2<|.r 26 1<|.x 27 c17<|.c 28 (S.fc hc21 0)<|.r 29 3<|.nil) (fun a E=>?_)
 refine dn ?_
 exact J39 _ (by omega) _ (decide ((nth 0 x.f1 (w64 (x7 - 1)))≥(nth 0 x.f1 x7))) _ _ E .of S H
 refine mny 0 hst E (.r 18 14 .nil) (fun a E=>?_)
 refine dn ?_
 exact J39 _ (by omega) _ false _ _ E .of S H
 refine wp_exit ?_
 refine hK5 _ _ (sq fun K43 hK43=>sq fun K44 hK44=>?_)
 have J62:∀ kq60,kq60≤k10→∀(G:NV)(y58:Bool)(a:Act)(w':World),Env 133 G a→At G [(1,.pointer (pb b2)),(103,.bool y58)]→Sm W F w' F [box b2 #[iv x.f0,.slice A0_1 x.f1.length c0_1,iv x.f2.f0.f0,iv x.f2.f0.f1,iv x.f2.f0.f2,iv x.f2.f0.f3,.slice A0_6 x.f2.f0.f4.length c0_6,.slice A0_7 x.f2.f0.f5.length c0_7,.slice A0_8 x.f2.f0.f6.length c0_8,.slice A0_9 x.f2.f1.length c0_9,iv x.f3,.bool x.f4,iv x.f5,iv x.f6.f0,.string x.f6.f1,iv x.f6.f2.f0,iv x.f6.f2.f1,iv x.f6.f3,iv x.f6.f4,iv x.f6.f5,iv x.f7,iv x.f8,iv x.f9.f0,.bool x.f9.f1,iv x.f9.f2] 55]→qa.j59 kq60 x y58=some r→K44 a w':=by
  intro kq60 hkq G y58 a u63 E A S H
  obtain _ | k61:=kq60
  exact zz H
  rw [qa.j59_s]at H
  obtain ⟨J,E⟩:=E.at A
  refine hK44 _ _ (E.ib 103 H (fun c64 E H=>?_) fun c64 E H=>?_)
  refine rr E fun a E=>(wp_ret (qCJ ?_))
  replace S:=S.tail
  obtain rfl:=si H
  exact rt1 E ⟨_,rfl,_,rfl,S⟩
  refine wp_skip (hK43 _ _ (sq fun K66 hK66=>pl0 ?_))
  have hb2:=S.ba 0
  refine plc E (.r 0 1<|.b 1 11 hb2<|.r 2 2<|.nil) (fun a E=>E.fbn 107 H (fun c67 E H=>?_) fun c67 E H=>?_)
  refine plc E (.r 4 1<|.b 5 10 hb2<|.r 6 1<|.b 7 21 hb2<|.r 8 2<|.nil) (fun a E=>E.fkn 113 H (fun c68 E H=>?_) fun c68 E H=>?_)
  refine plc E (.r 10 20 .nil) (fun a E=>pld (hK66 _ _ (wp_ret ?_)))
  replace S:=S.tail
  obtain rfl:=si H
  exact rt1 E ⟨_,rfl,_,rfl,S⟩
  refine plc E (.r 10 1<|.b 11 12 hb2<|.r 12 3<|.nil) (fun a E=>E.fk 118 H (fun c69 E H=>?_) fun c69 E H=>?_)
  refine plc E (.r 15 1<|.b 16 12 hb2<|.r 17 3<|.b 20 5 hb2<|.r 21 3<|.nil) (fun a E=>E.fk 127 H (fun c70 E H=>?_) fun c70 E H=>?_)
  refine plc E (.r 24 1<|.bn 25 13 7 hb2<|.nil) (fun a E=>?_)
  obtain ⟨t72,h73,H⟩:=bd H
  refine plq E S en53 (qBT.calls k61 x.f6 _ _ _ S.own.sub h73) fun u71 S a E=>plc E (.r 27 3 .nil) (fun a E=>pld (hK66 _ _ (wp_ret ?_)))
  replace S:=S.tail
  obtain rfl:=si H
  exact rt1 E ⟨_,rfl,_,rfl,S⟩
  refine plc E (.r 24 6 .nil) (fun a E=>pld (hK66 _ _ (wp_ret ?_)))
  replace S:=S.tail
  obtain rfl:=si H
  exact rt1 E ⟨_,rfl,_,rfl,S⟩
  refine plc E (.r 15 15 .nil) (fun a E=>pld (hK66 _ _ (wp_ret ?_)))
  replace S:=S.tail
  obtain rfl:=si H
  exact rt1 E ⟨_,rfl,_,rfl,S⟩
  refine plc E (.r 4 26 .nil) (fun a E=>pld (hK66 _ _ (wp_ret ?_)))
  replace S:=S.tail
  obtain rfl:=si H
  exact rt1 E ⟨_,rfl,_,rfl,S⟩
 refine pl0 (plc E (.r 0 1<|.b 1 0 hb2<|.r 2 2<|.nil) (fun a E=>E.fk 47 H (fun c45 E H=>?_) fun c45 E H=>?_))
 refine plc E (.r 4 56 .nil) (fun a E=>pld ?_)
 exact J62 _ (by omega) _ true _ _ E .of S H
 refine plc E (.r 4 1<|.b 5 0 hb2<|.r 6 3<|.nil) (fun a E=>E.fk 52 H (fun c46 E H=>?_) fun c46 E H=>?_)
 refine plc E (.r 9 51 .nil) (fun a E=>pld ?_)
 exact J62 _ (by omega) _ true _ _ E .of S H
 refine plc E (.r 9 1<|.b 10 1 hb2<|.r 11 4<|.nil) (fun a E=>E.fk 58 H (fun c47 E H=>?_) fun c47 E H=>?_)
 refine plc E (.r 15 45 .nil) (fun a E=>pld ?_)
 exact J62 _ (by omega) _ true _ _ E .of S H
 refine plc E (.r 15 1<|.b 16 1 hb2<|.r 17 4<|.nil) (fun a E=>E.fk 64 H (fun c48 E H=>?_) fun c48 E H=>?_)
 refine plc E (.r 21 39 .nil) (fun a E=>pld ?_)
 exact J62 _ (by omega) _ true _ _ E .of S H
 refine plc E (.r 21 1<|.bn 22 2 8 hb2<|.nil) (fun a E=>?_)
 obtain ⟨t50,h51,H⟩:=bd H
 refine plq E S en52 (qAZ.calls k10 x.f2 _ _ _ _ _ _ _ _ _ _ _ S.own.sub g0_6 g0_7 g0_8 g0_9 h51) fun u49 S a E=>plc E (.r 24 3 .nil) (fun a E=>E.fbn 70 H (fun c52 E H=>?_) fun c52 E H=>?_)
 have hb2:=S.ba 0
 refine plc E (.r 27 1<|.b 28 10 hb2<|.r 29 3<|.nil) (fun a E=>E.fk 75 H (fun c53 E H=>?_) fun c53 E H=>?_)
 refine plc E (.r 32 28 .nil) (fun a E=>pld ?_)
 exact J62 _ (by omega) _ true _ _ E .of S H
 refine plc E (.r 32 1<|.b 33 10 hb2<|.r 34 4<|.nil) (fun a E=>E.fk 81 H (fun c54 E H=>?_) fun c54 E H=>?_)
 refine plc E (.r 38 22 .nil) (fun a E=>pld ?_)
 exact J62 _ (by omega) _ true _ _ E .of S H
 refine plc E (.r 38 1<|.b 39 20 hb2<|.r 40 3<|.nil) (fun a E=>E.fk 86 H (fun c55 E H=>?_) fun c55 E H=>?_)
 refine plc E (.r 43 17 .nil) (fun a E=>pld ?_)
 exact J62 _ (by omega) _ true _ _ E .of S H
 refine plc E (.r 43 1<|.b 44 20 hb2<|.r 45 4<|.nil) (fun a E=>E.fk 92 H (fun c56 E H=>?_) fun c56 E H=>?_)
 refine plc E (.r 49 11 .nil) (fun a E=>pld ?_)
 exact J62 _ (by omega) _ true _ _ E .of S H
 refine plc E (.r 49 1<|.b 50 21 hb2<|.r 51 3<|.nil) (fun a E=>E.fk 97 H (fun c57 E H=>?_) fun c57 E H=>?_)
 refine plc E (.r 54 6 .nil) (fun a E=>pld ?_)
 exact J62 _ (by omega) _ true _ _ E .of S H
 refine plc E (.r 54 1<|.b 55 21 hb2<|.r 56 1<|.b 57 10 hb2<|.r 58 2<|.nil) (fun a E=>pld ?_)
 exact J62 _ (by omega) _ (decide (x.f8>x.f3)) _ _ E .of S H
 refine plc E (.r 27 33 .nil) (fun a E=>pld ?_)
 exact J62 _ (by omega) _ true _ _ E .of S H
def qAP.l9:Nat→List qA→List qA→Int→Option Bool
 | 0,_,_,_=>none
 | k+1,x,y,x8=>if x8<(x.length:Int) then (if 0≤x8∧x8<(x.length:Int) then (if 0≤x8∧x8<(y.length:Int) then (if (nth qA.z x x8)=(nth qA.z y x8) then (qAP.l9 k x y (w64 (x8+1))) else (some false)) else (none)) else (none)) else (some true)
theorem qAP.l9_s k x y x8:type_of% (qAP.l9.eq_2 x y x8 k):=qAP.l9.eq_2 x y x8 k
def qAP.f(k:Nat)(x:List qA)(y:List qA):Option Bool:=if (x.length:Int)=(y.length:Int) then (qAP.l9 k x y 0) else (some false)
def qAP.Post(W F:World)(r:Bool)(v:Value)(w':World):Prop:=∃(F':World),v = .bool r∧Sm W F w' F' []
theorem qAP.calls(k:Nat)(x:List qA)(y:List qA)(A0_0:OA)(c0_0:Nat)(A1_0:OA)(c1_0:Nat)(r:Bool)(W F:World)(hown:Sub F W)(g0_0:Rd qA.k F A0_0 c0_0 x)(g1_0:Rd qA.k F A1_0 c1_0 y)(H:qAP.f k x y=some r):
    Cr 46 #[.slice A0_0 x.length c0_0,.slice A1_0 y.length c1_0] W (qAP.Post W F r):=by
 have S:=sT hown
 unfold qAP.f at H
 refine ent 26 rfl rfl rfl (fun a E=>?_)
 refine rr E fun a E=>(sq fun K2 hK2=>rr E fun a E=>(E.ikn 10 H (fun c4 E H=>?_) fun c4 E H=>?_))
 refine wp_skip (hK2 _ _ (sq fun K6 hK6=>rr E fun a E=>(wp_block ?_)))
 refine wp_loop_ghost (fun kq10 a w'=>∃(G:NV)(x8:Int),kq10≤k∧Env 26 G a∧At G [(0,.slice A0_0 x.length c0_0),(1,.slice A1_0 y.length c1_0),(5,iv x8)]∧Sm W F w' F []∧qAP.l9 kq10 x y x8=some r) k ⟨_,0,Nat.le_refl _,E,.of,S,H⟩ ?_
 rintro kq10 a u12 ⟨G,x8,hkq,E,A,S,H⟩
 obtain _ | k11:=kq10
 exact zz H
 rw [qAP.l9_s]at H
 obtain ⟨J,E⟩:=E.at A
 refine sq fun K13 hK13=>rr E fun a E=>(E.ik 14 H (fun c15 E H=>?_) fun c15 E H=>?_)
 refine wp_skip (hK13 _ _ (sq fun K16 hK16=>wp_block (sq fun K17 hK17=>?_)))
 refine drawn 9 ⟨[],[],fun q=>False⟩ mixed rfl (by kernel_rfl) (fun hst=>?_)
 replace S:=S.drew
 obtain ⟨c18,H⟩:=gd H
 have hE_:=E
 obtain ⟨ad19,rfl⟩:=g0_0.addr c18.1 c18.2
 replace E:=hE_
 obtain ⟨cs21,rfl,hc22⟩:=g0_0.el qA.z x8 c18.1 c18.2
 obtain ⟨c23,H⟩:=gd H
 have hE_:=E
 obtain ⟨ad24,rfl⟩:=g1_0.addr c23.1 c23.2
 replace E:=hE_
 obtain ⟨cs26,rfl,hc27⟩:=g1_0.el qA.z x8 c23.1 c23.2
 refine mny 0 hst E (.r 0 2<|.x 2 c18<|.cs 3 (S.fcs hc22)<|.r 4 2<|.x 6 c23<|.cs 7 (S.fcs hc27)<|.y 8 (y_nes (fun w=>eqs153 (nth qA.z x x8) (nth qA.z y x8) w 9998))<|.nil) (fun a E=>?_)
 refine dn ?_
 refine hK17 _ _ (E.ikn 25 H (fun c28 E H=>?_) fun c28 E H=>?_)
 refine wp_skip ?_
 refine qCL ?_
 refine hK16 _ _ (pl0 (plc E (.r 0 3 .nil) (fun a E=>pld ?_)))
 exact qCM ⟨k11,by omega,_,(w64 (x8+1)),by omega,E,.of,S,H⟩
 refine rr E fun a E=>(wp_ret (qCK (qCJ (qCJ (qCK (qCJ ?_))))))
 obtain rfl:=si H
 exact rt1 E ⟨_,rfl,_,rfl,S⟩
 refine wp_exit ?_
 refine hK6 _ _ (rr E fun a E=>(wp_ret ?_))
 obtain rfl:=si H
 exact rt1 E ⟨_,rfl,_,rfl,S⟩
 refine rr E fun a E=>(wp_ret (qCJ ?_))
 obtain rfl:=si H
 exact rt1 E ⟨_,rfl,_,rfl,S⟩
mutual
def qo.l9:Nat→List qL→List qL→Int→Option Bool
 | 0,_,_,_=>none
 | k+1,x,y,x8=>if x8<(x.length:Int) then (if 0≤x8∧x8<(x.length:Int) then (if 0≤x8∧x8<(y.length:Int) then (if (nth qL.z x x8).f0=(nth qL.z y x8).f0 then ((qv.f k ((nth qL.z x x8).f1) ((nth qL.z y x8).f1)).bind fun t42=>(qo.j45 k x y x8 (!t42))) else (qo.j45 k x y x8 true)) else (none)) else (none)) else (some true)
def qo.j45:Nat→List qL→List qL→Int→Bool→Option Bool
 | 0,_,_,_,_=>none
 | k+1,x,y,x8,y44=>if y44=true then (some false) else (qo.l9 k x y (w64 (x8+1)))
end
theorem qo.l9_s k x y x8:type_of% (qo.l9.eq_2 x y x8 k):=qo.l9.eq_2 x y x8 k
theorem qo.j45_s k x y x8 y44:type_of% (qo.j45.eq_2 x y x8 y44 k):=qo.j45.eq_2 x y x8 y44 k
def qo.f(k:Nat)(x:List qL)(y:List qL):Option Bool:=if (x.length:Int)=(y.length:Int) then (qo.l9 k x y 0) else (some false)
def qo.Post(W F:World)(r:Bool)(v:Value)(w':World):Prop:=∃(F':World),v = .bool r∧Sm W F w' F' []
theorem qo.calls(k:Nat)(x:List qL)(y:List qL)(A0_0:OA)(c0_0:Nat)(A1_0:OA)(c1_0:Nat)(r:Bool)(W F:World)(hown:Sub F W)(g0_0:Rd qL.k F A0_0 c0_0 x)(g1_0:Rd qL.k F A1_0 c1_0 y)(H:qo.f k x y=some r):
    Cr 109 #[.slice A0_0 x.length c0_0,.slice A1_0 y.length c1_0] W (qo.Post W F r):=by
 have S:=sT hown
 unfold qo.f at H
 refine ent 42 rfl rfl rfl (fun a E=>?_)
 refine rr E fun a E=>(sq fun K2 hK2=>rr E fun a E=>(E.ikn 10 H (fun c4 E H=>?_) fun c4 E H=>?_))
 refine wp_skip (hK2 _ _ (sq fun K6 hK6=>rr E fun a E=>(wp_block ?_)))
 refine wp_loop_ghost (fun kq10 a w'=>∃(G:NV)(x8:Int),kq10≤k∧Env 42 G a∧At G [(0,.slice A0_0 x.length c0_0),(1,.slice A1_0 y.length c1_0),(5,iv x8)]∧Sm W F w' F []∧qo.l9 kq10 x y x8=some r) k ⟨_,0,Nat.le_refl _,E,.of,S,H⟩ ?_
 rintro kq10 a u12 ⟨G,x8,hkq,E,A,S,H⟩
 obtain _ | k11:=kq10
 exact zz H
 rw [qo.l9_s]at H
 obtain ⟨J,E⟩:=E.at A
 refine sq fun K13 hK13=>rr E fun a E=>(E.ik 14 H (fun c15 E H=>?_) fun c15 E H=>?_)
 refine wp_skip (hK13 _ _ (sq fun K16 hK16=>wp_block (sq fun K17 hK17=>?_)))
 have J48:∀ kq46,kq46≤k11→∀(G:NV)(y44:Bool)(a:Act)(w':World),Env 42 G a→At G [(0,.slice A0_0 x.length c0_0),(1,.slice A1_0 y.length c1_0),(5,iv x8),(41,.bool y44)]→Sm W F w' F []→qo.j45 kq46 x y x8 y44=some r→K17 a w':=by
  intro kq46 hkq G y44 a u49 E A S H
  obtain _ | k47:=kq46
  exact zz H
  rw [qo.j45_s]at H
  obtain ⟨J,E⟩:=E.at A
  refine hK17 _ _ (E.ib 41 H (fun c50 E H=>?_) fun c50 E H=>?_)
  refine rr E fun a E=>(wp_ret (qCK (qCJ (qCJ (qCK (qCJ ?_))))))
  obtain rfl:=si H
  exact rt1 E ⟨_,rfl,_,rfl,S⟩
  refine wp_skip ?_
  refine qCL ?_
  refine hK16 _ _ (pl0 (plc E (.r 0 3 .nil) (fun a E=>pld ?_)))
  exact qCM ⟨k47,by omega,_,(w64 (x8+1)),by omega,E,.of,S,H⟩
 refine drawn 25 ⟨[],[],fun q=>False⟩ mixed rfl (by kernel_rfl) (fun hst=>?_)
 replace S:=S.drew
 obtain ⟨c18,H⟩:=gd H
 have hE_:=E
 obtain ⟨ad19,rfl⟩:=g0_0.addr c18.1 c18.2
 replace E:=hE_
 obtain ⟨cs21,⟨A23,c24,rfl,g25⟩,hc22⟩:=g0_0.el qL.z x8 c18.1 c18.2
 obtain ⟨c26,H⟩:=gd H
 have hE_:=E
 obtain ⟨ad27,rfl⟩:=g1_0.addr c26.1 c26.2
 replace E:=hE_
 obtain ⟨cs29,⟨A31,c32,rfl,g33⟩,hc30⟩:=g1_0.el qL.z x8 c26.1 c26.2
 refine mny 13 hst E (.r 0 2<|.x 2 c18<|.r 3 1<|.c 4 (S.fc hc22 0)<|.r 5 2<|.x 7 c26<|.r 8 1<|.c 9 (S.fc hc30 0)<|.r 10 2<|.nil) (fun a E=>?_)
 refine E.fkn 28 H (fun c34 E H=>?_) fun c34 E H=>?_
 refine mny 3 hst E (.r 12 2<|.x 14 c18<|.r 15 1<|.c 16 (S.fc hc22 1)<|.r 17 2<|.x 19 c26<|.r 20 1<|.c 21 (S.fc hc30 1)<|.nil) (fun a E=>?_)
 obtain ⟨t42,h43,H⟩:=bd H
 refine on1 22 E (.cl en43 (qv.calls k11 ((nth qL.z x x8).f1) ((nth qL.z y x8).f1) _ _ _ _ _ _ _ S.own.sub g25 g33 h43)) ?_
 rintro _ u41 a ⟨_,rfl,hC⟩ E
 refine ⟨.of hC.agr,?_⟩
 replace S:=S.lent hC
 refine mny 0 hst E (.r 23 2 .nil) (fun a E=>?_)
 refine dn ?_
 exact J48 _ (by omega) _ (!t42) _ _ E .of S H
 refine mny 0 hst E (.r 12 13 .nil) (fun a E=>?_)
 refine dn ?_
 exact J48 _ (by omega) _ true _ _ E .of S H
 refine wp_exit ?_
 refine hK6 _ _ (rr E fun a E=>(wp_ret ?_))
 obtain rfl:=si H
 exact rt1 E ⟨_,rfl,_,rfl,S⟩
 refine rr E fun a E=>(wp_ret (qCJ ?_))
 obtain rfl:=si H
 exact rt1 E ⟨_,rfl,_,rfl,S⟩
mutual
def ql.l9:Nat→List qC→List qC→Int→Option Bool
 | 0,_,_,_=>none
 | k+1,x,y,x8=>if x8<(x.length:Int) then (if 0≤x8∧x8<(x.length:Int) then (if 0≤x8∧x8<(y.length:Int) then (if (nth qC.z x x8).f0=(nth qC.z y x8).f0 then ((qo.f k ((nth qC.z x x8).f1) ((nth qC.z y x8).f1)).bind fun t42=>(ql.j45 k x y x8 (!t42))) else (ql.j45 k x y x8 true)) else (none)) else (none)) else (some true)
def ql.j45:Nat→List qC→List qC→Int→Bool→Option Bool
 | 0,_,_,_,_=>none
 | k+1,x,y,x8,y44=>if y44=true then (some false) else (ql.l9 k x y (w64 (x8+1)))
end
theorem ql.l9_s k x y x8:type_of% (ql.l9.eq_2 x y x8 k):=ql.l9.eq_2 x y x8 k
theorem ql.j45_s k x y x8 y44:type_of% (ql.j45.eq_2 x y x8 y44 k):=ql.j45.eq_2 x y x8 y44 k
def ql.f(k:Nat)(x:List qC)(y:List qC):Option Bool:=if (x.length:Int)=(y.length:Int) then (ql.l9 k x y 0) else (some false)
def ql.Post(W F:World)(r:Bool)(v:Value)(w':World):Prop:=∃(F':World),v = .bool r∧Sm W F w' F' []
theorem ql.calls(k:Nat)(x:List qC)(y:List qC)(A0_0:OA)(c0_0:Nat)(A1_0:OA)(c1_0:Nat)(r:Bool)(W F:World)(hown:Sub F W)(g0_0:Rd qC.k F A0_0 c0_0 x)(g1_0:Rd qC.k F A1_0 c1_0 y)(H:ql.f k x y=some r):
    Cr 47 #[.slice A0_0 x.length c0_0,.slice A1_0 y.length c1_0] W (ql.Post W F r):=by
 have S:=sT hown
 unfold ql.f at H
 refine ent 42 rfl rfl rfl (fun a E=>?_)
 refine rr E fun a E=>(sq fun K2 hK2=>rr E fun a E=>(E.ikn 10 H (fun c4 E H=>?_) fun c4 E H=>?_))
 refine wp_skip (hK2 _ _ (sq fun K6 hK6=>rr E fun a E=>(wp_block ?_)))
 refine wp_loop_ghost (fun kq10 a w'=>∃(G:NV)(x8:Int),kq10≤k∧Env 42 G a∧At G [(0,.slice A0_0 x.length c0_0),(1,.slice A1_0 y.length c1_0),(5,iv x8)]∧Sm W F w' F []∧ql.l9 kq10 x y x8=some r) k ⟨_,0,Nat.le_refl _,E,.of,S,H⟩ ?_
 rintro kq10 a u12 ⟨G,x8,hkq,E,A,S,H⟩
 obtain _ | k11:=kq10
 exact zz H
 rw [ql.l9_s]at H
 obtain ⟨J,E⟩:=E.at A
 refine sq fun K13 hK13=>rr E fun a E=>(E.ik 14 H (fun c15 E H=>?_) fun c15 E H=>?_)
 refine wp_skip (hK13 _ _ (sq fun K16 hK16=>wp_block (sq fun K17 hK17=>?_)))
 have J48:∀ kq46,kq46≤k11→∀(G:NV)(y44:Bool)(a:Act)(w':World),Env 42 G a→At G [(0,.slice A0_0 x.length c0_0),(1,.slice A1_0 y.length c1_0),(5,iv x8),(41,.bool y44)]→Sm W F w' F []→ql.j45 kq46 x y x8 y44=some r→K17 a w':=by
  intro kq46 hkq G y44 a u49 E A S H
  obtain _ | k47:=kq46
  exact zz H
  rw [ql.j45_s]at H
  obtain ⟨J,E⟩:=E.at A
  refine hK17 _ _ (E.ib 41 H (fun c50 E H=>?_) fun c50 E H=>?_)
  refine rr E fun a E=>(wp_ret (qCK (qCJ (qCJ (qCK (qCJ ?_))))))
  obtain rfl:=si H
  exact rt1 E ⟨_,rfl,_,rfl,S⟩
  refine wp_skip ?_
  refine qCL ?_
  refine hK16 _ _ (pl0 (plc E (.r 0 3 .nil) (fun a E=>pld ?_)))
  exact qCM ⟨k47,by omega,_,(w64 (x8+1)),by omega,E,.of,S,H⟩
 refine drawn 25 ⟨[],[],fun q=>False⟩ mixed rfl (by kernel_rfl) (fun hst=>?_)
 replace S:=S.drew
 obtain ⟨c18,H⟩:=gd H
 have hE_:=E
 obtain ⟨ad19,rfl⟩:=g0_0.addr c18.1 c18.2
 replace E:=hE_
 obtain ⟨cs21,⟨A23,c24,rfl,g25⟩,hc22⟩:=g0_0.el qC.z x8 c18.1 c18.2
 obtain ⟨c26,H⟩:=gd H
 have hE_:=E
 obtain ⟨ad27,rfl⟩:=g1_0.addr c26.1 c26.2
 replace E:=hE_
 obtain ⟨cs29,⟨A31,c32,rfl,g33⟩,hc30⟩:=g1_0.el qC.z x8 c26.1 c26.2
 refine mny 13 hst E (.r 0 2<|.x 2 c18<|.r 3 1<|.c 4 (S.fc hc22 0)<|.r 5 2<|.x 7 c26<|.r 8 1<|.c 9 (S.fc hc30 0)<|.r 10 2<|.nil) (fun a E=>?_)
 refine E.fkn 28 H (fun c34 E H=>?_) fun c34 E H=>?_
 refine mny 3 hst E (.r 12 2<|.x 14 c18<|.r 15 1<|.c 16 (S.fc hc22 1)<|.r 17 2<|.x 19 c26<|.r 20 1<|.c 21 (S.fc hc30 1)<|.nil) (fun a E=>?_)
 obtain ⟨t42,h43,H⟩:=bd H
 refine on1 22 E (.cl en109 (qo.calls k11 ((nth qC.z x x8).f1) ((nth qC.z y x8).f1) _ _ _ _ _ _ _ S.own.sub g25 g33 h43)) ?_
 rintro _ u41 a ⟨_,rfl,hC⟩ E
 refine ⟨.of hC.agr,?_⟩
 replace S:=S.lent hC
 refine mny 0 hst E (.r 23 2 .nil) (fun a E=>?_)
 refine dn ?_
 exact J48 _ (by omega) _ (!t42) _ _ E .of S H
 refine mny 0 hst E (.r 12 13 .nil) (fun a E=>?_)
 refine dn ?_
 exact J48 _ (by omega) _ true _ _ E .of S H
 refine wp_exit ?_
 refine hK6 _ _ (rr E fun a E=>(wp_ret ?_))
 obtain rfl:=si H
 exact rt1 E ⟨_,rfl,_,rfl,S⟩
 refine rr E fun a E=>(wp_ret (qCJ ?_))
 obtain rfl:=si H
 exact rt1 E ⟨_,rfl,_,rfl,S⟩
mutual
def qd.j17:Nat→qF→qF→Bool→Option Bool
 | 0,_,_,_=>none
 | k+1,x,y,y16=>if y16=true then (some false) else (qd.l27 k x y 0)
def qd.l27:Nat→qF→qF→Int→Option Bool
 | 0,_,_,_=>none
 | k+1,x,y,x26=>if x26<(x.f5.length:Int) then (if 0≤x26∧x26<(x.f5.length:Int) then (if 0≤x26∧x26<(y.f5.length:Int) then (if (nth qI.z x.f5 x26).f0=(nth qI.z y.f5 x26).f0 then ((qv.f k ((nth qI.z x.f5 x26).f1) ((nth qI.z y.f5 x26).f1)).bind fun t60=>(qd.j63 k x y x26 (!t60))) else (qd.j63 k x y x26 true)) else (none)) else (none)) else ((ql.f k x.f6 y.f6).bind fun t72=>(some t72))
def qd.j63:Nat→qF→qF→Int→Bool→Option Bool
 | 0,_,_,_,_=>none
 | k+1,x,y,x26,y62=>if y62=true then (some false) else (qd.l27 k x y (w64 (x26+1)))
end
theorem qd.j17_s k x y y16:type_of% (qd.j17.eq_2 x y y16 k):=qd.j17.eq_2 x y y16 k
theorem qd.l27_s k x y x26:type_of% (qd.l27.eq_2 x y x26 k):=qd.l27.eq_2 x y x26 k
theorem qd.j63_s k x y x26 y62:type_of% (qd.j63.eq_2 x y x26 y62 k):=qd.j63.eq_2 x y x26 y62 k
def qd.f(k:Nat)(x:qF)(y:qF):Option Bool:=if x.f0=y.f0 then (if x.f1=y.f1 then (if x.f2=y.f2 then (if x.f3=y.f3 then ((qAP.f k x.f4 y.f4).bind fun t13=>(if t13=true then (qd.j17 k x y (!((x.f5.length:Int) == (y.f5.length:Int)))) else (qd.j17 k x y true))) else (qd.j17 k x y true)) else (qd.j17 k x y true)) else (qd.j17 k x y true)) else (qd.j17 k x y true)
def qd.Post(W F:World)(r:Bool)(v:Value)(w':World):Prop:=∃(F':World),v = .bool r∧Sm W F w' F' []
theorem qd.calls(k:Nat)(x:qF)(y:qF)(A0_4:OA)(c0_4:Nat)(A0_5:OA)(c0_5:Nat)(A0_6:OA)(c0_6:Nat)(A1_4:OA)(c1_4:Nat)(A1_5:OA)(c1_5:Nat)(A1_6:OA)(c1_6:Nat)(r:Bool)(W F:World)(hown:Sub F W)(g0_4:Rd qA.k F A0_4 c0_4 x.f4)(g0_5:Rd qI.k F A0_5 c0_5 x.f5)(g0_6:Rd qC.k F A0_6 c0_6 x.f6)(g1_4:Rd qA.k F A1_4 c1_4 y.f4)(g1_5:Rd qI.k F A1_5 c1_5 y.f5)(g1_6:Rd qC.k F A1_6 c1_6 y.f6)(H:qd.f k x y=some r):
    Cr 14 #[.agg #[iv x.f0,iv x.f1,iv x.f2,iv x.f3,.slice A0_4 x.f4.length c0_4,.slice A0_5 x.f5.length c0_5,.slice A0_6 x.f6.length c0_6],.agg #[iv y.f0,iv y.f1,iv y.f2,iv y.f3,.slice A1_4 y.f4.length c1_4,.slice A1_5 y.f5.length c1_5,.slice A1_6 y.f6.length c1_6]] W (qd.Post W F r):=by
 have S:=sT hown
 unfold qd.f at H
 refine ent 90 rfl rfl rfl (fun a E=>?_)
 refine sq fun K1 hK1=>pl0 (plx (t:=27) E S [iv x.f0,iv x.f1,iv x.f2,iv x.f3,.slice A0_4 x.f4.length c0_4,.slice A0_5 x.f5.length c0_5,.slice A0_6 x.f6.length c0_6] fun b2 u3 hb2 S a E=>plx (t:=27) E S [iv y.f0,iv y.f1,iv y.f2,iv y.f3,.slice A1_4 y.f4.length c1_4,.slice A1_5 y.f5.length c1_5,.slice A1_6 y.f6.length c1_6] fun b4 u5 hb4 S a E=>plc E (.r 2 1 .nil) (fun a E=>pld (hK1 _ _ (sq fun K6 hK6=>sq fun K7 hK7=>?_))))
 have J20:∀ kq18,kq18≤k→∀(G:NV)(y16:Bool)(a:Act)(w':World),Env 90 G a→At G [(2,.pointer (pb b2)),(3,.pointer (pb b4)),(48,.bool y16)]→Sm W F w' F [box b4 #[iv y.f0,iv y.f1,iv y.f2,iv y.f3,.slice A1_4 y.f4.length c1_4,.slice A1_5 y.f5.length c1_5,.slice A1_6 y.f6.length c1_6] 27,box b2 #[iv x.f0,iv x.f1,iv x.f2,iv x.f3,.slice A0_4 x.f4.length c0_4,.slice A0_5 x.f5.length c0_5,.slice A0_6 x.f6.length c0_6] 27]→qd.j17 kq18 x y y16=some r→K7 a w':=by
  intro kq18 hkq G y16 a u21 E A S H
  obtain _ | k19:=kq18
  exact zz H
  rw [qd.j17_s]at H
  obtain ⟨J,E⟩:=E.at A
  refine hK7 _ _ (E.ib 48 H (fun c22 E H=>?_) fun c22 E H=>?_)
  refine rr E fun a E=>(wp_ret (qCJ ?_))
  replace S:=S.pm [] 2
  obtain rfl:=si H
  exact rt1 E ⟨_,rfl,_,rfl,S⟩
  refine wp_skip (hK6 _ _ (sq fun K24 hK24=>rr E fun a E=>(wp_block ?_)))
  refine wp_loop_ghost (fun kq28 a w'=>∃(G:NV)(x26:Int),kq28≤k19∧Env 90 G a∧At G [(2,.pointer (pb b2)),(3,.pointer (pb b4)),(5,iv x26)]∧Sm W F w' F [box b4 #[iv y.f0,iv y.f1,iv y.f2,iv y.f3,.slice A1_4 y.f4.length c1_4,.slice A1_5 y.f5.length c1_5,.slice A1_6 y.f6.length c1_6] 27,box b2 #[iv x.f0,iv x.f1,iv x.f2,iv x.f3,.slice A0_4 x.f4.length c0_4,.slice A0_5 x.f5.length c0_5,.slice A0_6 x.f6.length c0_6] 27]∧qd.l27 kq28 x y x26=some r) k19 ⟨_,0,Nat.le_refl _,E,.of,S,H⟩ ?_
  rintro kq28 a u30 ⟨G,x26,hkq,E,A,S,H⟩
  obtain _ | k29:=kq28
  exact zz H
  rw [qd.l27_s]at H
  obtain ⟨J,E⟩:=E.at A
  refine sq fun K31 hK31=>sq fun K32 hK32=>pl0 ?_
  have hb2:=S.ba 1
  refine plc E (.r 0 2<|.b 2 5 hb2<|.r 3 2<|.nil) (fun a E=>pld (hK32 _ _ (E.ik 53 H (fun c33 E H=>?_) fun c33 E H=>?_)))
  refine wp_skip (hK31 _ _ (sq fun K34 hK34=>wp_block (sq fun K35 hK35=>?_)))
  have J66:∀ kq64,kq64≤k29→∀(G:NV)(y62:Bool)(a:Act)(w':World),Env 90 G a→At G [(2,.pointer (pb b2)),(3,.pointer (pb b4)),(5,iv x26),(84,.bool y62)]→Sm W F w' F [box b4 #[iv y.f0,iv y.f1,iv y.f2,iv y.f3,.slice A1_4 y.f4.length c1_4,.slice A1_5 y.f5.length c1_5,.slice A1_6 y.f6.length c1_6] 27,box b2 #[iv x.f0,iv x.f1,iv x.f2,iv x.f3,.slice A0_4 x.f4.length c0_4,.slice A0_5 x.f5.length c0_5,.slice A0_6 x.f6.length c0_6] 27]→qd.j63 kq64 x y x26 y62=some r→K35 a w':=by
   intro kq64 hkq G y62 a u67 E A S H
   obtain _ | k65:=kq64
   exact zz H
   rw [qd.j63_s]at H
   obtain ⟨J,E⟩:=E.at A
   refine hK35 _ _ (E.ib 84 H (fun c68 E H=>?_) fun c68 E H=>?_)
   refine rr E fun a E=>(wp_ret (qCK (qCJ (qCJ (qCK (qCJ ?_))))))
   replace S:=S.pm [] 2
   obtain rfl:=si H
   exact rt1 E ⟨_,rfl,_,rfl,S⟩
   refine wp_skip ?_
   refine qCL ?_
   refine hK34 _ _ (pl0 (plc E (.r 0 3 .nil) (fun a E=>pld ?_)))
   exact qCM ⟨k65,by omega,_,(w64 (x26+1)),by omega,E,.of,S,H⟩
  refine drawn 29 ⟨[],[],fun q=>False⟩ mixed rfl (by kernel_rfl) (fun hst=>?_)
  replace S:=S.drew
  have hb2:=S.ba 1
  obtain ⟨c36,H⟩:=gd H
  have hE_:=E
  obtain ⟨ad37,rfl⟩:=g0_5.addr c36.1 c36.2
  replace E:=hE_
  obtain ⟨cs39,⟨A41,c42,rfl,g43⟩,hc40⟩:=g0_5.el qI.z x26 c36.1 c36.2
  have hb4:=S.ba 0
  obtain ⟨c44,H⟩:=gd H
  have hE_:=E
  obtain ⟨ad45,rfl⟩:=g1_5.addr c44.1 c44.2
  replace E:=hE_
  obtain ⟨cs47,⟨A49,c50,rfl,g51⟩,hc48⟩:=g1_5.el qI.z x26 c44.1 c44.2
  refine mny 15 hst E (.r 0 1<|.b 1 5 hb2<|.r 2 1<|.x 3 c36<|.r 4 1<|.c 5 (S.fc hc40 0)<|.r 6 1<|.b 7 5 hb4<|.r 8 1<|.x 9 c44<|.r 10 1<|.c 11 (S.fc hc48 0)<|.r 12 2<|.nil) (fun a E=>?_)
  refine E.fkn 69 H (fun c52 E H=>?_) fun c52 E H=>?_
  refine mny 3 hst E (.r 14 1<|.b 15 5 hb2<|.r 16 1<|.x 17 c36<|.r 18 1<|.c 19 (S.fc hc40 1)<|.r 20 1<|.b 21 5 hb4<|.r 22 1<|.x 23 c44<|.r 24 1<|.c 25 (S.fc hc48 1)<|.nil) (fun a E=>?_)
  obtain ⟨t60,h61,H⟩:=bd H
  refine on1 26 E (.cl en43 (qv.calls k29 ((nth qI.z x.f5 x26).f1) ((nth qI.z y.f5 x26).f1) _ _ _ _ _ _ _ S.own.sub g43 g51 h61)) ?_
  rintro _ u59 a ⟨_,rfl,hC⟩ E
  refine ⟨.of hC.agr,?_⟩
  replace S:=S.lent hC
  refine mny 0 hst E (.r 27 2 .nil) (fun a E=>?_)
  refine dn ?_
  exact J66 _ (by omega) _ (!t60) _ _ E .of S H
  refine mny 0 hst E (.r 14 15 .nil) (fun a E=>?_)
  refine dn ?_
  exact J66 _ (by omega) _ true _ _ E .of S H
  refine wp_exit ?_
  refine hK24 _ _ (sq fun K70 hK70=>pl0 (plc E (.r 0 1<|.b 1 6 hb2<|.r 2 1<|.b 3 6 (S.ba 0)<|.nil) (fun a E=>?_)))
  obtain ⟨t72,h73,H⟩:=bd H
  refine plq E S en47 (ql.calls k29 x.f6 y.f6 _ _ _ _ _ _ _ S.own.sub g0_6 g1_6 h73) fun u71 S a E=>plc E (.r 5 1 .nil) (fun a E=>pld (hK70 _ _ (wp_ret ?_)))
  replace S:=S.pm [] 2
  obtain rfl:=si H
  exact rt1 E ⟨_,rfl,_,rfl,S⟩
 refine pl0 ?_
 have hb2:=S.ba 1
 refine plc E (.r 0 1<|.b 1 0 hb2<|.r 2 1<|.b 3 0 hb4<|.r 4 2<|.nil) (fun a E=>E.fkn 11 H (fun c8 E H=>?_) fun c8 E H=>?_)
 refine plc E (.r 6 1<|.b 7 1 hb2<|.r 8 1<|.b 9 1 hb4<|.r 10 3<|.nil) (fun a E=>E.fkn 18 H (fun c9 E H=>?_) fun c9 E H=>?_)
 refine plc E (.r 13 1<|.b 14 2 hb2<|.r 15 1<|.b 16 2 hb4<|.r 17 3<|.nil) (fun a E=>E.fkn 25 H (fun c10 E H=>?_) fun c10 E H=>?_)
 refine plc E (.r 20 1<|.b 21 3 hb2<|.r 22 1<|.b 23 3 hb4<|.r 24 3<|.nil) (fun a E=>E.fkn 32 H (fun c11 E H=>?_) fun c11 E H=>?_)
 refine plc E (.r 27 1<|.b 28 4 hb2<|.r 29 1<|.b 30 4 hb4<|.nil) (fun a E=>?_)
 obtain ⟨t13,h14,H⟩:=bd H
 refine plq E S en46 (qAP.calls k x.f4 y.f4 _ _ _ _ _ _ _ S.own.sub g0_4 g1_4 h14) fun u12 S a E=>plc E (.r 32 3 .nil) (fun a E=>E.fbn 40 H (fun c15 E H=>?_) fun c15 E H=>?_)
 refine plc E (.r 35 1<|.b 36 5 (S.ba 1)<|.r 37 2<|.b 39 5 (S.ba 0)<|.r 40 3<|.nil) (fun a E=>pld ?_)
 exact J20 _ (by omega) _ (!((x.f5.length:Int) == (y.f5.length:Int))) _ _ E .of S H
 refine plc E (.r 35 8 .nil) (fun a E=>pld ?_)
 exact J20 _ (by omega) _ true _ _ E .of S H
 refine plc E (.r 27 16 .nil) (fun a E=>pld ?_)
 exact J20 _ (by omega) _ true _ _ E .of S H
 refine plc E (.r 20 23 .nil) (fun a E=>pld ?_)
 exact J20 _ (by omega) _ true _ _ E .of S H
 refine plc E (.r 13 30 .nil) (fun a E=>pld ?_)
 exact J20 _ (by omega) _ true _ _ E .of S H
 refine plc E (.r 6 37 .nil) (fun a E=>pld ?_)
 exact J20 _ (by omega) _ true _ _ E .of S H
def qAS.l9:Nat→List qE→List qE→Int→Option Bool
 | 0,_,_,_=>none
 | k+1,x,y,x8=>if x8<(x.length:Int) then (if 0≤x8∧x8<(x.length:Int) then (if 0≤x8∧x8<(y.length:Int) then ((qAt.f k (nth qE.z x x8) (nth qE.z y x8)).bind fun t35=>(if t35=true then (qAS.l9 k x y (w64 (x8+1))) else (some false))) else (none)) else (none)) else (some true)
theorem qAS.l9_s k x y x8:type_of% (qAS.l9.eq_2 x y x8 k):=qAS.l9.eq_2 x y x8 k
def qAS.f(k:Nat)(x:List qE)(y:List qE):Option Bool:=if (x.length:Int)=(y.length:Int) then (qAS.l9 k x y 0) else (some false)
def qAS.Post(W F:World)(r:Bool)(v:Value)(w':World):Prop:=∃(F':World),v = .bool r∧Sm W F w' F' []
theorem qAS.calls(k:Nat)(x:List qE)(y:List qE)(A0_0:OA)(c0_0:Nat)(A1_0:OA)(c1_0:Nat)(r:Bool)(W F:World)(hown:Sub F W)(g0_0:Rd qE.k F A0_0 c0_0 x)(g1_0:Rd qE.k F A1_0 c1_0 y)(H:qAS.f k x y=some r):
    Cr 65 #[.slice A0_0 x.length c0_0,.slice A1_0 y.length c1_0] W (qAS.Post W F r):=by
 have S:=sT hown
 unfold qAS.f at H
 refine ent 27 rfl rfl rfl (fun a E=>?_)
 refine rr E fun a E=>(sq fun K2 hK2=>rr E fun a E=>(E.ikn 10 H (fun c4 E H=>?_) fun c4 E H=>?_))
 refine wp_skip (hK2 _ _ (sq fun K6 hK6=>rr E fun a E=>(wp_block ?_)))
 refine wp_loop_ghost (fun kq10 a w'=>∃(G:NV)(x8:Int),kq10≤k∧Env 27 G a∧At G [(0,.slice A0_0 x.length c0_0),(1,.slice A1_0 y.length c1_0),(5,iv x8)]∧Sm W F w' F []∧qAS.l9 kq10 x y x8=some r) k ⟨_,0,Nat.le_refl _,E,.of,S,H⟩ ?_
 rintro kq10 a u12 ⟨G,x8,hkq,E,A,S,H⟩
 obtain _ | k11:=kq10
 exact zz H
 rw [qAS.l9_s]at H
 obtain ⟨J,E⟩:=E.at A
 refine sq fun K13 hK13=>rr E fun a E=>(E.ik 14 H (fun c15 E H=>?_) fun c15 E H=>?_)
 refine wp_skip (hK13 _ _ (sq fun K16 hK16=>wp_block (sq fun K17 hK17=>?_)))
 refine drawn 10 ⟨[],[],fun q=>False⟩ mixed rfl (by kernel_rfl) (fun hst=>?_)
 replace S:=S.drew
 obtain ⟨c18,H⟩:=gd H
 have hE_:=E
 obtain ⟨ad19,rfl⟩:=g0_0.addr c18.1 c18.2
 replace E:=hE_
 obtain ⟨cs21,⟨A23,c24,rfl,g25⟩,hc22⟩:=g0_0.el qE.z x8 c18.1 c18.2
 obtain ⟨c26,H⟩:=gd H
 have hE_:=E
 obtain ⟨ad27,rfl⟩:=g1_0.addr c26.1 c26.2
 replace E:=hE_
 obtain ⟨cs29,⟨A31,c32,rfl,g33⟩,hc30⟩:=g1_0.el qE.z x8 c26.1 c26.2
 refine mny 2 hst E (.r 0 2<|.x 2 c18<|.cs 3 (S.fcs hc22)<|.r 4 2<|.x 6 c26<|.cs 7 (S.fcs hc30)<|.nil) (fun a E=>?_)
 obtain ⟨t35,h36,H⟩:=bd H
 refine on1 8 E (.cl en108 (qAt.calls k11 (nth qE.z x x8) (nth qE.z y x8) _ _ _ _ _ _ _ S.own.sub g25 g33 h36)) ?_
 rintro _ u34 a ⟨_,rfl,hC⟩ E
 refine ⟨.of hC.agr,?_⟩
 replace S:=S.lent hC
 refine mny 0 hst E (.r 9 1 .nil) (fun a E=>?_)
 refine dn ?_
 refine hK17 _ _ (E.ibn 26 H (fun c37 E H=>?_) fun c37 E H=>?_)
 refine wp_skip ?_
 refine qCL ?_
 refine hK16 _ _ (pl0 (plc E (.r 0 3 .nil) (fun a E=>pld ?_)))
 exact qCM ⟨k11,by omega,_,(w64 (x8+1)),by omega,E,.of,S,H⟩
 refine rr E fun a E=>(wp_ret (qCK (qCJ (qCJ (qCK (qCJ ?_))))))
 obtain rfl:=si H
 exact rt1 E ⟨_,rfl,_,rfl,S⟩
 refine wp_exit ?_
 refine hK6 _ _ (rr E fun a E=>(wp_ret ?_))
 obtain rfl:=si H
 exact rt1 E ⟨_,rfl,_,rfl,S⟩
 refine rr E fun a E=>(wp_ret (qCJ ?_))
 obtain rfl:=si H
 exact rt1 E ⟨_,rfl,_,rfl,S⟩
def qBH.f(k:Nat)(x:qAa)(y:qAa):Option Bool:=(qd.f k x.f0 y.f0).bind fun t8=>(if t8=true then ((qAS.f k x.f1 y.f1).bind fun t12=>(some t12)) else (some false))
def qBH.Post(W F:World)(r:Bool)(v:Value)(w':World):Prop:=∃(F':World),v = .bool r∧Sm W F w' F' []
theorem qBH.calls(k:Nat)(x:qAa)(y:qAa)(A0_4:OA)(c0_4:Nat)(A0_5:OA)(c0_5:Nat)(A0_6:OA)(c0_6:Nat)(A0_7:OA)(c0_7:Nat)(A1_4:OA)(c1_4:Nat)(A1_5:OA)(c1_5:Nat)(A1_6:OA)(c1_6:Nat)(A1_7:OA)(c1_7:Nat)(r:Bool)(W F:World)(hown:Sub F W)(g0_4:Rd qA.k F A0_4 c0_4 x.f0.f4)(g0_5:Rd qI.k F A0_5 c0_5 x.f0.f5)(g0_6:Rd qC.k F A0_6 c0_6 x.f0.f6)(g0_7:Rd qE.k F A0_7 c0_7 x.f1)(g1_4:Rd qA.k F A1_4 c1_4 y.f0.f4)(g1_5:Rd qI.k F A1_5 c1_5 y.f0.f5)(g1_6:Rd qC.k F A1_6 c1_6 y.f0.f6)(g1_7:Rd qE.k F A1_7 c1_7 y.f1)(H:qBH.f k x y=some r):
    Cr 26 #[.agg #[iv x.f0.f0,iv x.f0.f1,iv x.f0.f2,iv x.f0.f3,.slice A0_4 x.f0.f4.length c0_4,.slice A0_5 x.f0.f5.length c0_5,.slice A0_6 x.f0.f6.length c0_6,.slice A0_7 x.f1.length c0_7],.agg #[iv y.f0.f0,iv y.f0.f1,iv y.f0.f2,iv y.f0.f3,.slice A1_4 y.f0.f4.length c1_4,.slice A1_5 y.f0.f5.length c1_5,.slice A1_6 y.f0.f6.length c1_6,.slice A1_7 y.f1.length c1_7]] W (qBH.Post W F r):=by
 have S:=sT hown
 unfold qBH.f at H
 refine ent 17 rfl rfl rfl (fun a E=>?_)
 refine sq fun K1 hK1=>pl0 (plx (t:=47) E S [iv x.f0.f0,iv x.f0.f1,iv x.f0.f2,iv x.f0.f3,.slice A0_4 x.f0.f4.length c0_4,.slice A0_5 x.f0.f5.length c0_5,.slice A0_6 x.f0.f6.length c0_6,.slice A0_7 x.f1.length c0_7] fun b2 u3 hb2 S a E=>plx (t:=47) E S [iv y.f0.f0,iv y.f0.f1,iv y.f0.f2,iv y.f0.f3,.slice A1_4 y.f0.f4.length c1_4,.slice A1_5 y.f0.f5.length c1_5,.slice A1_6 y.f0.f6.length c1_6,.slice A1_7 y.f1.length c1_7] fun b4 u5 hb4 S a E=>plc E (.r 2 1 .nil) (fun a E=>pld (hK1 _ _ (sq fun K6 hK6=>pl0 ?_))))
 have hb2:=S.ba 1
 refine plc E (.r 0 1<|.bn 1 0 7 hb2<|.r 2 1<|.bn 3 0 7 hb4<|.nil) (fun a E=>?_)
 obtain ⟨t8,h9,H⟩:=bd H
 refine plq E S en14 (qd.calls k x.f0 y.f0 _ _ _ _ _ _ _ _ _ _ _ _ _ _ _ S.own.sub g0_4 g0_5 g0_6 g1_4 g1_5 g1_6 h9) fun u7 S a E=>plc E (.r 5 1 .nil) (fun a E=>E.fb 10 H (fun c10 E H=>?_) fun c10 E H=>?_)
 refine plc E (.r 6 1<|.b 7 7 (S.ba 1)<|.r 8 1<|.b 9 7 (S.ba 0)<|.nil) (fun a E=>?_)
 obtain ⟨t12,h13,H⟩:=bd H
 refine plq E S en65 (qAS.calls k x.f1 y.f1 _ _ _ _ _ _ _ S.own.sub g0_7 g1_7 h13) fun u11 S a E=>plc E (.r 11 2 .nil) (fun a E=>pld (hK6 _ _ (wp_ret ?_)))
 replace S:=S.pm [] 2
 obtain rfl:=si H
 exact rt1 E ⟨_,rfl,_,rfl,S⟩
 refine plc E (.r 6 7 .nil) (fun a E=>pld (hK6 _ _ (wp_ret ?_)))
 replace S:=S.pm [] 2
 obtain rfl:=si H
 exact rt1 E ⟨_,rfl,_,rfl,S⟩
def qAq.f(k:Nat)(x:qc)(y:qc):Option Bool:=if x.f0=y.f0 then (if x.f3=y.f3 then (if x.f4=y.f4 then (if x.f5=y.f5 then (if x.f6=y.f6 then (if x.f7=y.f7 then (if x.f8=y.f8 then (if x.f9=y.f9 then ((qv.f k x.f1 y.f1).bind fun t16=>(if t16=true then ((qBH.f k x.f2 y.f2).bind fun t20=>(some t20)) else (some false))) else (some false)) else (some false)) else (some false)) else (some false)) else (some false)) else (some false)) else (some false)) else (some false)
def qAq.Post(W F:World)(r:Bool)(v:Value)(w':World):Prop:=∃(F':World),v = .bool r∧Sm W F w' F' []
theorem qAq.calls(k:Nat)(x:qc)(y:qc)(A0_1:OA)(c0_1:Nat)(A0_6:OA)(c0_6:Nat)(A0_7:OA)(c0_7:Nat)(A0_8:OA)(c0_8:Nat)(A0_9:OA)(c0_9:Nat)(A1_1:OA)(c1_1:Nat)(A1_6:OA)(c1_6:Nat)(A1_7:OA)(c1_7:Nat)(A1_8:OA)(c1_8:Nat)(A1_9:OA)(c1_9:Nat)(r:Bool)(W F:World)(hown:Sub F W)(g0_1:Rd ki F A0_1 c0_1 x.f1)(g0_6:Rd qA.k F A0_6 c0_6 x.f2.f0.f4)(g0_7:Rd qI.k F A0_7 c0_7 x.f2.f0.f5)(g0_8:Rd qC.k F A0_8 c0_8 x.f2.f0.f6)(g0_9:Rd qE.k F A0_9 c0_9 x.f2.f1)(g1_1:Rd ki F A1_1 c1_1 y.f1)(g1_6:Rd qA.k F A1_6 c1_6 y.f2.f0.f4)(g1_7:Rd qI.k F A1_7 c1_7 y.f2.f0.f5)(g1_8:Rd qC.k F A1_8 c1_8 y.f2.f0.f6)(g1_9:Rd qE.k F A1_9 c1_9 y.f2.f1)(H:qAq.f k x y=some r):
    Cr 19 #[.agg #[iv x.f0,.slice A0_1 x.f1.length c0_1,iv x.f2.f0.f0,iv x.f2.f0.f1,iv x.f2.f0.f2,iv x.f2.f0.f3,.slice A0_6 x.f2.f0.f4.length c0_6,.slice A0_7 x.f2.f0.f5.length c0_7,.slice A0_8 x.f2.f0.f6.length c0_8,.slice A0_9 x.f2.f1.length c0_9,iv x.f3,.bool x.f4,iv x.f5,iv x.f6.f0,.string x.f6.f1,iv x.f6.f2.f0,iv x.f6.f2.f1,iv x.f6.f3,iv x.f6.f4,iv x.f6.f5,iv x.f7,iv x.f8,iv x.f9.f0,.bool x.f9.f1,iv x.f9.f2],.agg #[iv y.f0,.slice A1_1 y.f1.length c1_1,iv y.f2.f0.f0,iv y.f2.f0.f1,iv y.f2.f0.f2,iv y.f2.f0.f3,.slice A1_6 y.f2.f0.f4.length c1_6,.slice A1_7 y.f2.f0.f5.length c1_7,.slice A1_8 y.f2.f0.f6.length c1_8,.slice A1_9 y.f2.f1.length c1_9,iv y.f3,.bool y.f4,iv y.f5,iv y.f6.f0,.string y.f6.f1,iv y.f6.f2.f0,iv y.f6.f2.f1,iv y.f6.f3,iv y.f6.f4,iv y.f6.f5,iv y.f7,iv y.f8,iv y.f9.f0,.bool y.f9.f1,iv y.f9.f2]] W (qAq.Post W F r):=by
 have S:=sT hown
 unfold qAq.f at H
 refine ent 73 rfl rfl rfl (fun a E=>?_)
 refine sq fun K1 hK1=>pl0 (plx (t:=55) E S [iv x.f0,.slice A0_1 x.f1.length c0_1,iv x.f2.f0.f0,iv x.f2.f0.f1,iv x.f2.f0.f2,iv x.f2.f0.f3,.slice A0_6 x.f2.f0.f4.length c0_6,.slice A0_7 x.f2.f0.f5.length c0_7,.slice A0_8 x.f2.f0.f6.length c0_8,.slice A0_9 x.f2.f1.length c0_9,iv x.f3,.bool x.f4,iv x.f5,iv x.f6.f0,.string x.f6.f1,iv x.f6.f2.f0,iv x.f6.f2.f1,iv x.f6.f3,iv x.f6.f4,iv x.f6.f5,iv x.f7,iv x.f8,iv x.f9.f0,.bool x.f9.f1,iv x.f9.f2] fun b2 u3 hb2 S a E=>plx (t:=55) E S [iv y.f0,.slice A1_1 y.f1.length c1_1,iv y.f2.f0.f0,iv y.f2.f0.f1,iv y.f2.f0.f2,iv y.f2.f0.f3,.slice A1_6 y.f2.f0.f4.length c1_6,.slice A1_7 y.f2.f0.f5.length c1_7,.slice A1_8 y.f2.f0.f6.length c1_8,.slice A1_9 y.f2.f1.length c1_9,iv y.f3,.bool y.f4,iv y.f5,iv y.f6.f0,.string y.f6.f1,iv y.f6.f2.f0,iv y.f6.f2.f1,iv y.f6.f3,iv y.f6.f4,iv y.f6.f5,iv y.f7,iv y.f8,iv y.f9.f0,.bool y.f9.f1,iv y.f9.f2] fun b4 u5 hb4 S a E=>plc E (.r 2 1 .nil) (fun a E=>pld (hK1 _ _ (sq fun K6 hK6=>pl0 ?_))))
 have hb2:=S.ba 1
 refine plc E (.r 0 1<|.b 1 0 hb2<|.r 2 1<|.b 3 0 hb4<|.r 4 2<|.nil) (fun a E=>E.fk 10 H (fun c7 E H=>?_) fun c7 E H=>?_)
 refine plc E (.r 6 1<|.b 7 10 hb2<|.r 8 1<|.b 9 10 hb4<|.r 10 3<|.nil) (fun a E=>E.fk 17 H (fun c8 E H=>?_) fun c8 E H=>?_)
 refine plc E (.r 13 1<|.b 14 11 hb2<|.r 15 1<|.b 16 11 hb4<|.r 17 3<|.nil) (fun a E=>E.fk 24 H (fun c9 E H=>?_) fun c9 E H=>?_)
 refine plc E (.r 20 1<|.b 21 12 hb2<|.r 22 1<|.b 23 12 hb4<|.r 24 3<|.nil) (fun a E=>E.fk 31 H (fun c10 E H=>?_) fun c10 E H=>?_)
 refine plc E (.r 27 1<|.bn 28 13 7 hb2<|.r 29 1<|.bn 30 13 7 hb4<|.y 31 (y_eqs (fun w=>eqs51 x.f6 y.f6 w 9997))<|.r 32 2<|.nil) (fun a E=>E.fk 38 H (fun c11 E H=>?_) fun c11 E H=>?_)
 refine plc E (.r 34 1<|.b 35 20 hb2<|.r 36 1<|.b 37 20 hb4<|.r 38 3<|.nil) (fun a E=>E.fk 45 H (fun c12 E H=>?_) fun c12 E H=>?_)
 refine plc E (.r 41 1<|.b 42 21 hb2<|.r 43 1<|.b 44 21 hb4<|.r 45 3<|.nil) (fun a E=>E.fk 52 H (fun c13 E H=>?_) fun c13 E H=>?_)
 refine plc E (.r 48 1<|.bn 49 22 3 hb2<|.r 50 1<|.bn 51 22 3 hb4<|.y 52 (y_eqs (fun w=>eqs53 x.f9 y.f9 w 9998))<|.r 53 2<|.nil) (fun a E=>E.fk 59 H (fun c14 E H=>?_) fun c14 E H=>?_)
 refine plc E (.r 55 1<|.b 56 1 hb2<|.r 57 1<|.b 58 1 hb4<|.nil) (fun a E=>?_)
 obtain ⟨t16,h17,H⟩:=bd H
 refine plq E S en43 (qv.calls k x.f1 y.f1 _ _ _ _ _ _ _ S.own.sub g0_1 g1_1 h17) fun u15 S a E=>plc E (.r 60 2 .nil) (fun a E=>E.fb 66 H (fun c18 E H=>?_) fun c18 E H=>?_)
 refine plc E (.r 62 1<|.bn 63 2 8 (S.ba 1)<|.r 64 1<|.bn 65 2 8 (S.ba 0)<|.nil) (fun a E=>?_)
 obtain ⟨t20,h21,H⟩:=bd H
 refine plq E S en26 (qBH.calls k x.f2 y.f2 _ _ _ _ _ _ _ _ _ _ _ _ _ _ _ _ _ _ _ S.own.sub g0_6 g0_7 g0_8 g0_9 g1_6 g1_7 g1_8 g1_9 h21) fun u19 S a E=>plc E (.r 67 2 .nil) (fun a E=>pld (hK6 _ _ (wp_ret ?_)))
 replace S:=S.pm [] 2
 obtain rfl:=si H
 exact rt1 E ⟨_,rfl,_,rfl,S⟩
 refine plc E (.r 62 7 .nil) (fun a E=>pld (hK6 _ _ (wp_ret ?_)))
 replace S:=S.pm [] 2
 obtain rfl:=si H
 exact rt1 E ⟨_,rfl,_,rfl,S⟩
 refine plc E (.r 55 14 .nil) (fun a E=>pld (hK6 _ _ (wp_ret ?_)))
 replace S:=S.pm [] 2
 obtain rfl:=si H
 exact rt1 E ⟨_,rfl,_,rfl,S⟩
 refine plc E (.r 48 21 .nil) (fun a E=>pld (hK6 _ _ (wp_ret ?_)))
 replace S:=S.pm [] 2
 obtain rfl:=si H
 exact rt1 E ⟨_,rfl,_,rfl,S⟩
 refine plc E (.r 41 28 .nil) (fun a E=>pld (hK6 _ _ (wp_ret ?_)))
 replace S:=S.pm [] 2
 obtain rfl:=si H
 exact rt1 E ⟨_,rfl,_,rfl,S⟩
 refine plc E (.r 34 35 .nil) (fun a E=>pld (hK6 _ _ (wp_ret ?_)))
 replace S:=S.pm [] 2
 obtain rfl:=si H
 exact rt1 E ⟨_,rfl,_,rfl,S⟩
 refine plc E (.r 27 42 .nil) (fun a E=>pld (hK6 _ _ (wp_ret ?_)))
 replace S:=S.pm [] 2
 obtain rfl:=si H
 exact rt1 E ⟨_,rfl,_,rfl,S⟩
 refine plc E (.r 20 49 .nil) (fun a E=>pld (hK6 _ _ (wp_ret ?_)))
 replace S:=S.pm [] 2
 obtain rfl:=si H
 exact rt1 E ⟨_,rfl,_,rfl,S⟩
 refine plc E (.r 13 56 .nil) (fun a E=>pld (hK6 _ _ (wp_ret ?_)))
 replace S:=S.pm [] 2
 obtain rfl:=si H
 exact rt1 E ⟨_,rfl,_,rfl,S⟩
 refine plc E (.r 6 63 .nil) (fun a E=>pld (hK6 _ _ (wp_ret ?_)))
 replace S:=S.pm [] 2
 obtain rfl:=si H
 exact rt1 E ⟨_,rfl,_,rfl,S⟩
def qAT.l7:Nat→qF→Int→Int→Option (List Int)
 | 0,_,_,_=>none
 | k+1,x,y,x6=>if x6<(x.f5.length:Int) then (if 0≤x6∧x6<(x.f5.length:Int) then (if (nth qI.z x.f5 x6).f0=y then (some ((nth qI.z x.f5 x6).f1)) else (qAT.l7 k x y (w64 (x6+1)))) else (none)) else (some [])
theorem qAT.l7_s k x y x6:type_of% (qAT.l7.eq_2 x y x6 k):=qAT.l7.eq_2 x y x6 k
def qAT.f(k:Nat)(x:qF)(y:Int):Option (List Int):=qAT.l7 k x y 0
def qAT.Post(W F:World)(r:List Int)(v:Value)(w':World):Prop:=∃(F':World)(RA0_0:OA)(rc0_0:Nat),v = .slice RA0_0 r.length rc0_0∧Sm W F w' F' []∧Rd ki F' RA0_0 rc0_0 r
theorem qAT.calls(k:Nat)(x:qF)(y:Int)(A0_4:OA)(c0_4:Nat)(A0_5:OA)(c0_5:Nat)(A0_6:OA)(c0_6:Nat)(r:List Int)(W F:World)(hown:Sub F W)(g0_4:Rd qA.k F A0_4 c0_4 x.f4)(g0_5:Rd qI.k F A0_5 c0_5 x.f5)(g0_6:Rd qC.k F A0_6 c0_6 x.f6)(H:qAT.f k x y=some r):
    Cr 163 #[.agg #[iv x.f0,iv x.f1,iv x.f2,iv x.f3,.slice A0_4 x.f4.length c0_4,.slice A0_5 x.f5.length c0_5,.slice A0_6 x.f6.length c0_6],iv y] W (qAT.Post W F r):=by
 have S:=sT hown
 unfold qAT.f at H
 refine ent 27 rfl rfl rfl (fun a E=>?_)
 refine sq fun K1 hK1=>pl0 (plx (t:=27) E S [iv x.f0,iv x.f1,iv x.f2,iv x.f3,.slice A0_4 x.f4.length c0_4,.slice A0_5 x.f5.length c0_5,.slice A0_6 x.f6.length c0_6] fun b2 u3 hb2 S a E=>plc E (.r 1 1 .nil) (fun a E=>pld (hK1 _ _ (sq fun K4 hK4=>rr E fun a E=>(wp_block ?_)))))
 refine wp_loop_ghost (fun kq8 a w'=>∃(G:NV)(x6:Int),kq8≤k∧Env 27 G a∧At G [(1,iv y),(2,.pointer (pb b2)),(5,iv x6)]∧Sm W F w' F [box b2 #[iv x.f0,iv x.f1,iv x.f2,iv x.f3,.slice A0_4 x.f4.length c0_4,.slice A0_5 x.f5.length c0_5,.slice A0_6 x.f6.length c0_6] 27]∧qAT.l7 kq8 x y x6=some r) k ⟨_,0,Nat.le_refl _,E,.of,S,H⟩ ?_
 rintro kq8 a u10 ⟨G,x6,hkq,E,A,S,H⟩
 obtain _ | k9:=kq8
 exact zz H
 rw [qAT.l7_s]at H
 obtain ⟨J,E⟩:=E.at A
 refine sq fun K11 hK11=>sq fun K12 hK12=>pl0 ?_
 have hb2:=S.ba 0
 refine plc E (.r 0 2<|.b 2 5 hb2<|.r 3 2<|.nil) (fun a E=>pld (hK12 _ _ (E.ik 10 H (fun c13 E H=>?_) fun c13 E H=>?_)))
 refine wp_skip (hK11 _ _ (sq fun K14 hK14=>wp_block (sq fun K15 hK15=>pl0 ?_)))
 obtain ⟨c16,H⟩:=gd H
 have hE_:=E
 obtain ⟨ad17,rfl⟩:=g0_5.addr c16.1 c16.2
 replace E:=hE_
 obtain ⟨cs19,⟨A21,c22,rfl,g23⟩,hc20⟩:=g0_5.el qI.z x6 c16.1 c16.2
 refine plc E (.r 0 1<|.b 1 5 hb2<|.r 2 1<|.x 3 c16<|.r 4 1<|.c 5 (S.fc hc20 0)<|.r 6 2<|.nil) (fun a E=>pld (hK15 _ _ (E.ik 20 H (fun c24 E H=>?_) fun c24 E H=>?_)))
 refine rg E (.r 0 1<|.b 1 5 hb2<|.r 2 1<|.x 3 c16<|.r 4 1<|.c 5 (S.fc hc20 1)<|.r 6 1<|.nil) fun a E=>(wp_ret (qCK (qCJ (qCJ (qCK (qCJ ?_))))))
 replace S:=S.tail
 obtain rfl:=si H
 exact rt1 E ⟨_,rfl,_,_,_,rfl,S,g23⟩
 refine wp_skip ?_
 refine qCL ?_
 refine hK14 _ _ (pl0 (plc E (.r 0 3 .nil) (fun a E=>pld ?_)))
 exact qCM ⟨k9,by omega,_,(w64 (x6+1)),by omega,E,.of,S,H⟩
 refine wp_exit ?_
 refine hK4 _ _ (rr E fun a E=>(wp_ret ?_))
 replace S:=S.tail
 obtain rfl:=si H
 exact rt1 E ⟨_,rfl,_,_,_,rfl,S,(Rd.nil _ _)⟩
def qAw.f(x:Int):Option (List qK):=some [(⟨1,0,0⟩:qK),(⟨2,1,x⟩:qK),(⟨2,2,1⟩:qK),(⟨2,3,1⟩:qK),(⟨3,0,0⟩:qK)]
def qAw.Post(W F:World)(r:List qK)(v:Value)(w':World):Prop:=∃(F':World)(RA0_0:OA)(rc0_0:Nat),v = .slice RA0_0 r.length rc0_0∧Sm W F w' F' [row qK.k 279 (.slice RA0_0 r.length rc0_0) r]
theorem qAw.calls(x:Int)(r:List qK)(W F:World)(hown:Sub F W)(H:qAw.f x=some r):
    Cr 201 #[iv x] W (qAw.Post W F r):=by
 have S:=sT hown
 unfold qAw.f at H
 refine ent 10 rfl rfl rfl (fun a E=>?_)
 refine rr E fun a E=>(sq fun K2 hK2=>pl0 (plc E (.r 0 6 .nil) (fun a E=>ple E (.lit (d:=qK.k) (e:=279) S [(⟨1,0,0⟩:qK),(⟨2,1,x⟩:qK),(⟨2,2,1⟩:qK),(⟨2,3,1⟩:qK),(⟨3,0,0⟩:qK)] (.cons rfl<|.cons rfl<|.cons rfl<|.cons rfl<|.cons rfl .nil)) ?_)))
 rintro _ u3 a ⟨A4,c5,rfl,S,hg⟩ E
 refine plc E (.r 7 1 .nil) (fun a E=>pld (hK2 _ _ (wp_ret ?_)))
 obtain rfl:=si H
 exact rt1 E ⟨_,rfl,_,_,_,rfl,S⟩
def qAp.f(x:qA):Option Int:=if x.f5=true then (some x.f3) else (some 0)
def qAp.Post(W F:World)(r:Int)(v:Value)(w':World):Prop:=∃(F':World),v=iv r∧Sm W F w' F' []
theorem qAp.calls(x:qA)(r:Int)(W F:World)(hown:Sub F W)(H:qAp.f x=some r):
    Cr 264 #[.agg #[iv x.f0,iv x.f1,iv x.f2,iv x.f3,.bool x.f4,.bool x.f5]] W (qAp.Post W F r):=by
 have S:=sT hown
 unfold qAp.f at H
 refine ent 7 rfl rfl rfl (fun a E=>?_)
 refine sq fun K1 hK1=>pl0 (plx (t:=153) E S [iv x.f0,iv x.f1,iv x.f2,iv x.f3,.bool x.f4,.bool x.f5] fun b2 u3 hb2 S a E=>plc E (.r 1 1 .nil) (fun a E=>pld (hK1 _ _ (sq fun K4 hK4=>rg E (.r 0 1<|.b 1 5 hb2<|.nil) fun a E=>(E.ib 4 H (fun c6 E H=>?_) fun c6 E H=>?_)))))
 refine rg E (.r 0 1<|.b 1 3 hb2<|.r 2 1<|.nil) fun a E=>(wp_ret (qCJ ?_))
 replace S:=S.tail
 obtain rfl:=si H
 exact rt1 E ⟨_,rfl,_,rfl,S⟩
 refine wp_skip (hK4 _ _ (rr E fun a E=>(wp_ret ?_)))
 replace S:=S.tail
 obtain rfl:=si H
 exact rt1 E ⟨_,rfl,_,rfl,S⟩
end Go.Proofs.YtpabbpebefdafaaGreat.CN
