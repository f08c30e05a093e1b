import Derived.Test.YtpabbpebefdafaaGreatCN3
namespace Go.Proofs.YtpabbpebefdafaaGreat.CN
open Go Go.RowKit Go.Proofs.YtpabbpebefdafaaGreat.Sl
set_option linter.unusedVariables false
set_option linter.unusedSimpArgs false
set_option maxHeartbeats 4000000
set_option maxRecDepth 100000
mutual
def qu.j16:Nat→List qA→List qK→Int→Int→Bool→Option ((List Int) × Int)
 | 0,_,_,_,_,_=>none
 | k+1,x,y,z,p,y15=>if y15=true then (some ([],1)) else (qu.l38 k x y z p [] [] 0)
def qu.l38:Nat→List qA→List qK→Int→Int→List qX→List Int→Int→Option ((List Int) × Int)
 | 0,_,_,_,_,_,_,_=>none
 | k+1,x,y,z,p,l32,l35,x36=>if x36<(y.length:Int) then (if 0≤x36∧x36<(y.length:Int) then (if (nth qK.z y x36).f0=1 then (qu.l38 k x y z p [(⟨0,0,0⟩:qX)] l35 (w64 (x36+1))) else (if (nth qK.z y x36).f0=2 then (qu.l73 k x y z p l32 l35 x36 [] 0) else (qu.l111 k x y z p l32 x36 l35 0))) else (none)) else (some (l35,0))
def qu.l73:Nat→List qA→List qK→Int→Int→List qX→List Int→Int→List qX→Int→Option ((List Int) × Int)
 | 0,_,_,_,_,_,_,_,_,_=>none
 | k+1,x,y,z,p,l32,l35,x36,l70,x71=>if x71<(l32.length:Int) then (if 0≤x71∧x71<(l32.length:Int) then ((qy.f k x (nth qX.z l32 x71) (nth qK.z y x36) z).bind fun t92=>(if ((l70.length:Int)+(t92.length:Int)) * 24≤140737488355328 then (qu.l73 k x y z p l32 l35 x36 (l70++t92) (w64 (x71+1))) else (none))) else (none)) else (qu.l38 k x y z p l70 l35 (w64 (x36+1)))
def qu.l111:Nat→List qA→List qK→Int→Int→List qX→Int→List Int→Int→Option ((List Int) × Int)
 | 0,_,_,_,_,_,_,_,_=>none
 | k+1,x,y,z,p,l32,x36,l109,x110=>if x110<(l32.length:Int) then (if 0≤x110∧x110<(l32.length:Int) then (if (l109.length:Int)<p then ((qAU.f k l109 ((nth qX.z l32 x110).f2)).bind fun t132=>(qu.j135 k x y z p l32 x36 l109 x110 (!t132))) else (qu.j135 k x y z p l32 x36 l109 x110 false)) else (none)) else (qu.l38 k x y z p [] l109 (w64 (x36+1)))
def qu.j135:Nat→List qA→List qK→Int→Int→List qX→Int→List Int→Int→Bool→Option ((List Int) × Int)
 | 0,_,_,_,_,_,_,_,_,_=>none
 | k+1,x,y,z,p,l32,x36,l109,x110,y134=>if y134=true then (if ((l109.length:Int)+((1:Nat):Int)) * 8≤140737488355328 then (qu.l111 k x y z p l32 x36 (l109++[(nth qX.z l32 x110).f2]) (w64 (x110+1))) else (none)) else (qu.l111 k x y z p l32 x36 l109 (w64 (x110+1)))
end
theorem qu.j16_s k x y z p y15:type_of% (qu.j16.eq_2 x y z p y15 k):=qu.j16.eq_2 x y z p y15 k
theorem qu.l38_s k x y z p l32 l35 x36:type_of% (qu.l38.eq_2 x y z p l32 l35 x36 k):=qu.l38.eq_2 x y z p l32 l35 x36 k
theorem qu.l73_s k x y z p l32 l35 x36 l70 x71:type_of% (qu.l73.eq_2 x y z p l32 l35 x36 l70 x71 k):=qu.l73.eq_2 x y z p l32 l35 x36 l70 x71 k
theorem qu.l111_s k x y z p l32 x36 l109 x110:type_of% (qu.l111.eq_2 x y z p l32 x36 l109 x110 k):=qu.l111.eq_2 x y z p l32 x36 l109 x110 k
theorem qu.j135_s k x y z p l32 x36 l109 x110 y134:type_of% (qu.j135.eq_2 x y z p l32 x36 l109 x110 y134 k):=qu.j135.eq_2 x y z p l32 x36 l109 x110 y134 k
def qu.f(k:Nat)(x:List qA)(y:List qK)(z:Int)(p:Int):Option ((List Int) × Int):=(qAI.f k x).bind fun t5=>(if t5=0 then ((qAb.f k y).bind fun t9=>(if t9=0 then (if z<0 then (qu.j16 k x y z p true) else (if z≥8 then (qu.j16 k x y z p true) else (if p<1 then (qu.j16 k x y z p true) else (qu.j16 k x y z p (decide (p>3)))))) else (qu.j16 k x y z p true))) else (qu.j16 k x y z p true))
def qu.Post(W F:World)(r:(List Int) × Int)(v:Value)(w':World):Prop:=∃(F':World)(RA0_0:OA)(rc0_0:Nat),v = .tuple #[.slice RA0_0 r.1.length rc0_0,iv r.2]∧Sm W F w' F' [row ki 3 (.slice RA0_0 r.1.length rc0_0) r.1]
theorem qu.calls(k:Nat)(x:List qA)(y:List qK)(z:Int)(p:Int)(A0_0:OA)(c0_0:Nat)(A1_0:OA)(c1_0:Nat)(r:(List Int) × Int)(W F:World)(hown:Sub F W)(g0_0:Rd qA.k F A0_0 c0_0 x)(g1_0:Rd qK.k F A1_0 c1_0 y)(H:qu.f k x y z p=some r):
    Cr 236 #[.slice A0_0 x.length c0_0,.slice A1_0 y.length c1_0,iv z,iv p] W (qu.Post W F r):=by
 have S:=sT hown
 unfold qu.f at H
 refine ent 97 rfl rfl rfl (fun a E=>?_)
 refine rr E fun a E=>(sq fun K2 hK2=>sq fun K3 hK3=>?_)
 have J19:∀ kq17,kq17≤k→∀(G:NV)(y15:Bool)(a:Act)(w':World),Env 97 G a→At G [(0,.slice A0_0 x.length c0_0),(1,.slice A1_0 y.length c1_0),(2,iv z),(3,iv p),(42,.bool y15)]→Sm W F w' F []→qu.j16 kq17 x y z p y15=some r→K3 a w':=by
  intro kq17 hkq G y15 a u20 E A S H
  obtain _ | k18:=kq17
  exact zz H
  rw [qu.j16_s]at H
  obtain ⟨J,E⟩:=E.at A
  refine hK3 _ _ (E.ib 42 H (fun c21 E H=>?_) fun c21 E H=>?_)
  refine rr E fun a E=>(wp_ret (qCJ ?_))
  replace S:=S.nilrow ki 3
  obtain rfl:=si H
  exact rtN E ⟨_,rfl,_,_,_,rfl,S⟩
  refine wp_skip (hK2 _ _ (rr E fun a E=>(rr E fun a E=>(sq fun K26 hK26=>rr E fun a E=>(wp_block ?_)))))
  replace S:=S.nilrow qX.k 302
  replace S:=S.nilrow ki 3
  replace S:=S.front 1 rfl
  refine wp_loop_ghost (fun kq39 a w'=>∃(G:NV)(A30:OA)(c31:Nat)(l32:List qX)(A33:OA)(c34:Nat)(l35:List Int)(x36:Int)(F37:World),kq39≤k18∧Env 97 G a∧At G [(0,.slice A0_0 x.length c0_0),(2,iv z),(3,iv p),(10,.slice A30 l32.length c31),(11,.slice A33 l35.length c34),(43,.slice A1_0 y.length c1_0),(44,iv (y.length:Int)),(45,iv x36)]∧Sm W F w' F37 [row qX.k 302 (.slice A30 l32.length c31) l32,row ki 3 (.slice A33 l35.length c34) l35]∧Rd qA.k F37 A0_0 c0_0 x∧Rd qK.k F37 A1_0 c1_0 y∧qu.l38 kq39 x y z p l32 l35 x36=some r) k18 ⟨_,none,0,[],none,0,[],0,F,Nat.le_refl _,E,.of,S,g0_0,g1_0,H⟩ ?_
  rintro kq39 a u41 ⟨G,A30,c31,l32,A33,c34,l35,x36,F37,hkq,E,A,S,g0_0,g1_0,H⟩
  obtain _ | k40:=kq39
  exact zz H
  rw [qu.l38_s]at H
  obtain ⟨J,E⟩:=E.at A
  refine rr E fun a E=>(sq fun K43 hK43=>E.ik 46 H (fun c44 E H=>?_) fun c44 E H=>?_)
  refine wp_skip (hK43 _ _ (sq fun K45 hK45=>wp_block (sq fun K46 hK46=>pl0 ?_)))
  obtain ⟨c47,H⟩:=gd H
  have hE_:=E
  obtain ⟨ad48,rfl⟩:=g1_0.addr c47.1 c47.2
  replace E:=hE_
  obtain ⟨cs50,rfl,hc51⟩:=g1_0.el qK.z x36 c47.1 c47.2
  refine plc E (.x 0 c47<|.cs 1 (S.fcs hc51)<|.nil) (fun a E=>pla (t:=279) E S [iv 0,iv 0,iv 0] fun b52 u53 hb52 S a E=>pls E S [iv ((nth qK.z y x36).f0),iv ((nth qK.z y x36).f1),iv ((nth qK.z y x36).f2)] fun u54 hb52 S a E=>pld (hK46 _ _ (rg E (.r 0 1<|.b 1 0 hb52<|.nil) fun a E=>(wp_block (rr E fun a E=>(E.ik 74 H (fun c57 E H=>?_) fun c57 E H=>?_))))))
  refine pl0 (plc E (.r 0 1 .nil) (fun a E=>ple E (.lit (d:=qX.k) (e:=302) S [(⟨0,0,0⟩:qX)] (.cons rfl .nil)) ?_))
  rintro _ u58 a ⟨A59,c60,rfl,S,hg⟩ E
  refine plc E (.r 2 1 .nil) (fun a E=>pld ?_)
  refine qCL ?_
  refine qCL ?_
  refine hK45 _ _ (pl0 (plc E (.r 0 2 .nil) (fun a E=>pld ?_)))
  replace S:=S.pm [0] 3
  exact qCM ⟨k40,by omega,_,A59,c60,[(⟨0,0,0⟩:qX)],A33,c34,l35,(w64 (x36+1)),F37,by omega,E,.of,S,g0_0,g1_0,H⟩
  refine rr E fun a E=>(E.ik 78 H (fun c63 E H=>?_) fun c63 E H=>?_)
  refine rr E fun a E=>(sq fun K65 hK65=>rr E fun a E=>(wp_block ?_))
  replace S:=S.nilrow qX.k 302
  replace S:=S.pm [1,2,3,0] 4
  refine wp_loop_ghost (fun kq74 a w'=>∃(G:NV)(A68:OA)(c69:Nat)(l70:List qX)(x71:Int)(F72:World),kq74≤k40∧Env 97 G a∧At G [(0,.slice A0_0 x.length c0_0),(2,iv z),(3,iv p),(11,.slice A33 l35.length c34),(13,.pointer (pb b52)),(14,.slice A68 l70.length c69),(43,.slice (some ad48) y.length c1_0),(44,iv (y.length:Int)),(45,iv x36),(80,.slice A30 l32.length c31),(81,iv (l32.length:Int)),(82,iv x71)]∧Sm W F w' F72 [box b52 #[iv ((nth qK.z y x36).f0),iv ((nth qK.z y x36).f1),iv ((nth qK.z y x36).f2)] 279,row qX.k 302 (.slice A30 l32.length c31) l32,row ki 3 (.slice A33 l35.length c34) l35,row qX.k 302 (.slice A68 l70.length c69) l70]∧Rd qA.k F72 A0_0 c0_0 x∧Rd qK.k F72 (some ad48) c1_0 y∧qu.l73 kq74 x y z p l32 l35 x36 l70 x71=some r) k40 ⟨_,none,0,[],0,F37,Nat.le_refl _,E,.of,S,g0_0,g1_0,H⟩ ?_
  rintro kq74 a u76 ⟨G,A68,c69,l70,x71,F72,hkq,E,A,S,g0_0,g1_0,H⟩
  obtain _ | k75:=kq74
  exact zz H
  rw [qu.l73_s]at H
  obtain ⟨J,E⟩:=E.at A
  refine rr E fun a E=>(sq fun K78 hK78=>E.ik 83 H (fun c79 E H=>?_) fun c79 E H=>?_)
  refine wp_skip (hK78 _ _ (sq fun K80 hK80=>wp_block (sq fun K81 hK81=>pl0 ?_)))
  obtain ⟨c82,H⟩:=gd H
  have hr83:=S.ra 1
  have hE_:=E
  obtain ⟨b84,rfl⟩:=qCP hr83 c82.1 c82.2
  replace E:=hE_
  have hr_:=S.ra 1
  obtain ⟨cs86,rfl,hc87⟩:=qCO hr_ qX.z x71 c82.1 c82.2
  refine plc E (.x 0 c82<|.cs 1 hc87<|.nil) (fun a E=>pla (t:=302) E S [iv 0,iv 0,iv 0] fun b88 u89 hb88 S a E=>pls E S [iv ((nth qX.z l32 x71).f0),iv ((nth qX.z l32 x71).f1),iv ((nth qX.z l32 x71).f2)] fun u90 hb88 S a E=>pld (hK81 _ _ (pl0 (plc E (.r 0 2<|.bn 2 0 3 hb88<|.bn 3 0 3 (S.ba 1)<|.r 4 1<|.nil) (fun a E=>?_)))))
  obtain ⟨t92,h93,H⟩:=bd H
  refine ple E (.cl en263 (qy.calls k75 x (nth qX.z l32 x71) (nth qK.z y x36) z _ _ _ _ _ S.own.sub g0_0 h93)) ?_
  rintro _ u91 a ⟨F94,A95,c96,rfl,hC⟩ E
  have hs:=hC.sub
  replace S:=S.called (X:=[]) hC
  replace g0_0:=g0_0.mono hs
  replace g1_0:=g1_0.mono hs
  obtain ⟨c99,H⟩:=gd H
  replace S:=S.front 5 rfl
  refine ple E (.ap (d:=qX.k) 24 S (qCX (S.row_at (i:=1) rfl)) c99 c96) ?_
  rintro _ u102 a ⟨A100,c101,rfl,S,hz⟩ E
  refine plc E (.r 7 1 .nil) (fun a E=>pld ?_)
  refine qCL ?_
  refine hK80 _ _ (pl0 (plc E (.r 0 2 .nil) (fun a E=>pld ?_)))
  replace S:=S.pm [3,4,5,0] 6
  exact qCM ⟨k75,by omega,_,A100,c101,(l70++t92),(w64 (x71+1)),F94,by omega,E,.of,S,g0_0,g1_0,H⟩
  refine wp_exit ?_
  refine hK65 _ _ (pl0 (plc E (.r 0 2 .nil) (fun a E=>pld ?_)))
  refine qCL ?_
  refine qCL ?_
  refine hK45 _ _ (pl0 (plc E (.r 0 2 .nil) (fun a E=>pld ?_)))
  replace S:=S.pm [3,2] 4
  exact qCM ⟨k75,by omega,_,A68,c69,l70,A33,c34,l35,(w64 (x36+1)),F72,by omega,E,.of,S,g0_0,g1_0,H⟩
  refine sq fun K104 hK104=>rr E fun a E=>(wp_block ?_)
  refine wp_loop_ghost (fun kq112 a w'=>∃(G:NV)(A107:OA)(c108:Nat)(l109:List Int)(x110:Int),kq112≤k40∧Env 97 G a∧At G [(0,.slice A0_0 x.length c0_0),(2,iv z),(3,iv p),(11,.slice A107 l109.length c108),(43,.slice (some ad48) y.length c1_0),(44,iv (y.length:Int)),(45,iv x36),(51,.slice A30 l32.length c31),(52,iv (l32.length:Int)),(53,iv x110)]∧Sm W F w' F37 [box b52 #[iv ((nth qK.z y x36).f0),iv ((nth qK.z y x36).f1),iv ((nth qK.z y x36).f2)] 279,row qX.k 302 (.slice A30 l32.length c31) l32,row ki 3 (.slice A107 l109.length c108) l109]∧qu.l111 kq112 x y z p l32 x36 l109 x110=some r) k40 ⟨_,A33,c34,l35,0,Nat.le_refl _,E,.of,S,H⟩ ?_
  rintro kq112 a u114 ⟨G,A107,c108,l109,x110,hkq,E,A,S,H⟩
  obtain _ | k113:=kq112
  exact zz H
  rw [qu.l111_s]at H
  obtain ⟨J,E⟩:=E.at A
  refine rr E fun a E=>(sq fun K116 hK116=>E.ik 54 H (fun c117 E H=>?_) fun c117 E H=>?_)
  refine wp_skip (hK116 _ _ (sq fun K118 hK118=>wp_block (sq fun K119 hK119=>pl0 ?_)))
  obtain ⟨c120,H⟩:=gd H
  have hr121:=S.ra 1
  have hE_:=E
  obtain ⟨b122,rfl⟩:=qCP hr121 c120.1 c120.2
  replace E:=hE_
  have hr_:=S.ra 1
  obtain ⟨cs124,rfl,hc125⟩:=qCO hr_ qX.z x110 c120.1 c120.2
  refine plc E (.x 0 c120<|.cs 1 hc125<|.nil) (fun a E=>pla (t:=302) E S [iv 0,iv 0,iv 0] fun b126 u127 hb126 S a E=>pls E S [iv ((nth qX.z l32 x110).f0),iv ((nth qX.z l32 x110).f1),iv ((nth qX.z l32 x110).f2)] fun u128 hb126 S a E=>pld (hK119 _ _ (sq fun K129 hK129=>?_)))
  have J138:∀ kq136,kq136≤k113→∀(G:NV)(y134:Bool)(a:Act)(w':World),Env 97 G a→At G [(0,.slice A0_0 x.length c0_0),(2,iv z),(3,iv p),(11,.slice A107 l109.length c108),(18,.pointer (pb b126)),(43,.slice (some ad48) y.length c1_0),(44,iv (y.length:Int)),(45,iv x36),(51,.slice (pb b122) l32.length c31),(52,iv (l32.length:Int)),(53,iv x110),(67,.bool y134)]→Sm W F w' F37 [box b126 #[iv ((nth qX.z l32 x110).f0),iv ((nth qX.z l32 x110).f1),iv ((nth qX.z l32 x110).f2)] 302,box b52 #[iv ((nth qK.z y x36).f0),iv ((nth qK.z y x36).f1),iv ((nth qK.z y x36).f2)] 279,row qX.k 302 (.slice (pb b122) l32.length c31) l32,row ki 3 (.slice A107 l109.length c108) l109]→qu.j135 kq136 x y z p l32 x36 l109 x110 y134=some r→K129 a w':=by
   intro kq136 hkq G y134 a u139 E A S H
   obtain _ | k137:=kq136
   exact zz H
   rw [qu.j135_s]at H
   obtain ⟨J,E⟩:=E.at A
   refine hK129 _ _ (E.ib 67 H (fun c140 E H=>?_) fun c140 E H=>?_)
   refine pl0 (plc E (.r 0 2<|.b 2 2 (S.ba 0)<|.nil) (fun a E=>ple E (.lit (d:=ki) (e:=3) S [(nth qX.z l32 x110).f2] (.cons rfl .nil)) ?_))
   rintro _ u141 a ⟨A142,c143,rfl,S,hg⟩ E
   obtain ⟨c145,H⟩:=gd H
   replace S:=S.front 4 rfl
   refine ple E (.ap (d:=ki) 8 S (qCX (S.row_at (i:=1) rfl)) c145 c143) ?_
   rintro _ u148 a ⟨A146,c147,rfl,S,hz⟩ E
   refine plc E (.r 5 1 .nil) (fun a E=>pld ?_)
   refine qCL ?_
   refine hK118 _ _ (pl0 (plc E (.r 0 2 .nil) (fun a E=>pld ?_)))
   replace S:=S.pm [3,4,0] 5
   exact qCM ⟨k137,by omega,_,A146,c147,(l109++[(nth qX.z l32 x110).f2]),(w64 (x110+1)),by omega,E,.of,S,H⟩
   refine wp_skip ?_
   refine qCL ?_
   refine hK118 _ _ (pl0 (plc E (.r 0 2 .nil) (fun a E=>pld ?_)))
   replace S:=S.tail
   exact qCM ⟨k137,by omega,_,A107,c108,l109,(w64 (x110+1)),by omega,E,.of,S,H⟩
  refine pl0 (plc E (.r 0 5 .nil) (fun a E=>E.fk 61 H (fun c130 E H=>?_) fun c130 E H=>?_))
  refine plc E (.r 5 2<|.b 7 2 hb126<|.nil) (fun a E=>?_)
  obtain ⟨t132,h133,H⟩:=bd H
  refine plq E S en36 (qAU.calls k113 l109 ((nth qX.z l32 x110).f2) _ _ _ _ _ (Sub.refl _) (S.rd_at (i:=3) rfl) h133) fun u131 S a E=>plc E (.r 9 2 .nil) (fun a E=>pld ?_)
  exact J138 _ (by omega) _ (!t132) _ _ E .of S H
  refine plc E (.r 5 6 .nil) (fun a E=>pld ?_)
  exact J138 _ (by omega) _ false _ _ E .of S H
  refine wp_exit ?_
  refine hK104 _ _ (pl0 (plc E (.r 0 1 .nil) (fun a E=>pld ?_)))
  refine qCL ?_
  refine qCL ?_
  refine hK45 _ _ (pl0 (plc E (.r 0 2 .nil) (fun a E=>pld ?_)))
  replace S:=S.nilrow qX.k 302
  replace S:=S.pm [0] 3
  exact qCM ⟨k113,by omega,_,none,0,[],A107,c108,l109,(w64 (x36+1)),F37,by omega,E,.of,S,g0_0,g1_0,H⟩
  refine wp_exit ?_
  refine hK26 _ _ (rr E fun a E=>(wp_ret ?_))
  replace S:=S.tail
  obtain rfl:=si H
  exact rtN E ⟨_,rfl,_,_,_,rfl,S⟩
 refine pl0 (plc E (.r 0 1 .nil) (fun a E=>?_))
 obtain ⟨t5,h6,H⟩:=bd H
 refine plq E S en95 (qAI.calls k x _ _ _ _ _ S.own.sub g0_0 h6) fun u4 S a E=>plc E (.r 2 2 .nil) (fun a E=>E.fkn 22 H (fun c7 E H=>?_) fun c7 E H=>?_)
 refine plc E (.r 4 1 .nil) (fun a E=>?_)
 obtain ⟨t9,h10,H⟩:=bd H
 refine plq E S en262 (qAb.calls k y _ _ _ _ _ S.own.sub g1_0 h10) fun u8 S a E=>plc E (.r 6 3 .nil) (fun a E=>E.fkn 27 H (fun c11 E H=>?_) fun c11 E H=>?_)
 refine plc E (.r 9 4 .nil) (fun a E=>E.fk 31 H (fun c12 E H=>?_) fun c12 E H=>?_)
 refine plc E (.r 13 11 .nil) (fun a E=>pld ?_)
 exact J19 _ (by omega) _ true _ _ E .of S H
 refine plc E (.r 13 4 .nil) (fun a E=>E.fk 35 H (fun c13 E H=>?_) fun c13 E H=>?_)
 refine plc E (.r 17 7 .nil) (fun a E=>pld ?_)
 exact J19 _ (by omega) _ true _ _ E .of S H
 refine plc E (.r 17 4 .nil) (fun a E=>E.fk 39 H (fun c14 E H=>?_) fun c14 E H=>?_)
 refine plc E (.r 21 3 .nil) (fun a E=>pld ?_)
 exact J19 _ (by omega) _ true _ _ E .of S H
 refine plc E (.r 21 3 .nil) (fun a E=>pld ?_)
 exact J19 _ (by omega) _ (decide (p>3)) _ _ E .of S H
 refine plc E (.r 9 15 .nil) (fun a E=>pld ?_)
 exact J19 _ (by omega) _ true _ _ E .of S H
 refine plc E (.r 4 20 .nil) (fun a E=>pld ?_)
 exact J19 _ (by omega) _ true _ _ E .of S H
def qCA.f(k:Nat)(x:List qA)(y:Int)(z:Int):Option (List Int):=(qAr.f k z).bind fun t4=>((qu.f k x t4 y z).bind fun t14=>(some t14.1))
def qCA.Post(W F:World)(r:List Int)(v:Value)(w':World):Prop:=∃(F':World)(RA0_0:OA)(rc0_0:Nat),v = .slice RA0_0 r.length rc0_0∧Sm W F w' F' [row ki 3 (.slice RA0_0 r.length rc0_0) r]
theorem qCA.calls(k:Nat)(x:List qA)(y:Int)(z:Int)(A0_0:OA)(c0_0:Nat)(r:List Int)(W F:World)(hown:Sub F W)(g0_0:Rd qA.k F A0_0 c0_0 x)(H:qCA.f k x y z=some r):
    Cr 199 #[.slice A0_0 x.length c0_0,iv y,iv z] W (qCA.Post W F r):=by
 have S:=sT hown
 unfold qCA.f at H
 refine ent 19 rfl rfl rfl (fun a E=>?_)
 refine rr E fun a E=>(sq fun K2 hK2=>pl0 (plc E (.r 0 2 .nil) (fun a E=>?_)))
 obtain ⟨t4,h5,H⟩:=bd H
 refine ple E (.cl en237 (qAr.calls k z _ _ _ S.own.sub h5)) ?_
 rintro _ u3 a ⟨F6,A7,c8,rfl,hC⟩ E
 have hs:=hC.sub
 replace S:=S.called (X:=[]) hC
 replace g0_0:=g0_0.mono hs
 refine plc E (.r 3 2 .nil) (fun a E=>?_)
 obtain ⟨F11,hs,g12,S⟩:=S.give
 replace g0_0:=g0_0.mono hs
 obtain ⟨t14,h15,H⟩:=bd H
 refine ple E (.cl en236 (qu.calls k x t4 y z _ _ _ _ _ _ _ S.own.sub g0_0 g12 h15)) ?_
 rintro _ u13 a ⟨F16,A17,c18,rfl,hC⟩ E
 have hs:=hC.sub
 replace S:=S.called (X:=[]) hC
 replace g0_0:=g0_0.mono hs
 replace g12:=g12.mono hs
 refine plc E (.r 6 5 .nil) (fun a E=>pld (hK2 _ _ (rr E fun a E=>(wp_ret ?_))))
 obtain rfl:=si H
 exact rt1 E ⟨_,rfl,_,_,_,rfl,S⟩
def qBt.f(k:Nat)(x:qF)(y:Int):Option (List Int):=(qBy.f k x y).bind fun t7=>(if t7.2=true then (if 0≤t7.1∧t7.1<(x.f5.length:Int) then ((qAC.f ((nth qI.z x.f5 t7.1).f1)).bind fun t21=>(some t21)) else (none)) else ((qCA.f k x.f4 y x.f1).bind fun t30=>(some t30)))
def qBt.Post(W F:World)(r:List Int)(v:Value)(w':World):Prop:=∃(F':World)(RA0_0:OA)(rc0_0:Nat),v = .slice RA0_0 r.length rc0_0∧Sm W F w' F' [row ki 3 (.slice RA0_0 r.length rc0_0) r]
theorem qBt.calls(k:Nat)(x:qF)(y:Int)(A0_4:OA)(c0_4:Nat)(A0_5:OA)(c0_5:Nat)(A0_6:OA)(c0_6:Nat)(r:List Int)(W F:World)(hown:Sub F W)(g0_4:Rd qA.k F A0_4 c0_4 x.f4)(g0_5:Rd qI.k F A0_5 c0_5 x.f5)(g0_6:Rd qC.k F A0_6 c0_6 x.f6)(H:qBt.f k x y=some r):
    Cr 162 #[.agg #[iv x.f0,iv x.f1,iv x.f2,iv x.f3,.slice A0_4 x.f4.length c0_4,.slice A0_5 x.f5.length c0_5,.slice A0_6 x.f6.length c0_6],iv y] W (qBt.Post W F r):=by
 have S:=sT hown
 unfold qBt.f at H
 refine ent 27 rfl rfl rfl (fun a E=>?_)
 refine sq fun K1 hK1=>pl0 (plx (t:=27) E S [iv x.f0,iv x.f1,iv x.f2,iv x.f3,.slice A0_4 x.f4.length c0_4,.slice A0_5 x.f5.length c0_5,.slice A0_6 x.f6.length c0_6] fun b2 u3 hb2 S a E=>plc E (.r 1 1 .nil) (fun a E=>pld (hK1 _ _ (sq fun K4 hK4=>sq fun K5 hK5=>pl0 (plc E (.bn 0 0 7 hb2<|.r 1 1<|.nil) (fun a E=>?_))))))
 obtain ⟨t7,h8,H⟩:=bd H
 refine plq E S en198 (qBy.calls k x y _ _ _ _ _ _ _ _ _ S.own.sub g0_4 g0_5 g0_6 h8) fun u6 S a E=>plc E (.r 3 5 .nil) (fun a E=>pld (hK5 _ _ (rr E fun a E=>(E.ib 13 H (fun c10 E H=>?_) fun c10 E H=>?_))))
 refine sq fun K11 hK11=>pl0 ?_
 have hb2:=S.ba 0
 obtain ⟨c12,H⟩:=gd H
 have hE_:=E
 obtain ⟨ad13,rfl⟩:=g0_5.addr c12.1 c12.2
 replace E:=hE_
 obtain ⟨cs15,⟨A17,c18,rfl,g19⟩,hc16⟩:=g0_5.el qI.z t7.1 c12.1 c12.2
 refine plc E (.r 0 1<|.b 1 5 hb2<|.r 2 1<|.x 3 c12<|.r 4 1<|.c 5 (S.fc hc16 1)<|.nil) (fun a E=>?_)
 obtain ⟨t21,h22,H⟩:=bd H
 refine ple E (.cl en98 (qAC.calls ((nth qI.z x.f5 t7.1).f1) _ _ _ _ _ S.own.sub g19 h22)) ?_
 rintro _ u20 a ⟨F23,A24,c25,rfl,hC⟩ E
 have hs:=hC.sub
 replace S:=S.called (X:=[]) hC
 replace g0_4:=g0_4.mono hs
 replace g0_5:=g0_5.mono hs
 replace g0_6:=g0_6.mono hs
 replace g19:=g19.mono hs
 refine plc E (.r 7 1 .nil) (fun a E=>pld (hK11 _ _ (wp_ret (qCJ ?_))))
 replace S:=S.pm [0] 2
 obtain rfl:=si H
 exact rt1 E ⟨_,rfl,_,_,_,rfl,S⟩
 refine wp_skip (hK4 _ _ (sq fun K28 hK28=>pl0 ?_))
 have hb2:=S.ba 0
 refine plc E (.r 0 1<|.b 1 4 hb2<|.r 2 2<|.b 4 1 hb2<|.nil) (fun a E=>?_)
 obtain ⟨t30,h31,H⟩:=bd H
 refine ple E (.cl en199 (qCA.calls k x.f4 y x.f1 _ _ _ _ _ S.own.sub g0_4 h31)) ?_
 rintro _ u29 a ⟨F32,A33,c34,rfl,hC⟩ E
 have hs:=hC.sub
 replace S:=S.called (X:=[]) hC
 replace g0_4:=g0_4.mono hs
 replace g0_5:=g0_5.mono hs
 replace g0_6:=g0_6.mono hs
 refine plc E (.r 6 1 .nil) (fun a E=>pld (hK28 _ _ (wp_ret ?_)))
 replace S:=S.pm [0] 2
 obtain rfl:=si H
 exact rt1 E ⟨_,rfl,_,_,_,rfl,S⟩
def qBZ.f(x:qA)(y:Int):Option Int:=(qAn.f x.f0 y).bind fun t6=>(some t6)
def qBZ.Post(W F:World)(r:Int)(v:Value)(w':World):Prop:=∃(F':World),v=iv r∧Sm W F w' F' []
theorem qBZ.calls(x:qA)(y:Int)(r:Int)(W F:World)(hown:Sub F W)(H:qBZ.f x y=some r):
    Cr 196 #[.agg #[iv x.f0,iv x.f1,iv x.f2,iv x.f3,.bool x.f4,.bool x.f5],iv y] W (qBZ.Post W F r):=by
 have S:=sT hown
 unfold qBZ.f at H
 refine ent 9 rfl rfl rfl (fun a E=>?_)
 refine sq fun K1 hK1=>pl0 (plx (t:=153) E S [iv x.f0,iv x.f1,iv x.f2,iv x.f3,.bool x.f4,.bool x.f5] fun b2 u3 hb2 S a E=>plc E (.r 1 1 .nil) (fun a E=>pld (hK1 _ _ (sq fun K4 hK4=>pl0 (plc E (.r 0 1<|.b 1 0 hb2<|.r 2 1<|.nil) (fun a E=>?_))))))
 obtain ⟨t6,h7,H⟩:=bd H
 refine plq E S en197 (qAn.calls x.f0 y _ _ _ S.own.sub h7) fun u5 S a E=>plc E (.r 4 1 .nil) (fun a E=>pld (hK4 _ _ (wp_ret ?_)))
 replace S:=S.tail
 obtain rfl:=si H
 exact rt1 E ⟨_,rfl,_,rfl,S⟩
def qN.l7:Nat→List qA→Int→Int→Int→Option (Int × Bool)
 | 0,_,_,_,_=>none
 | k+1,x,y,x5,x6=>if x5<x6 then (if 0≤(w64 ((IntKind.u64.wrap (w64 (x5+x6))).fdiv 2))∧(w64 ((IntKind.u64.wrap (w64 (x5+x6))).fdiv 2))<(x.length:Int) then ((qBZ.f (nth qA.z x (w64 ((IntKind.u64.wrap (w64 (x5+x6))).fdiv 2))) y).bind fun t22=>(if t22<0 then (qN.l7 k x y (w64 ((w64 ((IntKind.u64.wrap (w64 (x5+x6))).fdiv 2))+1)) x6) else (qN.l7 k x y x5 (w64 ((IntKind.u64.wrap (w64 (x5+x6))).fdiv 2))))) else (none)) else (if x5<(x.length:Int) then (if 0≤x5∧x5<(x.length:Int) then ((qBZ.f (nth qA.z x x5) y).bind fun t33=>(some (x5,(t33 == 0)))) else (none)) else (some (x5,false)))
theorem qN.l7_s k x y x5 x6:type_of% (qN.l7.eq_2 x y x5 x6 k):=qN.l7.eq_2 x y x5 x6 k
def qN.f(k:Nat)(x:List qA)(y:Int):Option (Int × Bool):=qN.l7 k x y 0 (x.length:Int)
def qN.Post(W F:World)(r:Int × Bool)(v:Value)(w':World):Prop:=∃(F':World),v = .tuple #[iv r.1,.bool r.2]∧Sm W F w' F' []
theorem qN.calls(k:Nat)(x:List qA)(y:Int)(A0_0:OA)(c0_0:Nat)(r:Int × Bool)(W F:World)(hown:Sub F W)(g0_0:Rd qA.k F A0_0 c0_0 x)(H:qN.f k x y=some r):
    Cr 195 #[.slice A0_0 x.length c0_0,iv y,.func (.func 196) #[] #[]] W (qN.Post W F r):=by
 have S:=sT hown
 unfold qN.f at H
 refine ent 49 rfl rfl rfl (fun a E=>?_)
 refine rr E fun a E=>(rr E fun a E=>(rr E fun a E=>(sq fun K4 hK4=>wp_block ?_)))
 refine wp_loop_ghost (fun kq8 a w'=>∃(G:NV)(x5:Int)(x6:Int),kq8≤k∧Env 49 G a∧At G [(0,.slice A0_0 x.length c0_0),(1,iv y),(2,.func (.func 196) #[] #[]),(8,iv (x.length:Int)),(9,iv x5),(10,iv x6)]∧Sm W F w' F []∧qN.l7 kq8 x y x5 x6=some r) k ⟨_,0,(x.length:Int),Nat.le_refl _,E,.of,S,H⟩ ?_
 rintro kq8 a u10 ⟨G,x5,x6,hkq,E,A,S,H⟩
 obtain _ | k9:=kq8
 exact zz H
 rw [qN.l7_s]at H
 obtain ⟨J,E⟩:=E.at A
 refine sq fun K11 hK11=>rr E fun a E=>(E.ik 17 H (fun c13 E H=>?_) fun c13 E H=>?_)
 refine wp_skip (hK11 _ _ (wp_block (rr E fun a E=>(sq fun K15 hK15=>pl0 ?_))))
 obtain ⟨c16,H⟩:=gd H
 have hE_:=E
 obtain ⟨ad17,rfl⟩:=g0_0.addr c16.1 c16.2
 replace E:=hE_
 obtain ⟨cs19,rfl,hc20⟩:=g0_0.el qA.z (w64 ((IntKind.u64.wrap (w64 (x5+x6))).fdiv 2)) c16.1 c16.2
 refine plc E (.r 0 3<|.x 3 c16<|.cs 4 (S.fcs hc20)<|.r 5 1<|.nil) (fun a E=>?_)
 obtain ⟨t22,h23,H⟩:=bd H
 refine plq E S en196 (qBZ.calls (nth qA.z x (w64 ((IntKind.u64.wrap (w64 (x5+x6))).fdiv 2))) y _ _ _ S.own.sub h23) fun u21 S a E=>plc E (.r 7 1 .nil) (fun a E=>pld (hK15 _ _ (E.ik 31 H (fun c24 E H=>?_) fun c24 E H=>?_)))
 refine pl0 (plc E (.r 0 3 .nil) (fun a E=>pld ?_))
 refine qCL ?_
 exact qCM ⟨k9,by omega,_,(w64 ((w64 ((IntKind.u64.wrap (w64 (x5+x6))).fdiv 2))+1)),x6,by omega,E,.of,S,H⟩
 refine pl0 (plc E (.r 0 2 .nil) (fun a E=>pld ?_))
 refine qCL ?_
 exact qCM ⟨k9,by omega,_,x5,(w64 ((IntKind.u64.wrap (w64 (x5+x6))).fdiv 2)),by omega,E,.of,S,H⟩
 refine wp_exit ?_
 refine hK4 _ _ (sq fun K25 hK25=>pl0 (plc E (.r 0 5 .nil) (fun a E=>E.fk 39 H (fun c26 E H=>?_) fun c26 E H=>?_)))
 obtain ⟨c27,H⟩:=gd H
 have hE_:=E
 obtain ⟨ad28,rfl⟩:=g0_0.addr c27.1 c27.2
 replace E:=hE_
 obtain ⟨cs30,rfl,hc31⟩:=g0_0.el qA.z x5 c27.1 c27.2
 refine plc E (.r 5 3<|.x 8 c27<|.cs 9 (S.fcs hc31)<|.r 10 1<|.nil) (fun a E=>?_)
 obtain ⟨t33,h34,H⟩:=bd H
 refine plq E S en196 (qBZ.calls (nth qA.z x x5) y _ _ _ S.own.sub h34) fun u32 S a E=>plc E (.r 12 4 .nil) (fun a E=>pld (hK25 _ _ (wp_ret ?_)))
 obtain rfl:=si H
 exact rtN E ⟨_,rfl,_,rfl,S⟩
 refine plc E (.r 5 11 .nil) (fun a E=>pld (hK25 _ _ (wp_ret ?_)))
 obtain rfl:=si H
 exact rtN E ⟨_,rfl,_,rfl,S⟩
def qBN.j15:Nat→List qA→Int × Bool→Bool→Option (qA × Bool)
 | 0,_,_,_=>none
 | k+1,x,t6,y14=>if y14=true then (some ((⟨0,0,0,0,false,false⟩:qA),false)) else (if 0≤t6.1∧t6.1<(x.length:Int) then (some ((nth qA.z x t6.1),true)) else (none))
theorem qBN.j15_s k x t6 y14:type_of% (qBN.j15.eq_2 x t6 y14 k):=qBN.j15.eq_2 x t6 y14 k
def qBN.f(k:Nat)(x:List qA)(y:Int):Option (qA × Bool):=(qN.f k x y).bind fun t6=>(if t6.2=true then ((qAI.f k x).bind fun t12=>(qBN.j15 k x t6 (!(t12 == 0)))) else (qBN.j15 k x t6 true))
def qBN.Post(W F:World)(r:qA × Bool)(v:Value)(w':World):Prop:=∃(F':World),v = .tuple #[.agg #[iv r.1.f0,iv r.1.f1,iv r.1.f2,iv r.1.f3,.bool r.1.f4,.bool r.1.f5],.bool r.2]∧Sm W F w' F' []
theorem qBN.calls(k:Nat)(x:List qA)(y:Int)(A0_0:OA)(c0_0:Nat)(r:qA × Bool)(W F:World)(hown:Sub F W)(g0_0:Rd qA.k F A0_0 c0_0 x)(H:qBN.f k x y=some r):
    Cr 161 #[.slice A0_0 x.length c0_0,iv y] W (qBN.Post W F r):=by
 have S:=sT hown
 unfold qBN.f at H
 refine ent 26 rfl rfl rfl (fun a E=>?_)
 refine sq fun K1 hK1=>pl0 (pla (t:=153) E S [iv 0,iv 0,iv 0,iv 0,.bool false,.bool false] fun b2 u3 hb2 S a E=>plc E (.r 1 1 .nil) (fun a E=>pld (hK1 _ _ (sq fun K4 hK4=>pl0 (plc E (.r 0 2 .nil) (fun a E=>?_))))))
 obtain ⟨t6,h7,H⟩:=bd H
 refine plq E S en195 (qN.calls k x y _ _ _ _ _ S.own.sub g0_0 h7) fun u5 S a E=>plc E (.r 3 5 .nil) (fun a E=>pld (hK4 _ _ (sq fun K8 hK8=>sq fun K9 hK9=>?_)))
 have J18:∀ kq16,kq16≤k→∀(G:NV)(y14:Bool)(a:Act)(w':World),Env 26 G a→At G [(0,.slice A0_0 x.length c0_0),(4,.pointer (pb b2)),(6,iv t6.1),(20,.bool y14)]→Sm W F w' F [box b2 #[iv 0,iv 0,iv 0,iv 0,.bool false,.bool false] 153]→qBN.j15 kq16 x t6 y14=some r→K9 a w':=by
  intro kq16 hkq G y14 a u19 E A S H
  obtain _ | k17:=kq16
  exact zz H
  rw [qBN.j15_s]at H
  obtain ⟨J,E⟩:=E.at A
  refine hK9 _ _ (E.ib 20 H (fun c20 E H=>?_) fun c20 E H=>?_)
  refine sq fun K21 hK21=>pl0 (plc E (.r 0 1 .nil) (fun a E=>pls E S [iv 0,iv 0,iv 0,iv 0,.bool false,.bool false] fun u22 hb2 S a E=>plc E (.r 2 1 .nil) (fun a E=>pld (hK21 _ _ (wp_ret (qCJ ?_))))))
  replace S:=S.tail
  obtain rfl:=si H
  exact rtm E (.b hb2 ag153 sz153 (.t .nil)) ⟨_,rfl,_,rfl,S⟩
  refine wp_skip (hK8 _ _ (sq fun K23 hK23=>pl0 ?_))
  obtain ⟨c24,H⟩:=gd H
  have hE_:=E
  obtain ⟨ad25,rfl⟩:=g0_0.addr c24.1 c24.2
  replace E:=hE_
  obtain ⟨cs27,rfl,hc28⟩:=g0_0.el qA.z t6.1 c24.1 c24.2
  refine plc E (.r 0 2<|.x 2 c24<|.cs 3 (S.fcs hc28)<|.nil) (fun a E=>pls E S [iv ((nth qA.z x t6.1).f0),iv ((nth qA.z x t6.1).f1),iv ((nth qA.z x t6.1).f2),iv ((nth qA.z x t6.1).f3),.bool ((nth qA.z x t6.1).f4),.bool ((nth qA.z x t6.1).f5)] fun u29 hb2 S a E=>plc E (.r 5 1 .nil) (fun a E=>pld (hK23 _ _ (wp_ret ?_))))
  replace S:=S.tail
  obtain rfl:=si H
  exact rtm E (.b hb2 ag153 sz153 (.t .nil)) ⟨_,rfl,_,rfl,S⟩
 refine pl0 (plc E (.r 0 3 .nil) (fun a E=>E.fbn 16 H (fun c10 E H=>?_) fun c10 E H=>?_))
 refine plc E (.r 3 1 .nil) (fun a E=>?_)
 obtain ⟨t12,h13,H⟩:=bd H
 refine plq E S en95 (qAI.calls k x _ _ _ _ _ S.own.sub g0_0 h13) fun u11 S a E=>plc E (.r 5 2 .nil) (fun a E=>pld ?_)
 exact J18 _ (by omega) _ (!(t12 == 0)) _ _ E .of S H
 refine plc E (.r 3 4 .nil) (fun a E=>pld ?_)
 exact J18 _ (by omega) _ true _ _ E .of S H
def qBf.f(k:Nat)(x:Int)(xf0_:qF):Option Bool:=(qBN.f k xf0_.f4 x).bind fun t4=>(some (!t4.1.f4))
def qBf.Post(W F:World)(r:Bool)(v:Value)(w':World):Prop:=∃(F':World),v = .bool r∧Sm W F w' F' []
theorem qBf.calls(k:Nat)(x:Int)(xf0_:qF)(pf0_:Nat)(Af0_4:OA)(cf0_4:Nat)(Af0_5:OA)(cf0_5:Nat)(Af0_6:OA)(cf0_6:Nat)(r:Bool)(W F:World)(hown:Sub F W)(gf0_4:Rd qA.k F Af0_4 cf0_4 xf0_.f4)(gf0_5:Rd qI.k F Af0_5 cf0_5 xf0_.f5)(gf0_6:Rd qC.k F Af0_6 cf0_6 xf0_.f6)(hpf0_:F.heap[pf0_]? = some (.cells #[iv xf0_.f0,iv xf0_.f1,iv xf0_.f2,iv xf0_.f3,.slice Af0_4 xf0_.f4.length cf0_4,.slice Af0_5 xf0_.f5.length cf0_5,.slice Af0_6 xf0_.f6.length cf0_6] 27 (0,0)))(H:qBf.f k x xf0_=some r):
    Cr 160 #[iv x,.pointer (pb pf0_)] W (qBf.Post W F r):=by
 have S:=sT hown
 unfold qBf.f at H
 refine ent 16 rfl rfl rfl (fun a E=>?_)
 refine rr E fun a E=>(sq fun K2 hK2=>pl0 (plc E (.r 0 1<|.b 1 4 (S.own.sub _ _ _ _ hpf0_)<|.r 2 1<|.nil) (fun a E=>?_)))
 obtain ⟨t4,h5,H⟩:=bd H
 refine plq E S en161 (qBN.calls k xf0_.f4 x _ _ _ _ _ S.own.sub gf0_4 h5) fun u3 S a E=>plc E (.r 4 3 .nil) (fun a E=>pla (t:=153) E S [iv 0,iv 0,iv 0,iv 0,.bool false,.bool false] fun b6 u7 hb6 S a E=>pls E S [iv t4.1.f0,iv t4.1.f1,iv t4.1.f2,iv t4.1.f3,.bool t4.1.f4,.bool t4.1.f5] fun u8 hb6 S a E=>plc E (.r 9 1 .nil) (fun a E=>pld (hK2 _ _ (rg E (.r 0 1<|.b 1 4 hb6<|.r 2 2<|.nil) fun a E=>(wp_ret ?_)))))
 replace S:=S.tail
 obtain rfl:=si H
 exact rt1 E ⟨_,rfl,_,rfl,S⟩
def qb.l5:Nat→List Int→qF→Int→Option Int
 | 0,_,_,_=>none
 | k+1,x,x1c0_,x4=>if x4<(x.length:Int) then (if 0≤x4∧x4<(x.length:Int) then ((qBf.f k (nth 0 x x4) x1c0_).bind fun t21=>(if t21=true then (some x4) else (qb.l5 k x x1c0_ (w64 (x4+1))))) else (none)) else (some (-1))
theorem qb.l5_s k x x1c0_ x4:type_of% (qb.l5.eq_2 x x1c0_ x4 k):=qb.l5.eq_2 x x1c0_ x4 k
def qb.f(k:Nat)(x:List Int)(x1c0_:qF):Option Int:=qb.l5 k x x1c0_ 0
def qb.Post(W F:World)(r:Int)(v:Value)(w':World):Prop:=∃(F':World),v=iv r∧Sm W F w' F' []
theorem qb.calls(k:Nat)(x:List Int)(x1c0_:qF)(A0_0:OA)(c0_0:Nat)(p1c0_:Nat)(A1c0_4:OA)(c1c0_4:Nat)(A1c0_5:OA)(c1c0_5:Nat)(A1c0_6:OA)(c1c0_6:Nat)(r:Int)(W F:World)(hown:Sub F W)(g0_0:Rd ki F A0_0 c0_0 x)(g1c0_4:Rd qA.k F A1c0_4 c1c0_4 x1c0_.f4)(g1c0_5:Rd qI.k F A1c0_5 c1c0_5 x1c0_.f5)(g1c0_6:Rd qC.k F A1c0_6 c1c0_6 x1c0_.f6)(hp1c0_:F.heap[p1c0_]? = some (.cells #[iv x1c0_.f0,iv x1c0_.f1,iv x1c0_.f2,iv x1c0_.f3,.slice A1c0_4 x1c0_.f4.length c1c0_4,.slice A1c0_5 x1c0_.f5.length c1c0_5,.slice A1c0_6 x1c0_.f6.length c1c0_6] 27 (0,0)))(H:qb.f k x x1c0_=some r):
    Cr 194 #[.slice A0_0 x.length c0_0,.func (.func 160) #[] #[.pointer (pb p1c0_)]] W (qb.Post W F r):=by
 have S:=sT hown
 unfold qb.f at H
 refine ent 19 rfl rfl rfl (fun a E=>?_)
 refine rr E fun a E=>(sq fun K2 hK2=>rr E fun a E=>(wp_block ?_))
 refine wp_loop_ghost (fun kq6 a w'=>∃(G:NV)(x4:Int),kq6≤k∧Env 19 G a∧At G [(0,.slice A0_0 x.length c0_0),(1,.func (.func 160) #[] #[.pointer (pb p1c0_)]),(7,iv (x.length:Int)),(8,iv x4)]∧Sm W F w' F []∧qb.l5 kq6 x x1c0_ x4=some r) k ⟨_,0,Nat.le_refl _,E,.of,S,H⟩ ?_
 rintro kq6 a u8 ⟨G,x4,hkq,E,A,S,H⟩
 obtain _ | k7:=kq6
 exact zz H
 rw [qb.l5_s]at H
 obtain ⟨J,E⟩:=E.at A
 refine rr E fun a E=>(sq fun K10 hK10=>E.ik 9 H (fun c11 E H=>?_) fun c11 E H=>?_)
 refine wp_skip (hK10 _ _ (sq fun K12 hK12=>wp_block (rr E fun a E=>(sq fun K14 hK14=>pl0 ?_))))
 obtain ⟨c15,H⟩:=gd H
 have hE_:=E
 obtain ⟨ad16,rfl⟩:=g0_0.addr c15.1 c15.2
 replace E:=hE_
 obtain ⟨cs18,rfl,hc19⟩:=g0_0.el 0 x4 c15.1 c15.2
 refine plc E (.r 0 3<|.x 3 c15<|.c 4 (S.fc hc19 0)<|.nil) (fun a E=>?_)
 obtain ⟨t21,h22,H⟩:=bd H
 refine plq E S en160 (qBf.calls k7 (nth 0 x x4) x1c0_ _ _ _ _ _ _ _ _ _ _ S.own.sub g1c0_4 g1c0_5 g1c0_6 hp1c0_ h22) fun u20 S a E=>pld (hK14 _ _ (E.ib 16 H (fun c23 E H=>?_) fun c23 E H=>?_))
 refine rr E fun a E=>(wp_ret (qCK (qCJ (qCJ (qCK (qCJ ?_))))))
 obtain rfl:=si H
 exact rt1 E ⟨_,rfl,_,rfl,S⟩
 refine wp_skip ?_
 refine qCL ?_
 refine hK12 _ _ (pl0 (plc E (.r 0 2 .nil) (fun a E=>pld ?_)))
 exact qCM ⟨k7,by omega,_,(w64 (x4+1)),by omega,E,.of,S,H⟩
 refine wp_exit ?_
 refine hK2 _ _ (rr E fun a E=>(wp_ret ?_))
 obtain rfl:=si H
 exact rt1 E ⟨_,rfl,_,rfl,S⟩
def qZ.l15:Nat→List Int→qF→List Int→Int→Int→Option (List Int)
 | 0,_,_,_,_,_=>none
 | k+1,x,x1c0_,l12,x13,x14=>if x14<(x.length:Int) then (if 0≤x14∧x14<(x.length:Int) then ((qBf.f k (nth 0 l12 x14) x1c0_).bind fun t33=>(if t33=true then (qZ.l15 k x x1c0_ l12 x13 (w64 (x14+1))) else (if 0≤x13∧x13<(x.length:Int) then (qZ.l15 k x x1c0_ (l12.set (x13).toNat (nth 0 l12 x14)) (w64 (x13+1)) (w64 (x14+1))) else (none)))) else (none)) else (if 0≤x13∧x13≤(x.length:Int) then (some (cutl (l12.take (x13).toNat++List.replicate (x.length - (x13).toNat) 0) 0 x13)) else (none))
theorem qZ.l15_s k x x1c0_ l12 x13 x14:type_of% (qZ.l15.eq_2 x x1c0_ l12 x13 x14 k):=qZ.l15.eq_2 x x1c0_ l12 x13 x14 k
def qZ.f(k:Nat)(x:List Int)(x1c0_:qF):Option (List Int):=(qb.f k x x1c0_).bind fun t4=>(if t4=(-1) then (some x) else (qZ.l15 k x x1c0_ x t4 (w64 (t4+1))))
def qZ.Post(x:List Int)(x1c0_:qF)(A0_0:OA)(c0_0:Nat)(p1c0_:Nat)(A1c0_4:OA)(c1c0_4:Nat)(A1c0_5:OA)(c1c0_5:Nat)(A1c0_6:OA)(c1c0_6:Nat)(W F:World)(r:List Int)(v:Value)(w':World):Prop:=∃(F':World)(RA0_0:OA)(rc0_0:Nat),v = .slice RA0_0 r.length rc0_0∧St W (mine W [row ki 3 (.slice A0_0 x.length c0_0) x]) F w' F' [row ki 3 (.slice RA0_0 r.length rc0_0) r]
theorem qZ.calls(k:Nat)(x:List Int)(x1c0_:qF)(A0_0:OA)(c0_0:Nat)(p1c0_:Nat)(A1c0_4:OA)(c1c0_4:Nat)(A1c0_5:OA)(c1c0_5:Nat)(A1c0_6:OA)(c1c0_6:Nat)(r:List Int)(W F:World)(hown:Own W F [row ki 3 (.slice A0_0 x.length c0_0) x])(g1c0_4:Rd qA.k F A1c0_4 c1c0_4 x1c0_.f4)(g1c0_5:Rd qI.k F A1c0_5 c1c0_5 x1c0_.f5)(g1c0_6:Rd qC.k F A1c0_6 c1c0_6 x1c0_.f6)(hp1c0_:F.heap[p1c0_]? = some (.cells #[iv x1c0_.f0,iv x1c0_.f1,iv x1c0_.f2,iv x1c0_.f3,.slice A1c0_4 x1c0_.f4.length c1c0_4,.slice A1c0_5 x1c0_.f5.length c1c0_5,.slice A1c0_6 x1c0_.f6.length c1c0_6] 27 (0,0)))(H:qZ.f k x x1c0_=some r):
    Cr 159 #[.slice A0_0 x.length c0_0,.func (.func 160) #[] #[.pointer (pb p1c0_)]] W (qZ.Post x x1c0_ A0_0 c0_0 p1c0_ A1c0_4 c1c0_4 A1c0_5 c1c0_5 A1c0_6 c1c0_6 W F r):=by
 have S:=St.start hown
 obtain ⟨N,hN⟩:∃ N,N=mine W [row ki 3 (.slice A0_0 x.length c0_0) x]:=⟨_,rfl⟩
 rw [← hN]at S
 unfold qZ.f at H
 refine ent 42 rfl rfl rfl (fun a E=>?_)
 refine rr E fun a E=>(sq fun K2 hK2=>pl0 (plc E (.r 0 2 .nil) (fun a E=>?_)))
 obtain ⟨t4,h5,H⟩:=bd H
 refine plq E S en194 (qb.calls k x x1c0_ _ _ _ _ _ _ _ _ _ _ _ _ (Sub.refl _) (S.rd_at (i:=0) rfl) (g1c0_4.mono S.own.sub) (g1c0_5.mono S.own.sub) (g1c0_6.mono S.own.sub) (S.own.sub _ _ _ _ hp1c0_) h5) fun u3 S a E=>plc E (.r 3 1 .nil) (fun a E=>pld (hK2 _ _ (sq fun K6 hK6=>rr E fun a E=>(E.ik 12 H (fun c8 E H=>?_) fun c8 E H=>?_))))
 refine rr E fun a E=>(wp_ret (qCJ ?_))
 rw [hN]at S
 obtain rfl:=si H
 exact rt1 E ⟨_,rfl,_,_,_,rfl,S⟩
 refine wp_skip (hK6 _ _ (sq fun K10 hK10=>rr E fun a E=>(wp_block ?_)))
 refine wp_loop_ghost (fun kq16 a w'=>∃(G:NV)(l12:List Int)(x13:Int)(x14:Int),kq16≤k∧Env 42 G a∧At G [(0,.slice A0_0 x.length c0_0),(1,.func (.func 160) #[] #[.pointer (pb p1c0_)]),(5,iv x13),(6,iv x14)]∧St W N F w' F [row ki 3 (.slice A0_0 x.length c0_0) l12]∧qZ.l15 kq16 x x1c0_ l12 x13 x14=some r) k ⟨_,x,t4,(w64 (t4+1)),Nat.le_refl _,E,.of,S,H⟩ ?_
 rintro kq16 a u18 ⟨G,l12,x13,x14,hkq,E,A,S,H⟩
 obtain _ | k17:=kq16
 exact zz H
 rw [qZ.l15_s]at H
 obtain ⟨J,E⟩:=E.at A
 refine sq fun K19 hK19=>rr E fun a E=>(E.ik 19 H (fun c21 E H=>?_) fun c21 E H=>?_)
 refine wp_skip (hK19 _ _ (sq fun K22 hK22=>wp_block (sq fun K23 hK23=>pl0 ?_)))
 obtain ⟨c24,H⟩:=gd H
 have hr25:=S.ra 0
 have c26:0≤x14∧x14<(l12.length:Int):=by rw [← (qCN hr25).1]; exact c24
 have hE_:=E
 obtain ⟨b27,rfl⟩:=qCP hr25 c26.1 c26.2
 replace E:=hE_
 have hr_:=S.ra 0
 obtain ⟨cs29,rfl,hc30⟩:=qCO hr_ 0 x14 c26.1 c26.2
 refine plc E (.r 0 2<|.x 2 c24<|.c 3 (hc30 0 _ rfl)<|.r 4 1<|.nil) (fun a E=>pld (hK23 _ _ (sq fun K31 hK31=>pl0 (plc E (.r 0 2 .nil) (fun a E=>?_)))))
 obtain ⟨t33,h34,H⟩:=bd H
 refine plq E S en160 (qBf.calls k17 (nth 0 l12 x14) x1c0_ _ _ _ _ _ _ _ _ _ _ S.own.sub g1c0_4 g1c0_5 g1c0_6 hp1c0_ h34) fun u32 S a E=>plc E (.r 3 1 .nil) (fun a E=>pld (hK31 _ _ (E.ibn 29 H (fun c35 E H=>?_) fun c35 E H=>?_)))
 refine wp_skip ?_
 refine qCL ?_
 refine hK22 _ _ (pl0 (plc E (.r 0 3 .nil) (fun a E=>pld ?_)))
 exact qCM ⟨k17,by omega,_,l12,x13,(w64 (x14+1)),by omega,E,.of,S,H⟩
 refine sq fun K36 hK36=>pl0 ?_
 obtain ⟨c37,H⟩:=gd H
 have hr38:=S.ra 0
 have c39:0≤x13∧x13<(l12.length:Int):=by rw [← (qCN hr38).1]; exact c37
 have hr_:=S.ra 0
 obtain ⟨cs41,rfl,hc42⟩:=qCO hr_ 0 x13 c39.1 c39.2
 refine plc E (.r 0 3<|.x 3 c37<|.nil) (fun a E=>?_)
 obtain ⟨cs44,rfl,hc45⟩:=qCO (S.row_at (i:=0) rfl) 0 x13 c39.1 c39.2
 refine ple E (.set (d:=ki) (n:=x.length) (i:=x13) (nth 0 l12 x14) (0) (ea0 _ _) S c39 [iv (nth 0 l12 x13)] hc45 [iv (nth 0 l12 x14)] rfl) ?_
 rintro _ u43 a ⟨rfl,S,hz⟩ E
 refine pld (hK36 _ _ (pl0 (plc E (.r 0 3 .nil) (fun a E=>pld ?_))))
 refine qCL ?_
 refine hK22 _ _ (pl0 (plc E (.r 0 3 .nil) (fun a E=>pld ?_)))
 exact qCM ⟨k17,by omega,_,(l12.set (x13).toNat (nth 0 l12 x14)),(w64 (x13+1)),(w64 (x14+1)),by omega,E,.of,S,H⟩
 refine wp_exit ?_
 refine hK10 _ _ (sq fun K46 hK46=>pl0 ?_)
 obtain ⟨c47,H⟩:=gd H
 obtain ⟨A48,c49,hA50,hv51⟩:=y_suf (P:=Tryz.prog) (k:=.i64) (S.row_at (i:=0) rfl) c47
 refine plc E (.r 0 2<|.y 2 (hv51 (by kernel_rfl))<|.nil) (fun a E=>ple E (.clr (d:=ki) (n:=x.length) (c':=c49) (lo:=x13) 8 0 S c47 hA50 (by rw [zr3]; exact rfl)) ?_)
 rintro _ u52 a ⟨rfl,S,hz⟩ E
 refine pld (hK46 _ _ (sq fun K53 hK53=>pl0 ?_))
 have hv54:=S.ra 0
 replace S:=S.shrink c47
 refine plc E (.r 0 2<|.y 2 (y_pre (k:=.i64) hv54 c47)<|.r 3 1<|.nil) (fun a E=>pld (hK53 _ _ (wp_ret ?_)))
 rw [hN]at S
 obtain rfl:=si H
 exact rt1 E ⟨_,rfl,_,_,_,rfl,S⟩
def qBw.f(k:Nat)(x:qF)(y:List Int):Option (List Int):=(qZ.f k y x).bind fun t8=>(some t8)
def qBw.Post(x:qF)(y:List Int)(A0_4:OA)(c0_4:Nat)(A0_5:OA)(c0_5:Nat)(A0_6:OA)(c0_6:Nat)(A1_0:OA)(c1_0:Nat)(W F:World)(r:List Int)(v:Value)(w':World):Prop:=∃(F':World)(RA0_0:OA)(rc0_0:Nat),v = .slice RA0_0 r.length rc0_0∧St W (mine W [row ki 3 (.slice A1_0 y.length c1_0) y]) F w' F' [row ki 3 (.slice RA0_0 r.length rc0_0) r]
theorem qBw.calls(k:Nat)(x:qF)(y:List Int)(A0_4:OA)(c0_4:Nat)(A0_5:OA)(c0_5:Nat)(A0_6:OA)(c0_6:Nat)(A1_0:OA)(c1_0:Nat)(r:List Int)(W F:World)(hown:Own W F [row ki 3 (.slice A1_0 y.length c1_0) y])(g0_4:Rd qA.k F A0_4 c0_4 x.f4)(g0_5:Rd qI.k F A0_5 c0_5 x.f5)(g0_6:Rd qC.k F A0_6 c0_6 x.f6)(H:qBw.f k x y=some r):
    Cr 118 #[.agg #[iv x.f0,iv x.f1,iv x.f2,iv x.f3,.slice A0_4 x.f4.length c0_4,.slice A0_5 x.f5.length c0_5,.slice A0_6 x.f6.length c0_6],.slice A1_0 y.length c1_0] W (qBw.Post x y A0_4 c0_4 A0_5 c0_5 A0_6 c0_6 A1_0 c1_0 W F r):=by
 have S:=St.start hown
 obtain ⟨N,hN⟩:∃ N,N=mine W [row ki 3 (.slice A1_0 y.length c1_0) y]:=⟨_,rfl⟩
 rw [← hN]at S
 unfold qBw.f at H
 refine ent 8 rfl rfl rfl (fun a E=>?_)
 refine sq fun K1 hK1=>pl0 (plx (t:=27) E S [iv x.f0,iv x.f1,iv x.f2,iv x.f3,.slice A0_4 x.f4.length c0_4,.slice A0_5 x.f5.length c0_5,.slice A0_6 x.f6.length c0_6] fun b2 u3 hb2 S a E=>plc E (.r 1 1 .nil) (fun a E=>pld (hK1 _ _ (sq fun K4 hK4=>pl0 (plc E (.r 0 2 .nil) (fun a E=>?_))))))
 obtain ⟨F5,hs,g6,S⟩:=S.giveb
 replace g0_4:=g0_4.mono hs
 replace g0_5:=g0_5.mono hs
 replace g0_6:=g0_6.mono hs
 obtain ⟨t8,h9,H⟩:=bd H
 refine ple E (.cl en159 (qZ.calls k y x _ _ _ _ _ _ _ _ _ _ _ _ (Own.left (X:=[row ki 3 (.slice A1_0 y.length c1_0) y]) S.own) g0_4 g0_5 g0_6 g6 h9)) ?_
 rintro _ u7 a ⟨F10,A11,c12,rfl,hC⟩ E
 have hs:=hC.sub
 replace S:=S.called (X:=[row ki 3 (.slice A1_0 y.length c1_0) y]) hC
 replace g0_4:=g0_4.mono hs
 replace g0_5:=g0_5.mono hs
 replace g0_6:=g0_6.mono hs
 replace g6:=hs _ _ _ _ g6
 refine plc E (.r 3 1 .nil) (fun a E=>pld (hK4 _ _ (wp_ret ?_)))
 rw [hN]at S
 obtain rfl:=si H
 exact rt1 E ⟨_,rfl,_,_,_,rfl,S⟩
def qBF.l20:Nat→qF→qF→List qC→List qC→Int→Option (List qC)
 | 0,_,_,_,_,_=>none
 | k+1,x,y,t8,l17,x18=>if x18<(t8.length:Int) then (if 0≤x18∧x18<(t8.length:Int) then ((qBt.f k x x18).bind fun t44=>((qBw.f k x t44).bind fun t52=>((qBt.f k y x18).bind fun t62=>((qBw.f k y t62).bind fun t70=>((qr.f k t52 t70).bind fun t78=>(if t78=true then (qBF.l20 k x y t8 l17 (w64 (x18+1))) else (if (t52.length:Int)≥x.f2 then (none) else (qBF.l20 k x y t8 (l17.set (x18).toNat (⟨(w64 (x.f0+1)),(nth qC.z l17 x18).f1⟩:qC)) (w64 (x18+1)))))))))) else (none)) else (some l17)
theorem qBF.l20_s k x y t8 l17 x18:type_of% (qBF.l20.eq_2 x y t8 l17 x18 k):=qBF.l20.eq_2 x y t8 l17 x18 k
def qBF.f(k:Nat)(x:qF)(y:qF):Option (List qC):=(qAF.f y.f6).bind fun t8=>(qBF.l20 k x y t8 t8 0)
def qBF.Post(W F:World)(r:List qC)(v:Value)(w':World):Prop:=∃(F':World)(RA0_0:OA)(rc0_0:Nat),v = .slice RA0_0 r.length rc0_0∧Sm W F w' F' [row qC.k 87 (.slice RA0_0 r.length rc0_0) r]
theorem qBF.calls(k:Nat)(x:qF)(y:qF)(A0_4:OA)(c0_4:Nat)(A0_5:OA)(c0_5:Nat)(A0_6:OA)(c0_6:Nat)(A1_4:OA)(c1_4:Nat)(A1_5:OA)(c1_5:Nat)(A1_6:OA)(c1_6:Nat)(r:List qC)(W F:World)(hown:Sub F W)(g0_4:Rd qA.k F A0_4 c0_4 x.f4)(g0_5:Rd qI.k F A0_5 c0_5 x.f5)(g0_6:Rd qC.k F A0_6 c0_6 x.f6)(g1_4:Rd qA.k F A1_4 c1_4 y.f4)(g1_5:Rd qI.k F A1_5 c1_5 y.f5)(g1_6:Rd qC.k F A1_6 c1_6 y.f6)(H:qBF.f k x y=some r):
    Cr 146 #[.agg #[iv x.f0,iv x.f1,iv x.f2,iv x.f3,.slice A0_4 x.f4.length c0_4,.slice A0_5 x.f5.length c0_5,.slice A0_6 x.f6.length c0_6],.agg #[iv y.f0,iv y.f1,iv y.f2,iv y.f3,.slice A1_4 y.f4.length c1_4,.slice A1_5 y.f5.length c1_5,.slice A1_6 y.f6.length c1_6]] W (qBF.Post W F r):=by
 have S:=sT hown
 unfold qBF.f at H
 refine ent 65 rfl rfl rfl (fun a E=>?_)
 refine sq fun K1 hK1=>pl0 (plx (t:=27) E S [iv x.f0,iv x.f1,iv x.f2,iv x.f3,.slice A0_4 x.f4.length c0_4,.slice A0_5 x.f5.length c0_5,.slice A0_6 x.f6.length c0_6] fun b2 u3 hb2 S a E=>plx (t:=27) E S [iv y.f0,iv y.f1,iv y.f2,iv y.f3,.slice A1_4 y.f4.length c1_4,.slice A1_5 y.f5.length c1_5,.slice A1_6 y.f6.length c1_6] fun b4 u5 hb4 S a E=>plc E (.r 2 1 .nil) (fun a E=>pld (hK1 _ _ (sq fun K6 hK6=>pl0 (plc E (.r 0 1<|.b 1 6 hb4<|.nil) (fun a E=>?_))))))
 obtain ⟨t8,h9,H⟩:=bd H
 refine ple E (.cl en104 (qAF.calls y.f6 _ _ _ _ _ S.own.sub g1_6 h9)) ?_
 rintro _ u7 a ⟨F10,A11,c12,rfl,hC⟩ E
 have hs:=hC.sub
 replace S:=S.called (X:=[]) hC
 replace g0_4:=g0_4.mono hs
 replace g0_5:=g0_5.mono hs
 replace g0_6:=g0_6.mono hs
 replace g1_4:=g1_4.mono hs
 replace g1_5:=g1_5.mono hs
 replace g1_6:=g1_6.mono hs
 refine plc E (.r 3 1 .nil) (fun a E=>pld (hK6 _ _ (sq fun K15 hK15=>rr E fun a E=>(wp_block ?_))))
 replace S:=S.pm [1,2,0] 3
 refine wp_loop_ghost (fun kq21 a w'=>∃(G:NV)(l17:List qC)(x18:Int)(F19:World),kq21≤k∧Env 65 G a∧At G [(2,.pointer (pb b2)),(3,.pointer (pb b4)),(5,.slice A11 t8.length c12),(13,.slice A11 t8.length c12),(14,iv (t8.length:Int)),(15,iv x18)]∧Sm W F w' F19 [box b4 #[iv y.f0,iv y.f1,iv y.f2,iv y.f3,.slice A1_4 y.f4.length c1_4,.slice A1_5 y.f5.length c1_5,.slice A1_6 y.f6.length c1_6] 27,box b2 #[iv x.f0,iv x.f1,iv x.f2,iv x.f3,.slice A0_4 x.f4.length c0_4,.slice A0_5 x.f5.length c0_5,.slice A0_6 x.f6.length c0_6] 27,row qC.k 87 (.slice A11 t8.length c12) l17]∧Rd qA.k F19 A1_4 c1_4 y.f4∧Rd qI.k F19 A1_5 c1_5 y.f5∧Rd qC.k F19 A1_6 c1_6 y.f6∧Rd qA.k F19 A0_4 c0_4 x.f4∧Rd qI.k F19 A0_5 c0_5 x.f5∧Rd qC.k F19 A0_6 c0_6 x.f6∧qBF.l20 kq21 x y t8 l17 x18=some r) k ⟨_,t8,0,F10,Nat.le_refl _,E,.of,S,g1_4,g1_5,g1_6,g0_4,g0_5,g0_6,H⟩ ?_
 rintro kq21 a u23 ⟨G,l17,x18,F19,hkq,E,A,S,g1_4,g1_5,g1_6,g0_4,g0_5,g0_6,H⟩
 obtain _ | k22:=kq21
 exact zz H
 rw [qBF.l20_s]at H
 obtain ⟨J,E⟩:=E.at A
 refine rr E fun a E=>(sq fun K25 hK25=>E.ik 16 H (fun c26 E H=>?_) fun c26 E H=>?_)
 refine wp_skip (hK25 _ _ (sq fun K27 hK27=>wp_block (sq fun K28 hK28=>pl0 ?_)))
 obtain ⟨c29,H⟩:=gd H
 have hr30:=S.ra 2
 have c31:0≤x18∧x18<(l17.length:Int):=by rw [← (qCN hr30).1]; exact c29
 have hE_:=E
 obtain ⟨b32,rfl⟩:=qCP hr30 c31.1 c31.2
 replace E:=hE_
 have hr_:=S.ra 2
 obtain ⟨cs34,⟨A36,c37,rfl,g38⟩,hc35⟩:=qCO hr_ qC.z x18 c31.1 c31.2
 refine plc E (.r 0 1<|.x 1 c29<|.cs 2 hc35<|.nil) (fun a E=>pla (t:=87) E S [iv 0,.slice none 0 0] fun b39 u40 hb39 S a E=>plc E (.r 4 1 .nil) (fun a E=>pls E S [iv ((nth qC.z l17 x18).f0),.slice A36 (((nth qC.z l17 x18).f1).length) c37] fun u41 hb39 S a E=>pld (hK28 _ _ (sq fun K42 hK42=>?_))))
 refine drawn 6 ⟨[4],[],fun q=>False⟩ mixed rfl (by kernel_rfl) (fun hst=>?_)
 replace S:=S.drew
 have hb2:=S.ba 2
 refine mny 3 hst E (.bn 0 0 7 hb2<|.bn 1 0 7 hb2<|.r 2 1<|.nil) (fun a E=>?_)
 obtain ⟨t44,h45,H⟩:=bd H
 refine on1 3 E (.cl en162 (qBt.calls k22 x x18 _ _ _ _ _ _ _ _ _ S.own.sub g0_4 g0_5 g0_6 h45)) ?_
 rintro _ u43 a ⟨F46,A47,c48,rfl,hC⟩ E
 refine ⟨.of hC.agr,?_⟩
 have hs:=hC.sub
 replace S:=S.called (X:=[]) hC
 replace g38:=g38.mono hs
 replace g0_4:=g0_4.mono hs
 replace g0_5:=g0_5.mono hs
 replace g0_6:=g0_6.mono hs
 replace g1_4:=g1_4.mono hs
 replace g1_5:=g1_5.mono hs
 replace g1_6:=g1_6.mono hs
 obtain ⟨t52,h53,H⟩:=bd H
 refine on1 4 E (.cl en118 (qBw.calls k22 x t44 _ _ _ _ _ _ _ _ _ _ _ (Own.left (X:=[row ki 3 (.slice A47 t44.length c48) t44]) S.own) g0_4 g0_5 g0_6 h53)) ?_
 rintro _ u51 a ⟨F54,A55,c56,rfl,hC⟩ E
 refine ⟨.d,?_⟩
 have hs:=hC.sub
 replace S:=S.called (X:=[row ki 3 (.slice A47 t44.length c48) t44]) hC
 replace g38:=g38.mono hs
 replace g0_4:=g0_4.mono hs
 replace g0_5:=g0_5.mono hs
 replace g0_6:=g0_6.mono hs
 replace g1_4:=g1_4.mono hs
 replace g1_5:=g1_5.mono hs
 replace g1_6:=g1_6.mono hs
 refine mny 0 hst E (.r 5 1 .nil) (fun a E=>?_)
 refine dn ?_
 refine hK42 _ _ (sq fun K59 hK59=>sq fun K60 hK60=>?_)
 refine drawn 7 ⟨[5],[],fun q=>False⟩ mixed rfl (by kernel_rfl) (fun hst=>?_)
 replace S:=S.drew
 have hb4:=S.ba 2
 refine mny 3 hst E (.r 0 1<|.bn 1 0 7 hb4<|.bn 2 0 7 hb4<|.r 3 1<|.nil) (fun a E=>?_)
 obtain ⟨t62,h63,H⟩:=bd H
 refine on1 4 E (.cl en162 (qBt.calls k22 y x18 _ _ _ _ _ _ _ _ _ S.own.sub g1_4 g1_5 g1_6 h63)) ?_
 rintro _ u61 a ⟨F64,A65,c66,rfl,hC⟩ E
 refine ⟨.of hC.agr,?_⟩
 have hs:=hC.sub
 replace S:=S.called (X:=[]) hC
 replace g38:=g38.mono hs
 replace g0_4:=g0_4.mono hs
 replace g0_5:=g0_5.mono hs
 replace g0_6:=g0_6.mono hs
 replace g1_4:=g1_4.mono hs
 replace g1_5:=g1_5.mono hs
 replace g1_6:=g1_6.mono hs
 obtain ⟨t70,h71,H⟩:=bd H
 refine on1 5 E (.cl en118 (qBw.calls k22 y t62 _ _ _ _ _ _ _ _ _ _ _ (Own.left (X:=[row ki 3 (.slice A65 t62.length c66) t62]) S.own) g1_4 g1_5 g1_6 h71)) ?_
 rintro _ u69 a ⟨F72,A73,c74,rfl,hC⟩ E
 refine ⟨.d,?_⟩
 have hs:=hC.sub
 replace S:=S.called (X:=[row ki 3 (.slice A65 t62.length c66) t62]) hC
 replace g38:=g38.mono hs
 replace g0_4:=g0_4.mono hs
 replace g0_5:=g0_5.mono hs
 replace g0_6:=g0_6.mono hs
 replace g1_4:=g1_4.mono hs
 replace g1_5:=g1_5.mono hs
 replace g1_6:=g1_6.mono hs
 obtain ⟨t78,h79,H⟩:=bd H
 refine on1 6 E (.cl en77 (qr.calls k22 t52 t70 _ _ _ _ _ _ _ (Sub.refl _) (S.rd_at (i:=1) rfl) (S.rd_at (i:=0) rfl) h79)) ?_
 rintro _ u77 a ⟨_,rfl,hC⟩ E
 refine ⟨.of hC.agr,?_⟩
 replace S:=S.lent hC
 refine dn ?_
 refine hK60 _ _ (E.ib 31 H (fun c80 E H=>?_) fun c80 E H=>?_)
 refine wp_exit ?_
 refine hK27 _ _ (pl0 (plc E (.r 0 2 .nil) (fun a E=>pld ?_)))
 replace S:=S.pm [] 3
 exact qCM ⟨k22,by omega,_,l17,(w64 (x18+1)),F72,by omega,E,.of,S,g1_4,g1_5,g1_6,g0_4,g0_5,g0_6,H⟩
 refine wp_skip (hK59 _ _ (sq fun K81 hK81=>sq fun K82 hK82=>pl0 ?_))
 have hb2:=S.ba 4
 refine plc E (.r 0 3<|.b 3 2 hb2<|.r 4 1<|.nil) (fun a E=>pld (hK82 _ _ (E.ik 36 H (fun c83 E H=>?_) fun c83 E H=>?_)))
 refine sq fun K84 hK84=>?_
 refine drawn 8 ⟨[7],[],fun q=>False⟩ mixed rfl (by kernel_rfl) (fun hst=>?_)
 replace S:=S.drew
 have hb39:=S.ba 2
 refine mny 5 hst E (.r 0 1<|.b 1 0 hb39<|.r 2 1<|.nil) (fun a E=>?_)
 exact zz H
 refine wp_skip (hK81 _ _ (sq fun K85 hK85=>pl0 (plc E (.r 0 1<|.b 1 0 hb2<|.r 2 2<|.nil) (fun a E=>?_))))
 replace S:=S.front 2 rfl
 refine pls E S [iv (w64 (x.f0+1)),.slice A36 (((nth qC.z l17 x18).f1).length) c37] fun u86 hb39 S a E=>pld (hK85 _ _ (pl0 ?_))
 have hr87:=S.ra 5
 have c88:0≤x18∧x18<(l17.length:Int):=by rw [← (qCN hr87).1]; exact c29
 have hr_:=S.ra 5
 obtain ⟨cs90,⟨A92,c93,rfl,g94⟩,hc91⟩:=qCO hr_ qC.z x18 c88.1 c88.2
 refine plc E (.r 0 2<|.bn 2 0 2 hb39<|.x 3 c29<|.nil) (fun a E=>?_)
 replace S:=S.front 5 rfl
 obtain ⟨cs99,⟨A96,c97,rfl,g98⟩,hc100⟩:=qCO (S.row_at (i:=0) rfl) qC.z x18 c88.1 c88.2
 refine ple E (.set (d:=qC.k) (n:=t8.length) (i:=x18) (⟨(w64 (x.f0+1)),(nth qC.z l17 x18).f1⟩:qC) (0) (ea0 _ _) S c88 [iv ((nth qC.z l17 x18).f0),.slice A96 (((nth qC.z l17 x18).f1).length) c97] hc100 [iv (w64 (x.f0+1)),.slice A36 (((nth qC.z l17 x18).f1).length) c37] ⟨_,_,rfl,g38⟩) ?_
 rintro _ u95 a ⟨rfl,S,hz⟩ E
 refine pld ?_
 refine qCL ?_
 refine hK27 _ _ (pl0 (plc E (.r 0 2 .nil) (fun a E=>pld ?_)))
 replace S:=S.pm [4,5,0] 6
 exact qCM ⟨k22,by omega,_,(l17.set (x18).toNat (⟨(w64 (x.f0+1)),(nth qC.z l17 x18).f1⟩:qC)),(w64 (x18+1)),F72,by omega,E,.of,S,g1_4,g1_5,g1_6,g0_4,g0_5,g0_6,H⟩
 refine wp_exit ?_
 refine hK15 _ _ (rr E fun a E=>(wp_ret ?_))
 have hn102:=(qCN (S.row_at (i:=2) rfl)).1
 replace E:=E.set (d:=4) (v:=.slice A11 l17.length c12) (Eq.trans (b:=.slice A11 t8.length c12) (by kernel_rfl) (by rw [← hn102]))
 replace S:Sm W F u23 F19 [box b4 #[iv y.f0,iv y.f1,iv y.f2,iv y.f3,.slice A1_4 y.f4.length c1_4,.slice A1_5 y.f5.length c1_5,.slice A1_6 y.f6.length c1_6] 27,box b2 #[iv x.f0,iv x.f1,iv x.f2,iv x.f3,.slice A0_4 x.f4.length c0_4,.slice A0_5 x.f5.length c0_5,.slice A0_6 x.f6.length c0_6] 27,row qC.k 87 (.slice A11 l17.length c12) l17]:=by rw [← hn102]; exact S
 replace S:=S.pm [] 2
 obtain rfl:=si H
 exact rt1 E ⟨_,rfl,_,_,_,rfl,S⟩
def qBB.j21:Nat→qF→qE→Bool→Option (qF × Int)
 | 0,_,_,_=>none
 | k+1,x,y,y20=>if y20=true then ((qAo.f k x).bind fun t29=>(some (t29,1))) else (if x.f0=2147483647 then ((qAo.f k x).bind fun t53=>(some (t53,6))) else ((qAo.f k x).bind fun t77=>((qBo.f k t77 y).bind fun t95=>(if t95.2=0 then ((qBF.f k x t95.1).bind fun t149=>(some ((⟨(w64 (t95.1.f0+1)),t95.1.f1,t95.1.f2,t95.1.f3,t95.1.f4,t95.1.f5,t149⟩:qF),0))) else ((qAo.f k x).bind fun t125=>(some (t125,t95.2)))))))
theorem qBB.j21_s k x y y20:type_of% (qBB.j21.eq_2 x y y20 k):=qBB.j21.eq_2 x y y20 k
def qBB.f(k:Nat)(x:qF)(y:qE):Option (qF × Int):=(qt.f k x).bind fun t11=>(if t11=0 then (if y.f0<1 then (qBB.j21 k x y true) else (if y.f0≥11 then (qBB.j21 k x y true) else ((qCD.f y).bind fun t18=>(qBB.j21 k x y (!t18))))) else (some ((⟨0,0,0,0,[],[],[]⟩:qF),1)))
def qBB.Post(W F:World)(r:qF × Int)(v:Value)(w':World):Prop:=∃(F':World)(RA0_4:OA)(rc0_4:Nat)(RA0_5:OA)(rc0_5:Nat)(RA0_6:OA)(rc0_6:Nat),v = .tuple #[.agg #[iv r.1.f0,iv r.1.f1,iv r.1.f2,iv r.1.f3,.slice RA0_4 r.1.f4.length rc0_4,.slice RA0_5 r.1.f5.length rc0_5,.slice RA0_6 r.1.f6.length rc0_6],iv r.2]∧Sm W F w' F' [row qC.k 87 (.slice RA0_6 r.1.f6.length rc0_6) r.1.f6]∧Rd qA.k F' RA0_4 rc0_4 r.1.f4∧Rd qI.k F' RA0_5 rc0_5 r.1.f5
theorem qBB.calls(k:Nat)(x:qF)(y:qE)(A0_4:OA)(c0_4:Nat)(A0_5:OA)(c0_5:Nat)(A0_6:OA)(c0_6:Nat)(A1_6:OA)(c1_6:Nat)(r:qF × Int)(W F:World)(hown:Sub F W)(g0_4:Rd qA.k F A0_4 c0_4 x.f4)(g0_5:Rd qI.k F A0_5 c0_5 x.f5)(g0_6:Rd qC.k F A0_6 c0_6 x.f6)(g1_6:Rd ki F A1_6 c1_6 y.f6)(H:qBB.f k x y=some r):
    Cr 87 #[.agg #[iv x.f0,iv x.f1,iv x.f2,iv x.f3,.slice A0_4 x.f4.length c0_4,.slice A0_5 x.f5.length c0_5,.slice A0_6 x.f6.length c0_6],.agg #[iv y.f0,iv y.f1,iv y.f2,iv y.f3,iv y.f4,iv y.f5,.slice A1_6 y.f6.length c1_6]] W (qBB.Post W F r):=by
 have S:=sT hown
 unfold qBB.f at H
 refine ent 56 rfl rfl rfl (fun a E=>?_)
 refine sq fun K1 hK1=>pl0 (plx (t:=27) E S [iv x.f0,iv x.f1,iv x.f2,iv x.f3,.slice A0_4 x.f4.length c0_4,.slice A0_5 x.f5.length c0_5,.slice A0_6 x.f6.length c0_6] fun b2 u3 hb2 S a E=>plx (t:=96) E S [iv y.f0,iv y.f1,iv y.f2,iv y.f3,iv y.f4,iv y.f5,.slice A1_6 y.f6.length c1_6] fun b4 u5 hb4 S a E=>pla (t:=27) E S [iv 0,iv 0,iv 0,iv 0,.slice none 0 0,.slice none 0 0,.slice none 0 0] fun b6 u7 hb6 S a E=>plc E (.r 3 1 .nil) (fun a E=>pld (hK1 _ _ (sq fun K8 hK8=>wp_block (sq fun K9 hK9=>pl0 ?_)))))
 have hb2:=S.ba 2
 refine plc E (.bn 0 0 7 hb2 .nil) (fun a E=>?_)
 obtain ⟨t11,h12,H⟩:=bd H
 refine plq E S en37 (qt.calls k x _ _ _ _ _ _ _ _ _ S.own.sub g0_4 g0_5 g0_6 h12) fun u10 S a E=>plc E (.r 2 2 .nil) (fun a E=>pld (hK9 _ _ (E.ikn 8 H (fun c13 E H=>?_) fun c13 E H=>?_)))
 refine sq fun K14 hK14=>?_
 have J24:∀ kq22,kq22≤k→∀(G:NV)(y20:Bool)(a:Act)(w':World),Env 56 G a→At G [(2,.pointer (pb b2)),(3,.pointer (pb b4)),(4,.pointer (pb b6)),(13,.bool y20)]→Sm W F w' F [box b6 #[iv 0,iv 0,iv 0,iv 0,.slice none 0 0,.slice none 0 0,.slice none 0 0] 27,box b4 #[iv y.f0,iv y.f1,iv y.f2,iv y.f3,iv y.f4,iv y.f5,.slice A1_6 y.f6.length c1_6] 96,box b2 #[iv x.f0,iv x.f1,iv x.f2,iv x.f3,.slice A0_4 x.f4.length c0_4,.slice A0_5 x.f5.length c0_5,.slice A0_6 x.f6.length c0_6] 27]→qBB.j21 kq22 x y y20=some r→K14 a w':=by
  intro kq22 hkq G y20 a u25 E A S H
  obtain _ | k23:=kq22
  exact zz H
  rw [qBB.j21_s]at H
  obtain ⟨J,E⟩:=E.at A
  refine hK14 _ _ (E.ib 13 H (fun c26 E H=>?_) fun c26 E H=>?_)
  refine sq fun K27 hK27=>pl0 (plc E (.bn 0 0 7 (S.ba 2) .nil) (fun a E=>?_))
  obtain ⟨t29,h30,H⟩:=bd H
  refine ple E (.cl en110 (qAo.calls k23 x _ _ _ _ _ _ _ _ _ S.own.sub g0_4 g0_5 g0_6 h30)) ?_
  rintro _ u28 a ⟨F31,A32,c33,A36,c37,A40,c41,rfl,hC⟩ E
  have hs:=hC.sub
  replace S:=S.called (X:=[]) hC
  replace g0_4:=g0_4.mono hs
  replace g0_5:=g0_5.mono hs
  replace g0_6:=g0_6.mono hs
  replace g1_6:=g1_6.mono hs
  replace S:=S.front 3 rfl
  refine pls E S [iv t29.f0,iv t29.f1,iv t29.f2,iv t29.f3,.slice A32 t29.f4.length c33,.slice A36 t29.f5.length c37,.slice A40 t29.f6.length c41] fun u44 hb6 S a E=>plc E (.r 3 1 .nil) (fun a E=>pld (hK27 _ _ (wp_ret (qCK (qCJ ?_)))))
  replace S:=S.front 1 rfl
  obtain ⟨F45,hs,g46,S⟩:=S.give
  replace g0_4:=g0_4.mono hs
  replace g0_5:=g0_5.mono hs
  replace g0_6:=g0_6.mono hs
  replace g1_6:=g1_6.mono hs
  replace S:=S.front 1 rfl
  obtain ⟨F47,hs,g48,S⟩:=S.give
  replace g0_4:=g0_4.mono hs
  replace g0_5:=g0_5.mono hs
  replace g0_6:=g0_6.mono hs
  replace g46:=g46.mono hs
  replace g1_6:=g1_6.mono hs
  replace S:=S.pm [1] 4
  obtain rfl:=si H
  exact rtm E (.b hb6 ag27 sz27 (.t .nil)) ⟨_,rfl,_,_,_,_,_,_,_,rfl,S,g46,g48⟩
  refine sq fun K49 hK49=>pl0 ?_
  have hb2:=S.ba 2
  refine plc E (.r 0 1<|.b 1 0 hb2<|.r 2 2<|.nil) (fun a E=>pld (hK49 _ _ (E.ik 29 H (fun c50 E H=>?_) fun c50 E H=>?_)))
  refine sq fun K51 hK51=>pl0 (plc E (.bn 0 0 7 hb2 .nil) (fun a E=>?_))
  obtain ⟨t53,h54,H⟩:=bd H
  refine ple E (.cl en110 (qAo.calls k23 x _ _ _ _ _ _ _ _ _ S.own.sub g0_4 g0_5 g0_6 h54)) ?_
  rintro _ u52 a ⟨F55,A56,c57,A60,c61,A64,c65,rfl,hC⟩ E
  have hs:=hC.sub
  replace S:=S.called (X:=[]) hC
  replace g0_4:=g0_4.mono hs
  replace g0_5:=g0_5.mono hs
  replace g0_6:=g0_6.mono hs
  replace g1_6:=g1_6.mono hs
  replace S:=S.front 3 rfl
  refine pls E S [iv t53.f0,iv t53.f1,iv t53.f2,iv t53.f3,.slice A56 t53.f4.length c57,.slice A60 t53.f5.length c61,.slice A64 t53.f6.length c65] fun u68 hb6 S a E=>plc E (.r 3 1 .nil) (fun a E=>pld (hK51 _ _ (wp_ret (qCK (qCJ ?_)))))
  replace S:=S.front 1 rfl
  obtain ⟨F69,hs,g70,S⟩:=S.give
  replace g0_4:=g0_4.mono hs
  replace g0_5:=g0_5.mono hs
  replace g0_6:=g0_6.mono hs
  replace g1_6:=g1_6.mono hs
  replace S:=S.front 1 rfl
  obtain ⟨F71,hs,g72,S⟩:=S.give
  replace g0_4:=g0_4.mono hs
  replace g0_5:=g0_5.mono hs
  replace g0_6:=g0_6.mono hs
  replace g70:=g70.mono hs
  replace g1_6:=g1_6.mono hs
  replace S:=S.pm [1] 4
  obtain rfl:=si H
  exact rtm E (.b hb6 ag27 sz27 (.t .nil)) ⟨_,rfl,_,_,_,_,_,_,_,rfl,S,g70,g72⟩
  refine wp_skip ?_
  refine qCL ?_
  refine hK8 _ _ (sq fun K76 hK76=>?_)
  refine drawn 10 ⟨[3,8],[],fun q=>False⟩ mixed rfl (by kernel_rfl) (fun hst=>?_)
  replace S:=S.drew
  have hb2:=S.ba 2
  have hb4:=S.ba 1
  refine mny 8 hst E (.bn 0 0 7 hb2<|.bn 2 0 7 hb4<|.nil) (fun a E=>?_)
  obtain ⟨t77,h78,H⟩:=bd H
  obtain ⟨t95,h96,H⟩:=bd H
  refine meet2 (fun a w'=>∃(G:NV)(b93:Nat)(A103:OA)(c104:Nat)(A107:OA)(c108:Nat)(A110:OA)(c111:Nat)(F117:World),Env 56 G a∧At G [(2,.pointer (pb b2)),(4,.pointer (pb b6)),(6,.pointer (pb b93)),(40,.agg #[iv t95.1.f0,iv t95.1.f1,iv t95.1.f2,iv t95.1.f3,.slice A103 t95.1.f4.length c104,.slice A107 t95.1.f5.length c108,.slice A110 t95.1.f6.length c111]),(41,iv t95.2)]∧Sm W F w' F117 [box b93 #[iv 0,iv 0,iv 0,iv 0,.slice none 0 0,.slice none 0 0,.slice none 0 0] 27,box b6 #[iv 0,iv 0,iv 0,iv 0,.slice none 0 0,.slice none 0 0,.slice none 0 0] 27,box b4 #[iv y.f0,iv y.f1,iv y.f2,iv y.f3,iv y.f4,iv y.f5,.slice A1_6 y.f6.length c1_6] 96,box b2 #[iv x.f0,iv x.f1,iv x.f2,iv x.f3,.slice A0_4 x.f4.length c0_4,.slice A0_5 x.f5.length c0_5,.slice A0_6 x.f6.length c0_6] 27,row qA.k 153 (.slice A103 t95.1.f4.length c104) t95.1.f4]∧Rd qI.k F117 A107 c108 t95.1.f5∧Rd qC.k F117 A110 c111 t95.1.f6∧Rd ki F117 A1_6 c1_6 y.f6∧Rd qA.k F117 A0_4 c0_4 x.f4∧Rd qI.k F117 A0_5 c0_5 x.f5∧Rd qC.k F117 A0_6 c0_6 x.f6) 2 255 ?_ (fun hJb=>?_)
  rintro a u118 ⟨G,b93,A103,c104,A107,c108,A110,c111,F117,E,A,S,g109,g112,g1_6,g0_4,g0_5,g0_6⟩
  obtain ⟨J,E⟩:=E.at A
  refine on1 8 E (.sto S [iv t95.1.f0,iv t95.1.f1,iv t95.1.f2,iv t95.1.f3,.slice A103 t95.1.f4.length c104,.slice A107 t95.1.f5.length c108,.slice A110 t95.1.f6.length c111]) ?_
  rintro _ u119 a ⟨rfl,hb93,S,hz⟩ E
  refine ⟨.d,?_⟩
  refine mny 0 hst E (.r 9 1 .nil) (fun a E=>?_)
  refine dn ?_
  refine hK76 _ _ (sq fun K120 hK120=>rr E fun a E=>(E.ikn 43 H (fun c122 E H=>?_) fun c122 E H=>?_))
  refine wp_skip (hK120 _ _ (sq fun K145 hK145=>pl0 (plc E (.bn 0 0 7 (S.ba 3)<|.bn 1 0 7 hb93<|.nil) (fun a E=>?_))))
  replace S:=S.front 4 rfl
  obtain ⟨F146,hs,g147,S⟩:=S.give
  replace g109:=g109.mono hs
  replace g112:=g112.mono hs
  replace g0_4:=g0_4.mono hs
  replace g0_5:=g0_5.mono hs
  replace g0_6:=g0_6.mono hs
  replace g1_6:=g1_6.mono hs
  obtain ⟨t149,h150,H⟩:=bd H
  refine ple E (.cl en146 (qBF.calls k23 x t95.1 _ _ _ _ _ _ _ _ _ _ _ _ _ _ _ S.own.sub g0_4 g0_5 g0_6 g147 g109 g112 h150)) ?_
  rintro _ u148 a ⟨F151,A152,c153,rfl,hC⟩ E
  have hs:=hC.sub
  replace S:=S.called (X:=[]) hC
  replace g147:=g147.mono hs
  replace g109:=g109.mono hs
  replace g112:=g112.mono hs
  replace g0_4:=g0_4.mono hs
  replace g0_5:=g0_5.mono hs
  replace g0_6:=g0_6.mono hs
  replace g1_6:=g1_6.mono hs
  refine plc E (.r 3 1 .nil) (fun a E=>?_)
  replace S:=S.front 1 rfl
  refine pls E S [iv t95.1.f0,iv t95.1.f1,iv t95.1.f2,iv t95.1.f3,.slice A103 t95.1.f4.length c104,.slice A107 t95.1.f5.length c108,.slice A152 t149.length c153] fun u156 hb93 S a E=>pld (hK145 _ _ (sq fun K157 hK157=>pl0 (plc E (.r 0 1<|.b 1 0 hb93<|.r 2 2<|.nil) (fun a E=>pls E S [iv (w64 (t95.1.f0+1)),iv t95.1.f1,iv t95.1.f2,iv t95.1.f3,.slice A103 t95.1.f4.length c104,.slice A107 t95.1.f5.length c108,.slice A152 t149.length c153] fun u158 hb93 S a E=>pld (hK157 _ _ (sq fun K159 hK159=>pl0 (plc E (.bn 0 0 7 hb93 .nil) (fun a E=>?_))))))))
  replace S:=S.front 2 rfl
  refine pls E S [iv (w64 (t95.1.f0+1)),iv t95.1.f1,iv t95.1.f2,iv t95.1.f3,.slice A103 t95.1.f4.length c104,.slice A107 t95.1.f5.length c108,.slice A152 t149.length c153] fun u160 hb6 S a E=>plc E (.r 2 1 .nil) (fun a E=>pld (hK159 _ _ (wp_ret ?_)))
  replace S:=S.pm [2] 5
  obtain rfl:=si H
  exact rtm E (.b hb6 ag27 sz27 (.t .nil)) ⟨_,rfl,_,_,_,_,_,_,_,rfl,S,g147,g109⟩
  refine sq fun K123 hK123=>pl0 (plc E (.bn 0 0 7 (S.ba 3) .nil) (fun a E=>?_))
  obtain ⟨t125,h126,H⟩:=bd H
  refine ple E (.cl en110 (qAo.calls k23 x _ _ _ _ _ _ _ _ _ S.own.sub g0_4 g0_5 g0_6 h126)) ?_
  rintro _ u124 a ⟨F127,A128,c129,A132,c133,A136,c137,rfl,hC⟩ E
  have hs:=hC.sub
  replace S:=S.called (X:=[]) hC
  replace g109:=g109.mono hs
  replace g112:=g112.mono hs
  replace g0_4:=g0_4.mono hs
  replace g0_5:=g0_5.mono hs
  replace g0_6:=g0_6.mono hs
  replace g1_6:=g1_6.mono hs
  refine plc E (.r 2 1 .nil) (fun a E=>?_)
  replace S:=S.front 4 rfl
  refine pls E S [iv t125.f0,iv t125.f1,iv t125.f2,iv t125.f3,.slice A128 t125.f4.length c129,.slice A132 t125.f5.length c133,.slice A136 t125.f6.length c137] fun u140 hb6 S a E=>plc E (.r 4 1 .nil) (fun a E=>pld (hK123 _ _ (wp_ret (qCJ ?_))))
  replace S:=S.front 1 rfl
  obtain ⟨F141,hs,g142,S⟩:=S.give
  replace g109:=g109.mono hs
  replace g112:=g112.mono hs
  replace g0_4:=g0_4.mono hs
  replace g0_5:=g0_5.mono hs
  replace g0_6:=g0_6.mono hs
  replace g1_6:=g1_6.mono hs
  replace S:=S.front 1 rfl
  obtain ⟨F143,hs,g144,S⟩:=S.give
  replace g109:=g109.mono hs
  replace g112:=g112.mono hs
  replace g0_4:=g0_4.mono hs
  replace g0_5:=g0_5.mono hs
  replace g0_6:=g0_6.mono hs
  replace g142:=g142.mono hs
  replace g1_6:=g1_6.mono hs
  replace S:=S.pm [1] 6
  obtain rfl:=si H
  exact rtm E (.b hb6 ag27 sz27 (.t .nil)) ⟨_,rfl,_,_,_,_,_,_,_,rfl,S,g142,g144⟩
  refine meet2 (fun a w'=>∃(G:NV)(b93:Nat)(A81:OA)(c82:Nat)(A85:OA)(c86:Nat)(A89:OA)(c90:Nat)(F114:World),Env 56 G a∧At G [(2,.pointer (pb b2)),(4,.pointer (pb b6)),(6,.pointer (pb b93)),(37,.agg #[iv t77.f0,iv t77.f1,iv t77.f2,iv t77.f3,.slice A81 t77.f4.length c82,.slice A85 t77.f5.length c86,.slice A89 t77.f6.length c90]),(38,.agg #[iv y.f0,iv y.f1,iv y.f2,iv y.f3,iv y.f4,iv y.f5,.slice A1_6 y.f6.length c1_6])]∧Sm W F w' F114 [box b93 #[iv 0,iv 0,iv 0,iv 0,.slice none 0 0,.slice none 0 0,.slice none 0 0] 27,box b6 #[iv 0,iv 0,iv 0,iv 0,.slice none 0 0,.slice none 0 0,.slice none 0 0] 27,box b4 #[iv y.f0,iv y.f1,iv y.f2,iv y.f3,iv y.f4,iv y.f5,.slice A1_6 y.f6.length c1_6] 96,box b2 #[iv x.f0,iv x.f1,iv x.f2,iv x.f3,.slice A0_4 x.f4.length c0_4,.slice A0_5 x.f5.length c0_5,.slice A0_6 x.f6.length c0_6] 27,row qA.k 153 (.slice A81 t77.f4.length c82) t77.f4,row qI.k 84 (.slice A85 t77.f5.length c86) t77.f5,row qC.k 87 (.slice A89 t77.f6.length c90) t77.f6]∧Rd ki F114 A1_6 c1_6 y.f6∧Rd qA.k F114 A0_4 c0_4 x.f4∧Rd qI.k F114 A0_5 c0_5 x.f5∧Rd qC.k F114 A0_6 c0_6 x.f6) 6 135 ?_ (fun hJ=>?_)
  rintro a u115 ⟨G,b93,A81,c82,A85,c86,A89,c90,F114,E,A,S,g1_6,g0_4,g0_5,g0_6⟩
  obtain ⟨J,E⟩:=E.at A
  replace S:=S.front 5 rfl
  obtain ⟨F97,hs,g98,S⟩:=S.give
  replace g1_6:=g1_6.mono hs
  replace g0_4:=g0_4.mono hs
  replace g0_5:=g0_5.mono hs
  replace g0_6:=g0_6.mono hs
  replace S:=S.front 5 rfl
  obtain ⟨F99,hs,g100,S⟩:=S.give
  replace g98:=g98.mono hs
  replace g1_6:=g1_6.mono hs
  replace g0_4:=g0_4.mono hs
  replace g0_5:=g0_5.mono hs
  replace g0_6:=g0_6.mono hs
  replace S:=S.front 4 rfl
  refine on1 3 E (.cl en145 (qBo.calls k23 t77 y _ _ _ _ _ _ _ _ _ _ _ (Own.left (X:=[row qA.k 153 (.slice A81 t77.f4.length c82) t77.f4]) S.own) g98 g100 g1_6 h96)) ?_
  rintro _ u101 a ⟨F102,A103,c104,A107,c108,A110,c111,rfl,hC,g109,g112⟩ E
  refine ⟨.d,?_⟩
  have hs:=hC.sub
  replace S:=S.called (X:=[row qA.k 153 (.slice A81 t77.f4.length c82) t77.f4]) hC
  replace g98:=g98.mono hs
  replace g100:=g100.mono hs
  replace g1_6:=g1_6.mono hs
  replace g0_4:=g0_4.mono hs
  replace g0_5:=g0_5.mono hs
  replace g0_6:=g0_6.mono hs
  refine mny 2 hst E (.r 4 3 .nil) (fun a E=>?_)
  replace S:=S.pm [1,2,3,4,0] 5
  exact hJb _ _ ⟨_,b93,A103,c104,A107,c108,A110,c111,F102,E,.of,S,g109,g112,g1_6,g0_4,g0_5,g0_6⟩
  refine pk2 1 7 ?_ ?_
  refine pk1 1 E (.cl en110 (qAo.calls k23 x _ _ _ _ _ _ _ _ _ S.own.sub g0_4 g0_5 g0_6 h78)) ?_
  rintro _ u79 a ⟨F80,A81,c82,A85,c86,A89,c90,rfl,hC⟩ E
  refine ⟨.of hC.agr,?_⟩
  have hs:=hC.sub
  replace S:=S.called (X:=[]) hC
  replace g0_4:=g0_4.mono hs
  replace g0_5:=g0_5.mono hs
  replace g0_6:=g0_6.mono hs
  replace g1_6:=g1_6.mono hs
  refine pk2 7 3 ?_ ?_
  refine pk1 7 E (.al (t:=27) S [iv 0,iv 0,iv 0,iv 0,.slice none 0 0,.slice none 0 0,.slice none 0 0]) ?_
  rintro _ u94 a ⟨b93,rfl,hb93,S,hg⟩ E
  refine ⟨.of hg,?_⟩
  replace S:=S.pm [0,4,5,6,1,2,3] 7
  exact hJ _ _ ⟨_,b93,A81,c82,A85,c86,A89,c90,F80,E,.of,S,g1_6,g0_4,g0_5,g0_6⟩
  replace S:=S.front 1 rfl
  obtain ⟨F97,hs,g98,S⟩:=S.give
  replace g0_4:=g0_4.mono hs
  replace g0_5:=g0_5.mono hs
  replace g0_6:=g0_6.mono hs
  replace g1_6:=g1_6.mono hs
  replace S:=S.front 1 rfl
  obtain ⟨F99,hs,g100,S⟩:=S.give
  replace g0_4:=g0_4.mono hs
  replace g0_5:=g0_5.mono hs
  replace g0_6:=g0_6.mono hs
  replace g98:=g98.mono hs
  replace g1_6:=g1_6.mono hs
  refine pk1 3 E (.cl en145 (qBo.calls k23 t77 y _ _ _ _ _ _ _ _ _ _ _ (Own.left (X:=[row qA.k 153 (.slice A81 t77.f4.length c82) t77.f4]) S.own) g98 g100 g1_6 h96)) ?_
  rintro _ u101 a ⟨F102,A103,c104,A107,c108,A110,c111,rfl,hC,g109,g112⟩ E
  refine ⟨.d,?_⟩
  have hs:=hC.sub
  replace S:=S.called (X:=[row qA.k 153 (.slice A81 t77.f4.length c82) t77.f4]) hC
  replace g0_4:=g0_4.mono hs
  replace g0_5:=g0_5.mono hs
  replace g0_6:=g0_6.mono hs
  replace g98:=g98.mono hs
  replace g100:=g100.mono hs
  replace g1_6:=g1_6.mono hs
  refine mny 3 hst E (.r 4 3 .nil) (fun a E=>?_)
  refine on1 7 E (.al (t:=27) S [iv 0,iv 0,iv 0,iv 0,.slice none 0 0,.slice none 0 0,.slice none 0 0]) ?_
  rintro _ u94 a ⟨b93,rfl,hb93,S,hg⟩ E
  refine ⟨.of hg,?_⟩
  replace S:=S.pm [0,2,3,4,1] 5
  exact hJb _ _ ⟨_,b93,A103,c104,A107,c108,A110,c111,F102,E,.of,S,g109,g112,g1_6,g0_4,g0_5,g0_6⟩
  refine pk1 7 E (.al (t:=27) S [iv 0,iv 0,iv 0,iv 0,.slice none 0 0,.slice none 0 0,.slice none 0 0]) ?_
  rintro _ u94 a ⟨b93,rfl,hb93,S,hg⟩ E
  refine ⟨.of hg,?_⟩
  refine on1 1 E (.cl en110 (qAo.calls k23 x _ _ _ _ _ _ _ _ _ S.own.sub g0_4 g0_5 g0_6 h78)) ?_
  rintro _ u79 a ⟨F80,A81,c82,A85,c86,A89,c90,rfl,hC⟩ E
  refine ⟨.of hC.agr,?_⟩
  have hs:=hC.sub
  replace S:=S.called (X:=[]) hC
  replace g0_4:=g0_4.mono hs
  replace g0_5:=g0_5.mono hs
  replace g0_6:=g0_6.mono hs
  replace g1_6:=g1_6.mono hs
  replace S:=S.pm [3,4,5,6,0,1,2] 7
  exact hJ _ _ ⟨_,b93,A81,c82,A85,c86,A89,c90,F80,E,.of,S,g1_6,g0_4,g0_5,g0_6⟩
 refine pl0 ?_
 have hb4:=S.ba 1
 refine plc E (.r 0 1<|.b 1 0 hb4<|.r 2 2<|.nil) (fun a E=>E.fk 17 H (fun c15 E H=>?_) fun c15 E H=>?_)
 refine plc E (.r 4 10 .nil) (fun a E=>pld ?_)
 exact J24 _ (by omega) _ true _ _ E .of S H
 refine plc E (.r 4 1<|.b 5 0 hb4<|.r 6 3<|.nil) (fun a E=>E.fk 22 H (fun c16 E H=>?_) fun c16 E H=>?_)
 refine plc E (.r 9 5 .nil) (fun a E=>pld ?_)
 exact J24 _ (by omega) _ true _ _ E .of S H
 refine plc E (.bn 9 0 7 hb4 .nil) (fun a E=>?_)
 obtain ⟨t18,h19,H⟩:=bd H
 refine plq E S en144 (qCD.calls y _ _ _ _ _ S.own.sub g1_6 h19) fun u17 S a E=>plc E (.r 11 3 .nil) (fun a E=>pld ?_)
 exact J24 _ (by omega) _ (!t18) _ _ E .of S H
 refine sq fun K73 hK73=>pl0 (plc E (.r 0 1 .nil) (fun a E=>pls E S [iv 0,iv 0,iv 0,iv 0,.slice none 0 0,.slice none 0 0,.slice none 0 0] fun u74 hb6 S a E=>plc E (.r 2 1 .nil) (fun a E=>pld (hK73 _ _ (wp_ret (qCK (qCJ ?_)))))))
 replace S:=S.nilrow qC.k 87
 replace S:=S.pm [0] 4
 obtain rfl:=si H
 exact rtm E (.b hb6 ag27 sz27 (.t .nil)) ⟨_,rfl,_,_,_,_,_,_,_,rfl,S,(Rd.nil _ _),(Rd.nil _ _)⟩
def qAc.l42:Nat→Int→Int→Int→Int→Int→Int→List qA→List qI→List qC→Option qF
 | 0,_,_,_,_,_,_,_,_,_=>none
 | k+1,x,x25,x26,x27,x28,x29,l32,l36,l40=>if x25≤x then ((qBB.f k (⟨x26,x27,x28,x29,l32,l36,l40⟩:qF) (⟨1,x25,x25,1,1,0,[]⟩:qE)).bind fun t54=>((qBB.f k t54.1 (⟨3,x25,0,0,0,0,[]⟩:qE)).bind fun t71=>(qAc.l42 k x (w64 (x25+1)) t71.1.f0 t71.1.f1 t71.1.f2 t71.1.f3 t71.1.f4 t71.1.f5 t71.1.f6))) else (some (⟨x26,x27,x28,x29,l32,l36,l40⟩:qF))
theorem qAc.l42_s k x x25 x26 x27 x28 x29 l32 l36 l40:type_of% (qAc.l42.eq_2 x x25 x26 x27 x28 x29 l32 l36 l40 k):=qAc.l42.eq_2 x x25 x26 x27 x28 x29 l32 l36 l40 k
def qAc.f(k:Nat)(x:Int)(y:Int):Option qF:=(qCE.f k 3 y 1).bind fun t6=>(qAc.l42 k x 1 t6.1.f0 t6.1.f1 t6.1.f2 t6.1.f3 t6.1.f4 t6.1.f5 t6.1.f6)
def qAc.Post(W F:World)(r:qF)(v:Value)(w':World):Prop:=∃(F':World)(RA0_4:OA)(rc0_4:Nat)(RA0_5:OA)(rc0_5:Nat)(RA0_6:OA)(rc0_6:Nat),v = .agg #[iv r.f0,iv r.f1,iv r.f2,iv r.f3,.slice RA0_4 r.f4.length rc0_4,.slice RA0_5 r.f5.length rc0_5,.slice RA0_6 r.f6.length rc0_6]∧Sm W F w' F' [row qC.k 87 (.slice RA0_6 r.f6.length rc0_6) r.f6]∧Rd qA.k F' RA0_4 rc0_4 r.f4∧Rd qI.k F' RA0_5 rc0_5 r.f5
theorem qAc.calls(k:Nat)(x:Int)(y:Int)(r:qF)(W F:World)(hown:Sub F W)(H:qAc.f k x y=some r):
    Cr 49 #[iv x,iv y] W (qAc.Post W F r):=by
 have S:=sT hown
 unfold qAc.f at H
 refine ent 34 rfl rfl rfl (fun a E=>?_)
 refine sq fun K1 hK1=>pl0 (pla (t:=27) E S [iv 0,iv 0,iv 0,iv 0,.slice none 0 0,.slice none 0 0,.slice none 0 0] fun b2 u3 hb2 S a E=>pld (hK1 _ _ (sq fun K4 hK4=>pl0 (plc E (.r 0 1 .nil) (fun a E=>?_)))))
 obtain ⟨t6,h7,H⟩:=bd H
 refine ple E (.cl en112 (qCE.calls k 3 y 1 _ _ _ S.own.sub h7)) ?_
 rintro _ u5 a ⟨F8,A9,c10,A12,c13,A15,c16,rfl,hC,g11,g14⟩ E
 have hs:=hC.sub
 replace S:=S.called (X:=[]) hC
 refine plc E (.r 2 3 .nil) (fun a E=>pla (t:=27) E S [iv 0,iv 0,iv 0,iv 0,.slice none 0 0,.slice none 0 0,.slice none 0 0] fun b19 u20 hb19 S a E=>pls E S [iv t6.1.f0,iv t6.1.f1,iv t6.1.f2,iv t6.1.f3,.slice A9 t6.1.f4.length c10,.slice A12 t6.1.f5.length c13,.slice A15 t6.1.f6.length c16] fun u21 hb19 S a E=>plc E (.r 7 1 .nil) (fun a E=>pld (hK4 _ _ (sq fun K22 hK22=>rr E fun a E=>(wp_block ?_)))))
 replace S:=S.pm [0,2,1] 3
 refine wp_loop_ghost (fun kq43 a w'=>∃(G:NV)(x25:Int)(x26:Int)(x27:Int)(x28:Int)(x29:Int)(A30:OA)(c31:Nat)(l32:List qA)(A34:OA)(c35:Nat)(l36:List qI)(A38:OA)(c39:Nat)(l40:List qC)(F41:World),kq43≤k∧Env 34 G a∧At G [(0,iv x),(4,.pointer (pb b2)),(5,.pointer (pb b19)),(7,iv x25)]∧Sm W F w' F41 [box b19 #[iv x26,iv x27,iv x28,iv x29,.slice A30 l32.length c31,.slice A34 l36.length c35,.slice A38 l40.length c39] 27,box b2 #[iv 0,iv 0,iv 0,iv 0,.slice none 0 0,.slice none 0 0,.slice none 0 0] 27,row qC.k 87 (.slice A38 l40.length c39) l40]∧Rd qA.k F41 A30 c31 l32∧Rd qI.k F41 A34 c35 l36∧qAc.l42 kq43 x x25 x26 x27 x28 x29 l32 l36 l40=some r) k ⟨_,1,t6.1.f0,t6.1.f1,t6.1.f2,t6.1.f3,A9,c10,t6.1.f4,A12,c13,t6.1.f5,A15,c16,t6.1.f6,F8,Nat.le_refl _,E,.of,S,g11,g14,H⟩ ?_
 rintro kq43 a u45 ⟨G,x25,x26,x27,x28,x29,A30,c31,l32,A34,c35,l36,A38,c39,l40,F41,hkq,E,A,S,g33,g37,H⟩
 obtain _ | k44:=kq43
 exact zz H
 rw [qAc.l42_s]at H
 obtain ⟨J,E⟩:=E.at A
 refine sq fun K46 hK46=>rr E fun a E=>(E.ik 15 H (fun c48 E H=>?_) fun c48 E H=>?_)
 refine wp_skip (hK46 _ _ (sq fun K49 hK49=>wp_block (sq fun K50 hK50=>pl0 (plc E (.bn 0 0 7 (S.ba 0)<|.r 1 3<|.nil) (fun a E=>?_)))))
 replace S:=S.front 2 rfl
 obtain ⟨F51,hs,g52,S⟩:=S.give
 replace g33:=g33.mono hs
 replace g37:=g37.mono hs
 obtain ⟨t54,h55,H⟩:=bd H
 refine ple E (.cl en87 (qBB.calls k44 (⟨x26,x27,x28,x29,l32,l36,l40⟩:qF) (⟨1,x25,x25,1,1,0,[]⟩:qE) _ _ _ _ _ _ _ _ _ _ _ S.own.sub g33 g37 g52 (Rd.nil _ _) h55)) ?_
 rintro _ u53 a ⟨F56,A57,c58,A60,c61,A63,c64,rfl,hC,g59,g62⟩ E
 have hs:=hC.sub
 replace S:=S.called (X:=[]) hC
 replace g33:=g33.mono hs
 replace g37:=g37.mono hs
 replace g52:=g52.mono hs
 refine plc E (.r 5 3 .nil) (fun a E=>?_)
 replace S:=S.front 1 rfl
 refine pls E S [iv t54.1.f0,iv t54.1.f1,iv t54.1.f2,iv t54.1.f3,.slice A57 t54.1.f4.length c58,.slice A60 t54.1.f5.length c61,.slice A63 t54.1.f6.length c64] fun u67 hb19 S a E=>pld (hK50 _ _ (pl0 (plc E (.bn 0 0 7 hb19<|.r 1 2<|.nil) (fun a E=>?_))))
 replace S:=S.front 1 rfl
 obtain ⟨F68,hs,g69,S⟩:=S.give
 replace g59:=g59.mono hs
 replace g62:=g62.mono hs
 replace g33:=g33.mono hs
 replace g37:=g37.mono hs
 replace g52:=g52.mono hs
 obtain ⟨t71,h72,H⟩:=bd H
 refine ple E (.cl en87 (qBB.calls k44 t54.1 (⟨3,x25,0,0,0,0,[]⟩:qE) _ _ _ _ _ _ _ _ _ _ _ S.own.sub g59 g62 g69 (Rd.nil _ _) h72)) ?_
 rintro _ u70 a ⟨F73,A74,c75,A77,c78,A80,c81,rfl,hC,g76,g79⟩ E
 have hs:=hC.sub
 replace S:=S.called (X:=[]) hC
 replace g59:=g59.mono hs
 replace g62:=g62.mono hs
 replace g69:=g69.mono hs
 replace g33:=g33.mono hs
 replace g37:=g37.mono hs
 replace g52:=g52.mono hs
 refine plc E (.r 4 3 .nil) (fun a E=>?_)
 replace S:=S.front 1 rfl
 refine pls E S [iv t71.1.f0,iv t71.1.f1,iv t71.1.f2,iv t71.1.f3,.slice A74 t71.1.f4.length c75,.slice A77 t71.1.f5.length c78,.slice A80 t71.1.f6.length c81] fun u84 hb19 S a E=>pld ?_
 refine qCL ?_
 refine hK49 _ _ (pl0 (plc E (.r 0 3 .nil) (fun a E=>pld ?_)))
 replace S:=S.pm [0,2,1] 3
 exact qCM ⟨k44,by omega,_,(w64 (x25+1)),t71.1.f0,t71.1.f1,t71.1.f2,t71.1.f3,A74,c75,t71.1.f4,A77,c78,t71.1.f5,A80,c81,t71.1.f6,F73,by omega,E,.of,S,g76,g79,H⟩
 refine wp_exit ?_
 refine hK22 _ _ (sq fun K85 hK85=>pl0 (plc E (.bn 0 0 7 (S.ba 0) .nil) (fun a E=>?_)))
 replace S:=S.front 1 rfl
 refine pls E S [iv x26,iv x27,iv x28,iv x29,.slice A30 l32.length c31,.slice A34 l36.length c35,.slice A38 l40.length c39] fun u86 hb2 S a E=>pld (hK85 _ _ (wp_ret ?_))
 replace S:=S.pm [] 2
 obtain rfl:=si H
 exact ret1 E rfl (.cell (by kernel_rfl) (qCW [iv x26,iv x27,iv x28,iv x29,.slice A30 l32.length c31,.slice A34 l36.length c35,.slice A38 l40.length c39] ag27 sz27 hb2 rfl) .nil) ⟨_,rfl,_,_,_,_,_,_,_,rfl,S,g33,g37⟩
def client_in.f(x:Int)(y:Int)(z:Int):Option Bool:=if x≥y then (some (decide (x≤z))) else (some false)
def client_in.Post(W F:World)(r:Bool)(v:Value)(w':World):Prop:=∃(F':World),v = .bool r∧Sm W F w' F' []
theorem client_in.calls(x:Int)(y:Int)(z:Int)(r:Bool)(W F:World)(hown:Sub F W)(H:client_in.f x y z=some r):
    Cr 63 #[iv x,iv y,iv z] W (client_in.Post W F r):=by
 have S:=sT hown
 unfold client_in.f at H
 refine ent 15 rfl rfl rfl (fun a E=>?_)
 refine rr E fun a E=>(sq fun K2 hK2=>pl0 (plc E (.r 0 4 .nil) (fun a E=>E.fk 10 H (fun c3 E H=>?_) fun c3 E H=>?_)))
 refine plc E (.r 4 5 .nil) (fun a E=>pld (hK2 _ _ (wp_ret ?_)))
 obtain rfl:=si H
 exact rt1 E ⟨_,rfl,_,rfl,S⟩
 refine plc E (.r 4 5 .nil) (fun a E=>pld (hK2 _ _ (wp_ret ?_)))
 obtain rfl:=si H
 exact rt1 E ⟨_,rfl,_,rfl,S⟩
def acceptor_in.f(x:Int)(y:Int)(z:Int):Option Bool:=if x≥y then (some (decide (x≤z))) else (some false)
def acceptor_in.Post(W F:World)(r:Bool)(v:Value)(w':World):Prop:=∃(F':World),v = .bool r∧Sm W F w' F' []
theorem acceptor_in.calls(x:Int)(y:Int)(z:Int)(r:Bool)(W F:World)(hown:Sub F W)(H:acceptor_in.f x y z=some r):
    Cr 142 #[iv x,iv y,iv z] W (acceptor_in.Post W F r):=by
 have S:=sT hown
 unfold acceptor_in.f at H
 refine ent 15 rfl rfl rfl (fun a E=>?_)
 refine rr E fun a E=>(sq fun K2 hK2=>pl0 (plc E (.r 0 4 .nil) (fun a E=>E.fk 10 H (fun c3 E H=>?_) fun c3 E H=>?_)))
 refine plc E (.r 4 5 .nil) (fun a E=>pld (hK2 _ _ (wp_ret ?_)))
 obtain rfl:=si H
 exact rt1 E ⟨_,rfl,_,rfl,S⟩
 refine plc E (.r 4 5 .nil) (fun a E=>pld (hK2 _ _ (wp_ret ?_)))
 obtain rfl:=si H
 exact rt1 E ⟨_,rfl,_,rfl,S⟩
def acceptor_bare.j34:Nat→qE→Int→Int→Int→Int→Int→List Int→Option qE
 | 0,_,_,_,_,_,_,_=>none
 | k+1,x,x25,x26,x27,x28,x29,l32=>some (⟨x.f0,x25,x26,x27,x28,x29,l32⟩:qE)
theorem acceptor_bare.j34_s k x x25 x26 x27 x28 x29 l32:type_of% (acceptor_bare.j34.eq_2 x x25 x26 x27 x28 x29 l32 k):=acceptor_bare.j34.eq_2 x x25 x26 x27 x28 x29 l32 k
def acceptor_bare.f(k:Nat)(x:qE):Option qE:=if x.f0=1 then (acceptor_bare.j34 k x x.f1 x.f2 x.f3 x.f4 0 []) else (if x.f0=2 then (acceptor_bare.j34 k x x.f1 0 0 x.f4 0 []) else (if x.f0=8 then (acceptor_bare.j34 k x 0 0 0 0 x.f5 x.f6) else (if x.f0=9 then (acceptor_bare.j34 k x 0 0 0 0 0 []) else (if x.f0=10 then (acceptor_bare.j34 k x 0 0 0 x.f4 x.f5 []) else (acceptor_bare.j34 k x x.f1 0 0 0 0 [])))))
def acceptor_bare.Post(W F:World)(r:qE)(v:Value)(w':World):Prop:=∃(F':World)(RA0_6:OA)(rc0_6:Nat),v = .agg #[iv r.f0,iv r.f1,iv r.f2,iv r.f3,iv r.f4,iv r.f5,.slice RA0_6 r.f6.length rc0_6]∧Sm W F w' F' []∧Rd ki F' RA0_6 rc0_6 r.f6
theorem acceptor_bare.calls(k:Nat)(x:qE)(A0_6:OA)(c0_6:Nat)(r:qE)(W F:World)(hown:Sub F W)(g0_6:Rd ki F A0_6 c0_6 x.f6)(H:acceptor_bare.f k x=some r):
    Cr 143 #[.agg #[iv x.f0,iv x.f1,iv x.f2,iv x.f3,iv x.f4,iv x.f5,.slice A0_6 x.f6.length c0_6]] W (acceptor_bare.Post W F r):=by
 have S:=sT hown
 unfold acceptor_bare.f at H
 refine ent 47 rfl rfl rfl (fun a E=>?_)
 refine sq fun K1 hK1=>pl0 (plx (t:=96) E S [iv x.f0,iv x.f1,iv x.f2,iv x.f3,iv x.f4,iv x.f5,.slice A0_6 x.f6.length c0_6] fun b2 u3 hb2 S a E=>pla (t:=96) E S [iv 0,iv 0,iv 0,iv 0,iv 0,iv 0,.slice none 0 0] fun b4 u5 hb4 S a E=>pld (hK1 _ _ (sq fun K6 hK6=>?_)))
 have J37:∀ kq35,kq35≤k→∀(G:NV)(x25:Int)(x26:Int)(x27:Int)(x28:Int)(x29:Int)(A30:OA)(c31:Nat)(l32:List Int)(a:Act)(w':World),Env 47 G a→At G [(1,.pointer (pb b2)),(2,.pointer (pb b4))]→Sm W F w' F [box b2 #[iv x.f0,iv x25,iv x26,iv x27,iv x28,iv x29,.slice A30 l32.length c31] 96,box b4 #[iv 0,iv 0,iv 0,iv 0,iv 0,iv 0,.slice none 0 0] 96]→Rd ki F A30 c31 l32→acceptor_bare.j34 kq35 x x25 x26 x27 x28 x29 l32=some r→K6 a w':=by
  intro kq35 hkq G x25 x26 x27 x28 x29 A30 c31 l32 a u38 E A S g33 H
  obtain _ | k36:=kq35
  exact zz H
  rw [acceptor_bare.j34_s]at H
  obtain ⟨J,E⟩:=E.at A
  refine hK6 _ _ (sq fun K39 hK39=>pl0 (plc E (.bn 0 0 7 (S.ba 0) .nil) (fun a E=>?_)))
  replace S:=S.front 1 rfl
  refine pls E S [iv x.f0,iv x25,iv x26,iv x27,iv x28,iv x29,.slice A30 l32.length c31] fun u40 hb4 S a E=>pld (hK39 _ _ (wp_ret ?_))
  replace S:=S.pm [] 2
  obtain rfl:=si H
  exact ret1 E rfl (.cell (by kernel_rfl) (qCW [iv x.f0,iv x25,iv x26,iv x27,iv x28,iv x29,.slice A30 l32.length c31] ag96 sz96 hb4 rfl) .nil) ⟨_,rfl,_,_,_,rfl,S,g33⟩
 refine sq fun K7 hK7=>pl0 ?_
 have hb2:=S.ba 1
 refine plc E (.r 0 1<|.b 1 0 hb2<|.nil) (fun a E=>pld (hK7 _ _ (wp_block (rr E fun a E=>(E.ik 10 H (fun c9 E H=>?_) fun c9 E H=>?_)))))
 refine pl0 (plc E (.r 0 1 .nil) (fun a E=>?_))
 replace S:=S.front 1 rfl
 refine pls E S [iv x.f0,iv x.f1,iv x.f2,iv x.f3,iv x.f4,iv 0,.slice A0_6 x.f6.length c0_6] fun u10 hb2 S a E=>plc E (.r 2 1 .nil) (fun a E=>pls E S [iv x.f0,iv x.f1,iv x.f2,iv x.f3,iv x.f4,iv 0,.slice none 0 0] fun u11 hb2 S a E=>pld ?_)
 refine qCL ?_
 exact J37 _ (by omega) _ x.f1 x.f2 x.f3 x.f4 0 none 0 [] _ _ E .of S (Rd.nil _ _) H
 refine rr E fun a E=>(E.ik 14 H (fun c13 E H=>?_) fun c13 E H=>?_)
 refine pl0 (plc E (.r 0 1<|.b 1 0 hb2<|.r 2 1<|.b 3 1 hb2<|.r 4 1<|.b 5 4 hb2<|.r 6 1<|.nil) (fun a E=>?_))
 replace S:=S.front 1 rfl
 refine pls E S [iv x.f0,iv x.f1,iv 0,iv 0,iv x.f4,iv 0,.slice none 0 0] fun u14 hb2 S a E=>pld ?_
 refine qCL ?_
 exact J37 _ (by omega) _ x.f1 0 0 x.f4 0 none 0 [] _ _ E .of S (Rd.nil _ _) H
 refine rr E fun a E=>(E.ik 23 H (fun c16 E H=>?_) fun c16 E H=>?_)
 refine pl0 (plc E (.r 0 1<|.b 1 0 hb2<|.r 2 1<|.b 3 5 hb2<|.r 4 1<|.b 5 6 hb2<|.r 6 1<|.nil) (fun a E=>?_))
 replace S:=S.front 1 rfl
 refine pls E S [iv x.f0,iv 0,iv 0,iv 0,iv 0,iv x.f5,.slice A0_6 x.f6.length c0_6] fun u17 hb2 S a E=>pld ?_
 refine qCL ?_
 exact J37 _ (by omega) _ 0 0 0 0 x.f5 A0_6 c0_6 x.f6 _ _ E .of S g0_6 H
 refine rr E fun a E=>(E.ik 32 H (fun c19 E H=>?_) fun c19 E H=>?_)
 refine pl0 (plc E (.r 0 1<|.b 1 0 hb2<|.r 2 1<|.nil) (fun a E=>?_))
 replace S:=S.front 1 rfl
 refine pls E S [iv x.f0,iv 0,iv 0,iv 0,iv 0,iv 0,.slice none 0 0] fun u20 hb2 S a E=>pld ?_
 refine qCL ?_
 exact J37 _ (by omega) _ 0 0 0 0 0 none 0 [] _ _ E .of S (Rd.nil _ _) H
 refine rr E fun a E=>(E.ik 37 H (fun c22 E H=>?_) fun c22 E H=>?_)
 refine pl0 (plc E (.r 0 1<|.b 1 0 hb2<|.r 2 1<|.b 3 5 hb2<|.r 4 1<|.b 5 4 hb2<|.r 6 1<|.nil) (fun a E=>?_))
 replace S:=S.front 1 rfl
 refine pls E S [iv x.f0,iv 0,iv 0,iv 0,iv x.f4,iv x.f5,.slice none 0 0] fun u23 hb2 S a E=>pld ?_
 refine qCL ?_
 exact J37 _ (by omega) _ 0 0 0 x.f4 x.f5 none 0 [] _ _ E .of S (Rd.nil _ _) H
 refine pl0 (plc E (.r 0 1<|.b 1 0 hb2<|.r 2 1<|.b 3 1 hb2<|.r 4 1<|.nil) (fun a E=>?_))
 replace S:=S.front 1 rfl
 refine pls E S [iv x.f0,iv x.f1,iv 0,iv 0,iv 0,iv 0,.slice none 0 0] fun u24 hb2 S a E=>pld ?_
 refine qCL ?_
 exact J37 _ (by omega) _ x.f1 0 0 0 0 none 0 [] _ _ E .of S (Rd.nil _ _) H
def acceptor_SameDelta.f(k:Nat)(x:qE)(y:qE):Option Bool:=if x.f0=y.f0 then (if x.f1=y.f1 then (if x.f2=y.f2 then (if x.f3=y.f3 then (if x.f4=y.f4 then (if x.f5=y.f5 then ((qr.f k x.f6 y.f6).bind fun t14=>(some t14)) else (some false)) else (some false)) else (some false)) else (some false)) else (some false)) else (some false)
def acceptor_SameDelta.Post(W F:World)(r:Bool)(v:Value)(w':World):Prop:=∃(F':World),v = .bool r∧Sm W F w' F' []
theorem acceptor_SameDelta.calls(k:Nat)(x:qE)(y:qE)(A0_6:OA)(c0_6:Nat)(A1_6:OA)(c1_6:Nat)(r:Bool)(W F:World)(hown:Sub F W)(g0_6:Rd ki F A0_6 c0_6 x.f6)(g1_6:Rd ki F A1_6 c1_6 y.f6)(H:acceptor_SameDelta.f k x y=some r):
    Cr 90 #[.agg #[iv x.f0,iv x.f1,iv x.f2,iv x.f3,iv x.f4,iv x.f5,.slice A0_6 x.f6.length c0_6],.agg #[iv y.f0,iv y.f1,iv y.f2,iv y.f3,iv y.f4,iv y.f5,.slice A1_6 y.f6.length c1_6]] W (acceptor_SameDelta.Post W F r):=by
 have S:=sT hown
 unfold acceptor_SameDelta.f at H
 refine ent 52 rfl rfl rfl (fun a E=>?_)
 refine sq fun K1 hK1=>pl0 (plx (t:=96) E S [iv x.f0,iv x.f1,iv x.f2,iv x.f3,iv x.f4,iv x.f5,.slice A0_6 x.f6.length c0_6] fun b2 u3 hb2 S a E=>plx (t:=96) E S [iv y.f0,iv y.f1,iv y.f2,iv y.f3,iv y.f4,iv y.f5,.slice A1_6 y.f6.length c1_6] fun b4 u5 hb4 S a E=>plc E (.r 2 1 .nil) (fun a E=>pld (hK1 _ _ (sq fun K6 hK6=>pl0 ?_))))
 have hb2:=S.ba 1
 refine plc E (.r 0 1<|.b 1 0 hb2<|.r 2 1<|.b 3 0 hb4<|.r 4 2<|.nil) (fun a E=>E.fk 10 H (fun c7 E H=>?_) fun c7 E H=>?_)
 refine plc E (.r 6 1<|.b 7 1 hb2<|.r 8 1<|.b 9 1 hb4<|.r 10 3<|.nil) (fun a E=>E.fk 17 H (fun c8 E H=>?_) fun c8 E H=>?_)
 refine plc E (.r 13 1<|.b 14 2 hb2<|.r 15 1<|.b 16 2 hb4<|.r 17 3<|.nil) (fun a E=>E.fk 24 H (fun c9 E H=>?_) fun c9 E H=>?_)
 refine plc E (.r 20 1<|.b 21 3 hb2<|.r 22 1<|.b 23 3 hb4<|.r 24 3<|.nil) (fun a E=>E.fk 31 H (fun c10 E H=>?_) fun c10 E H=>?_)
 refine plc E (.r 27 1<|.b 28 4 hb2<|.r 29 1<|.b 30 4 hb4<|.r 31 3<|.nil) (fun a E=>E.fk 38 H (fun c11 E H=>?_) fun c11 E H=>?_)
 refine plc E (.r 34 1<|.b 35 5 hb2<|.r 36 1<|.b 37 5 hb4<|.r 38 3<|.nil) (fun a E=>E.fk 45 H (fun c12 E H=>?_) fun c12 E H=>?_)
 refine plc E (.r 41 1<|.b 42 6 hb2<|.r 43 1<|.b 44 6 hb4<|.nil) (fun a E=>?_)
 obtain ⟨t14,h15,H⟩:=bd H
 refine plq E S en77 (qr.calls k x.f6 y.f6 _ _ _ _ _ _ _ S.own.sub g0_6 g1_6 h15) fun u13 S a E=>plc E (.r 46 2 .nil) (fun a E=>pld (hK6 _ _ (wp_ret ?_)))
 replace S:=S.pm [] 2
 obtain rfl:=si H
 exact rt1 E ⟨_,rfl,_,rfl,S⟩
 refine plc E (.r 41 7 .nil) (fun a E=>pld (hK6 _ _ (wp_ret ?_)))
 replace S:=S.pm [] 2
 obtain rfl:=si H
 exact rt1 E ⟨_,rfl,_,rfl,S⟩
 refine plc E (.r 34 14 .nil) (fun a E=>pld (hK6 _ _ (wp_ret ?_)))
 replace S:=S.pm [] 2
 obtain rfl:=si H
 exact rt1 E ⟨_,rfl,_,rfl,S⟩
 refine plc E (.r 27 21 .nil) (fun a E=>pld (hK6 _ _ (wp_ret ?_)))
 replace S:=S.pm [] 2
 obtain rfl:=si H
 exact rt1 E ⟨_,rfl,_,rfl,S⟩
 refine plc E (.r 20 28 .nil) (fun a E=>pld (hK6 _ _ (wp_ret ?_)))
 replace S:=S.pm [] 2
 obtain rfl:=si H
 exact rt1 E ⟨_,rfl,_,rfl,S⟩
 refine plc E (.r 13 35 .nil) (fun a E=>pld (hK6 _ _ (wp_ret ?_)))
 replace S:=S.pm [] 2
 obtain rfl:=si H
 exact rt1 E ⟨_,rfl,_,rfl,S⟩
 refine plc E (.r 6 42 .nil) (fun a E=>pld (hK6 _ _ (wp_ret ?_)))
 replace S:=S.pm [] 2
 obtain rfl:=si H
 exact rt1 E ⟨_,rfl,_,rfl,S⟩
mutual
def acceptor_CheckDelta.j23:Nat→qE→Bool→Option Int
 | 0,_,_=>none
 | k+1,x,y21=>if y21=true then (some 1) else (if (([x.f1,x.f2,x.f3,x.f4,x.f5].length:Int)+(x.f6.length:Int)) * 8≤140737488355328 then (acceptor_CheckDelta.l41 k x 0) else (none))
def acceptor_CheckDelta.l41:Nat→qE→Int→Option Int
 | 0,_,_=>none
 | k+1,x,x40=>if x40<(([x.f1,x.f2,x.f3,x.f4,x.f5]++x.f6).length:Int) then (if 0≤x40∧x40<(([x.f1,x.f2,x.f3,x.f4,x.f5]++x.f6).length:Int) then ((acceptor_in.f (nth 0 ([x.f1,x.f2,x.f3,x.f4,x.f5]++x.f6) x40) 0 2147483647).bind fun t58=>(if t58=true then (acceptor_CheckDelta.l41 k x (w64 (x40+1))) else (some 1))) else (none)) else (some 0)
end
theorem acceptor_CheckDelta.j23_s k x y21:type_of% (acceptor_CheckDelta.j23.eq_2 x y21 k):=acceptor_CheckDelta.j23.eq_2 x y21 k
theorem acceptor_CheckDelta.l41_s k x x40:type_of% (acceptor_CheckDelta.l41.eq_2 x x40 k):=acceptor_CheckDelta.l41.eq_2 x x40 k
def acceptor_CheckDelta.f(k:Nat)(x:qE):Option Int:=(acceptor_in.f x.f0 1 10).bind fun t7=>(if t7=true then ((acceptor_bare.f k x).bind fun t11=>((acceptor_SameDelta.f k x t11).bind fun t18=>(if t18=true then (acceptor_CheckDelta.j23 k x (decide ((x.f6.length:Int)>3))) else (acceptor_CheckDelta.j23 k x true)))) else (acceptor_CheckDelta.j23 k x true))
def acceptor_CheckDelta.Post(W F:World)(r:Int)(v:Value)(w':World):Prop:=∃(F':World),v=iv r∧Sm W F w' F' []
theorem acceptor_CheckDelta.calls(k:Nat)(x:qE)(A0_6:OA)(c0_6:Nat)(r:Int)(W F:World)(hown:Sub F W)(g0_6:Rd ki F A0_6 c0_6 x.f6)(H:acceptor_CheckDelta.f k x=some r):
    Cr 86 #[.agg #[iv x.f0,iv x.f1,iv x.f2,iv x.f3,iv x.f4,iv x.f5,.slice A0_6 x.f6.length c0_6]] W (acceptor_CheckDelta.Post W F r):=by
 have S:=sT hown
 unfold acceptor_CheckDelta.f at H
 refine ent 45 rfl rfl rfl (fun a E=>?_)
 refine sq fun K1 hK1=>pl0 (plx (t:=96) E S [iv x.f0,iv x.f1,iv x.f2,iv x.f3,iv x.f4,iv x.f5,.slice A0_6 x.f6.length c0_6] fun b2 u3 hb2 S a E=>plc E (.r 1 1 .nil) (fun a E=>pld (hK1 _ _ (sq fun K4 hK4=>sq fun K5 hK5=>?_))))
 have J26:∀ kq24,kq24≤k→∀(G:NV)(y21:Bool)(F22:World)(a:Act)(w':World),Env 45 G a→At G [(1,.pointer (pb b2)),(21,.bool y21)]→Sm W F w' F22 [box b2 #[iv x.f0,iv x.f1,iv x.f2,iv x.f3,iv x.f4,iv x.f5,.slice A0_6 x.f6.length c0_6] 96]→Rd ki F22 A0_6 c0_6 x.f6→acceptor_CheckDelta.j23 kq24 x y21=some r→K5 a w':=by
  intro kq24 hkq G y21 F22 a u27 E A S g0_6 H
  obtain _ | k25:=kq24
  exact zz H
  rw [acceptor_CheckDelta.j23_s]at H
  obtain ⟨J,E⟩:=E.at A
  refine hK5 _ _ (E.ib 21 H (fun c28 E H=>?_) fun c28 E H=>?_)
  refine rr E fun a E=>(wp_ret (qCJ ?_))
  replace S:=S.tail
  obtain rfl:=si H
  exact rt1 E ⟨_,rfl,_,rfl,S⟩
  refine wp_skip (hK4 _ _ (sq fun K30 hK30=>sq fun K31 hK31=>pl0 ?_))
  have hb2:=S.ba 0
  refine plc E (.r 0 1<|.b 1 1 hb2<|.r 2 1<|.b 3 2 hb2<|.r 4 1<|.b 5 3 hb2<|.r 6 1<|.b 7 4 hb2<|.r 8 1<|.b 9 5 hb2<|.nil) (fun a E=>ple E (.lit (d:=ki) (e:=3) S [x.f1,x.f2,x.f3,x.f4,x.f5] (.cons rfl<|.cons rfl<|.cons rfl<|.cons rfl<|.cons rfl .nil)) ?_)
  rintro _ u32 a ⟨A33,c34,rfl,S,hg⟩ E
  refine plc E (.r 11 1<|.b 12 6 (S.ba 1)<|.nil) (fun a E=>?_)
  obtain ⟨c36,H⟩:=gd H
  refine ple E (.ap (d:=ki) 8 S (g0_6.src S.own.sub) c36 c0_6) ?_
  rintro _ u39 a ⟨A37,c38,rfl,S,hz⟩ E
  refine plc E (.r 14 2 .nil) (fun a E=>pld (hK31 _ _ (wp_block ?_)))
  replace S:=S.front 1 rfl
  refine wp_loop_ghost (fun kq42 a w'=>∃(G:NV)(x40:Int),kq42≤k25∧Env 45 G a∧At G [(35,.slice A37 (([x.f1,x.f2,x.f3,x.f4,x.f5]++x.f6).length) c38),(36,iv (([x.f1,x.f2,x.f3,x.f4,x.f5]++x.f6).length:Int)),(37,iv x40)]∧Sm W F w' F22 [box b2 #[iv x.f0,iv x.f1,iv x.f2,iv x.f3,iv x.f4,iv x.f5,.slice A0_6 x.f6.length c0_6] 96,row ki 3 (.slice A37 (([x.f1,x.f2,x.f3,x.f4,x.f5]++x.f6).length) c38) ([x.f1,x.f2,x.f3,x.f4,x.f5]++x.f6)]∧acceptor_CheckDelta.l41 kq42 x x40=some r) k25 ⟨_,0,Nat.le_refl _,E,.of,S,H⟩ ?_
  rintro kq42 a u44 ⟨G,x40,hkq,E,A,S,H⟩
  obtain _ | k43:=kq42
  exact zz H
  rw [acceptor_CheckDelta.l41_s]at H
  obtain ⟨J,E⟩:=E.at A
  refine rr E fun a E=>(sq fun K46 hK46=>E.ik 38 H (fun c47 E H=>?_) fun c47 E H=>?_)
  refine wp_skip (hK46 _ _ (sq fun K48 hK48=>wp_block (sq fun K49 hK49=>pl0 ?_)))
  obtain ⟨c50,H⟩:=gd H
  have hr51:=S.ra 1
  have hE_:=E
  obtain ⟨b52,rfl⟩:=qCP hr51 c50.1 c50.2
  replace E:=hE_
  have hr_:=S.ra 1
  obtain ⟨cs54,rfl,hc55⟩:=qCO hr_ 0 x40 c50.1 c50.2
  refine plc E (.x 0 c50<|.c 1 (hc55 0 _ rfl)<|.r 2 1<|.nil) (fun a E=>pld (hK49 _ _ (sq fun K56 hK56=>pl0 (plc E (.r 0 1 .nil) (fun a E=>?_)))))
  obtain ⟨t58,h59,H⟩:=bd H
  refine plq E S en142 (acceptor_in.calls (nth 0 ([x.f1,x.f2,x.f3,x.f4,x.f5]++x.f6) x40) 0 2147483647 _ _ _ S.own.sub h59) fun u57 S a E=>plc E (.r 2 1 .nil) (fun a E=>pld (hK56 _ _ (E.ibn 43 H (fun c60 E H=>?_) fun c60 E H=>?_)))
  refine wp_skip ?_
  refine qCL ?_
  refine hK48 _ _ (pl0 (plc E (.r 0 2 .nil) (fun a E=>pld ?_)))
  exact qCM ⟨k43,by omega,_,(w64 (x40+1)),by omega,E,.of,S,H⟩
  refine rr E fun a E=>(wp_ret (qCK (qCJ (qCJ (qCK (qCJ ?_))))))
  replace S:=S.pm [] 2
  obtain rfl:=si H
  exact rt1 E ⟨_,rfl,_,rfl,S⟩
  refine wp_exit ?_
  refine hK30 _ _ (rr E fun a E=>(wp_ret ?_))
  replace S:=S.pm [] 2
  obtain rfl:=si H
  exact rt1 E ⟨_,rfl,_,rfl,S⟩
 refine drawn 17 ⟨[],[],fun q=>False⟩ mixed rfl (by kernel_rfl) (fun hst=>?_)
 replace S:=S.drew
 have hb2:=S.ba 0
 refine mny 15 hst E (.r 0 1<|.b 1 0 hb2<|.nil) (fun a E=>?_)
 obtain ⟨t7,h8,H⟩:=bd H
 refine on1 2 E (.cl en142 (acceptor_in.calls x.f0 1 10 _ _ _ S.own.sub h8)) ?_
 rintro _ u6 a ⟨_,rfl,hC⟩ E
 refine ⟨.of hC.agr,?_⟩
 replace S:=S.lent hC
 refine mny 12 hst E (.r 3 2 .nil) (fun a E=>?_)
 refine E.fbn 9 H (fun c9 E H=>?_) fun c9 E H=>?_
 have hb2:=S.ba 0
 refine mny 10 hst E (.bn 5 0 7 hb2<|.bn 6 0 7 hb2<|.nil) (fun a E=>?_)
 obtain ⟨t11,h12,H⟩:=bd H
 refine on1 7 E (.cl en143 (acceptor_bare.calls k x _ _ _ _ _ S.own.sub g0_6 h12)) ?_
 rintro _ u10 a ⟨F13,A14,c15,rfl,hC,g16⟩ E
 refine ⟨.of hC.agr,?_⟩
 have hs:=hC.sub
 replace S:=S.called (X:=[]) hC
 replace g0_6:=g0_6.mono hs
 obtain ⟨t18,h19,H⟩:=bd H
 refine on1 8 E (.cl en90 (acceptor_SameDelta.calls k x t11 _ _ _ _ _ _ _ S.own.sub g0_6 g16 h19)) ?_
 rintro _ u17 a ⟨_,rfl,hC⟩ E
 refine ⟨.of hC.agr,?_⟩
 replace S:=S.lent hC
 refine mny 5 hst E (.r 9 3 .nil) (fun a E=>?_)
 refine E.fbn 16 H (fun c20 E H=>?_) fun c20 E H=>?_
 have hb2:=S.ba 0
 refine mny 0 hst E (.r 12 1<|.b 13 6 hb2<|.r 14 3<|.nil) (fun a E=>?_)
 refine dn ?_
 exact J26 _ (by omega) _ (decide ((x.f6.length:Int)>3)) F13 _ _ E .of S g0_6 H
 refine mny 0 hst E (.r 12 5 .nil) (fun a E=>?_)
 refine dn ?_
 exact J26 _ (by omega) _ true F13 _ _ E .of S g0_6 H
 refine mny 0 hst E (.r 5 12 .nil) (fun a E=>?_)
 refine dn ?_
 exact J26 _ (by omega) _ true F _ _ E .of S g0_6 H
def qBq.f(k:Nat)(x:qE):Option Bool:=(acceptor_CheckDelta.f k x).bind fun t6=>(some (!(t6 == 0)))
def qBq.Post(W F:World)(r:Bool)(v:Value)(w':World):Prop:=∃(F':World),v = .bool r∧Sm W F w' F' []
theorem qBq.calls(k:Nat)(x:qE)(A0_6:OA)(c0_6:Nat)(r:Bool)(W F:World)(hown:Sub F W)(g0_6:Rd ki F A0_6 c0_6 x.f6)(H:qBq.f k x=some r):
    Cr 154 #[.agg #[iv x.f0,iv x.f1,iv x.f2,iv x.f3,iv x.f4,iv x.f5,.slice A0_6 x.f6.length c0_6]] W (qBq.Post W F r):=by
 have S:=sT hown
 unfold qBq.f at H
 refine ent 6 rfl rfl rfl (fun a E=>?_)
 refine sq fun K1 hK1=>pl0 (plx (t:=96) E S [iv x.f0,iv x.f1,iv x.f2,iv x.f3,iv x.f4,iv x.f5,.slice A0_6 x.f6.length c0_6] fun b2 u3 hb2 S a E=>plc E (.r 1 1 .nil) (fun a E=>pld (hK1 _ _ (sq fun K4 hK4=>pl0 (plc E (.bn 0 0 7 hb2 .nil) (fun a E=>?_))))))
 obtain ⟨t6,h7,H⟩:=bd H
 refine plq E S en86 (acceptor_CheckDelta.calls k x _ _ _ _ _ S.own.sub g0_6 h7) fun u5 S a E=>plc E (.r 2 2 .nil) (fun a E=>pld (hK4 _ _ (wp_ret ?_)))
 replace S:=S.tail
 obtain rfl:=si H
 exact rt1 E ⟨_,rfl,_,rfl,S⟩
def qW.l5:Nat→List qE→Int→Option Int
 | 0,_,_=>none
 | k+1,x,x4=>if x4<(x.length:Int) then (if 0≤x4∧x4<(x.length:Int) then ((qBq.f k (nth qE.z x x4)).bind fun t24=>(if t24=true then (some x4) else (qW.l5 k x (w64 (x4+1))))) else (none)) else (some (-1))
theorem qW.l5_s k x x4:type_of% (qW.l5.eq_2 x x4 k):=qW.l5.eq_2 x x4 k
def qW.f(k:Nat)(x:List qE):Option Int:=qW.l5 k x 0
def qW.Post(W F:World)(r:Int)(v:Value)(w':World):Prop:=∃(F':World),v=iv r∧Sm W F w' F' []
theorem qW.calls(k:Nat)(x:List qE)(A0_0:OA)(c0_0:Nat)(r:Int)(W F:World)(hown:Sub F W)(g0_0:Rd qE.k F A0_0 c0_0 x)(H:qW.f k x=some r):
    Cr 147 #[.slice A0_0 x.length c0_0,.func (.func 154) #[] #[]] W (qW.Post W F r):=by
 have S:=sT hown
 unfold qW.f at H
 refine ent 19 rfl rfl rfl (fun a E=>?_)
 refine rr E fun a E=>(sq fun K2 hK2=>rr E fun a E=>(wp_block ?_))
 refine wp_loop_ghost (fun kq6 a w'=>∃(G:NV)(x4:Int),kq6≤k∧Env 19 G a∧At G [(0,.slice A0_0 x.length c0_0),(1,.func (.func 154) #[] #[]),(7,iv (x.length:Int)),(8,iv x4)]∧Sm W F w' F []∧qW.l5 kq6 x x4=some r) k ⟨_,0,Nat.le_refl _,E,.of,S,H⟩ ?_
 rintro kq6 a u8 ⟨G,x4,hkq,E,A,S,H⟩
 obtain _ | k7:=kq6
 exact zz H
 rw [qW.l5_s]at H
 obtain ⟨J,E⟩:=E.at A
 refine rr E fun a E=>(sq fun K10 hK10=>E.ik 9 H (fun c11 E H=>?_) fun c11 E H=>?_)
 refine wp_skip (hK10 _ _ (sq fun K12 hK12=>wp_block (rr E fun a E=>(sq fun K14 hK14=>pl0 ?_))))
 obtain ⟨c15,H⟩:=gd H
 have hE_:=E
 obtain ⟨ad16,rfl⟩:=g0_0.addr c15.1 c15.2
 replace E:=hE_
 obtain ⟨cs18,⟨A20,c21,rfl,g22⟩,hc19⟩:=g0_0.el qE.z x4 c15.1 c15.2
 refine plc E (.r 0 3<|.x 3 c15<|.cs 4 (S.fcs hc19)<|.nil) (fun a E=>?_)
 obtain ⟨t24,h25,H⟩:=bd H
 refine plq E S en154 (qBq.calls k7 (nth qE.z x x4) _ _ _ _ _ S.own.sub g22 h25) fun u23 S a E=>pld (hK14 _ _ (E.ib 16 H (fun c26 E H=>?_) fun c26 E H=>?_))
 refine rr E fun a E=>(wp_ret (qCK (qCJ (qCJ (qCK (qCJ ?_))))))
 obtain rfl:=si H
 exact rt1 E ⟨_,rfl,_,rfl,S⟩
 refine wp_skip ?_
 refine qCL ?_
 refine hK12 _ _ (pl0 (plc E (.r 0 2 .nil) (fun a E=>pld ?_)))
 exact qCM ⟨k7,by omega,_,(w64 (x4+1)),by omega,E,.of,S,H⟩
 refine wp_exit ?_
 refine hK2 _ _ (rr E fun a E=>(wp_ret ?_))
 obtain rfl:=si H
 exact rt1 E ⟨_,rfl,_,rfl,S⟩
def qj.f(k:Nat)(x:List qE):Option Bool:=(qW.f k x).bind fun t4=>(some (decide (t4≥0)))
def qj.Post(W F:World)(r:Bool)(v:Value)(w':World):Prop:=∃(F':World),v = .bool r∧Sm W F w' F' []
theorem qj.calls(k:Nat)(x:List qE)(A0_0:OA)(c0_0:Nat)(r:Bool)(W F:World)(hown:Sub F W)(g0_0:Rd qE.k F A0_0 c0_0 x)(H:qj.f k x=some r):
    Cr 88 #[.slice A0_0 x.length c0_0,.func (.func 154) #[] #[]] W (qj.Post W F r):=by
 have S:=sT hown
 unfold qj.f at H
 refine ent 9 rfl rfl rfl (fun a E=>?_)
 refine rr E fun a E=>(sq fun K2 hK2=>pl0 (plc E (.r 0 2 .nil) (fun a E=>?_)))
 obtain ⟨t4,h5,H⟩:=bd H
 refine plq E S en147 (qW.calls k x _ _ _ _ _ S.own.sub g0_0 h5) fun u3 S a E=>plc E (.r 3 2 .nil) (fun a E=>pld (hK2 _ _ (wp_ret ?_)))
 obtain rfl:=si H
 exact rt1 E ⟨_,rfl,_,rfl,S⟩
def qAv.j16:Nat→Bool→Option Int
 | 0,_=>none
 | k+1,y15=>if y15=true then (some 1) else (some 0)
theorem qAv.j16_s k y15:type_of% (qAv.j16.eq_2 y15 k):=qAv.j16.eq_2 y15 k
def qAv.f(k:Nat)(x:qAa):Option Int:=(qj.f k x.f1).bind fun t6=>((qt.f k x.f0).bind fun t11=>(if t11=0 then (if (x.f1.length:Int)>8 then (qAv.j16 k true) else (qAv.j16 k t6)) else (qAv.j16 k true)))
def qAv.Post(W F:World)(r:Int)(v:Value)(w':World):Prop:=∃(F':World),v=iv r∧Sm W F w' F' []
theorem qAv.calls(k:Nat)(x:qAa)(A0_4:OA)(c0_4:Nat)(A0_5:OA)(c0_5:Nat)(A0_6:OA)(c0_6:Nat)(A0_7:OA)(c0_7:Nat)(r:Int)(W F:World)(hown:Sub F W)(g0_4:Rd qA.k F A0_4 c0_4 x.f0.f4)(g0_5:Rd qI.k F A0_5 c0_5 x.f0.f5)(g0_6:Rd qC.k F A0_6 c0_6 x.f0.f6)(g0_7:Rd qE.k F A0_7 c0_7 x.f1)(H:qAv.f k x=some r):
    Cr 113 #[.agg #[iv x.f0.f0,iv x.f0.f1,iv x.f0.f2,iv x.f0.f3,.slice A0_4 x.f0.f4.length c0_4,.slice A0_5 x.f0.f5.length c0_5,.slice A0_6 x.f0.f6.length c0_6,.slice A0_7 x.f1.length c0_7]] W (qAv.Post W F r):=by
 have S:=sT hown
 unfold qAv.f at H
 refine ent 20 rfl rfl rfl (fun a E=>?_)
 refine sq fun K1 hK1=>pl0 (plx (t:=47) E S [iv x.f0.f0,iv x.f0.f1,iv x.f0.f2,iv x.f0.f3,.slice A0_4 x.f0.f4.length c0_4,.slice A0_5 x.f0.f5.length c0_5,.slice A0_6 x.f0.f6.length c0_6,.slice A0_7 x.f1.length c0_7] fun b2 u3 hb2 S a E=>plc E (.r 1 1 .nil) (fun a E=>pld (hK1 _ _ (sq fun K4 hK4=>pl0 (plc E (.r 0 1<|.b 1 7 hb2<|.nil) (fun a E=>?_))))))
 obtain ⟨t6,h7,H⟩:=bd H
 refine plq E S en88 (qj.calls k x.f1 _ _ _ _ _ S.own.sub g0_7 h7) fun u5 S a E=>plc E (.r 3 1 .nil) (fun a E=>pld (hK4 _ _ (sq fun K8 hK8=>sq fun K9 hK9=>?_)))
 have J19:∀ kq17,kq17≤k→∀(G:NV)(y15:Bool)(a:Act)(w':World),Env 20 G a→At G [(19,.bool y15)]→Sm W F w' F [box b2 #[iv x.f0.f0,iv x.f0.f1,iv x.f0.f2,iv x.f0.f3,.slice A0_4 x.f0.f4.length c0_4,.slice A0_5 x.f0.f5.length c0_5,.slice A0_6 x.f0.f6.length c0_6,.slice A0_7 x.f1.length c0_7] 47]→qAv.j16 kq17 y15=some r→K9 a w':=by
  intro kq17 hkq G y15 a u20 E A S H
  obtain _ | k18:=kq17
  exact zz H
  rw [qAv.j16_s]at H
  obtain ⟨J,E⟩:=E.at A
  refine hK9 _ _ (E.ib 19 H (fun c21 E H=>?_) fun c21 E H=>?_)
  refine rr E fun a E=>(wp_ret (qCJ ?_))
  replace S:=S.tail
  obtain rfl:=si H
  exact rt1 E ⟨_,rfl,_,rfl,S⟩
  refine wp_skip (hK8 _ _ (rr E fun a E=>(wp_ret ?_)))
  replace S:=S.tail
  obtain rfl:=si H
  exact rt1 E ⟨_,rfl,_,rfl,S⟩
 refine pl0 ?_
 have hb2:=S.ba 0
 refine plc E (.r 0 1<|.bn 1 0 7 hb2<|.nil) (fun a E=>?_)
 obtain ⟨t11,h12,H⟩:=bd H
 refine plq E S en37 (qt.calls k x.f0 _ _ _ _ _ _ _ _ _ S.own.sub g0_4 g0_5 g0_6 h12) fun u10 S a E=>plc E (.r 3 2 .nil) (fun a E=>E.fkn 11 H (fun c13 E H=>?_) fun c13 E H=>?_)
 refine plc E (.r 5 1<|.b 6 7 (S.ba 0)<|.r 7 4<|.nil) (fun a E=>E.fk 17 H (fun c14 E H=>?_) fun c14 E H=>?_)
 refine plc E (.r 11 2 .nil) (fun a E=>pld ?_)
 exact J19 _ (by omega) _ true _ _ E .of S H
 refine plc E (.r 11 2 .nil) (fun a E=>pld ?_)
 exact J19 _ (by omega) _ t6 _ _ E .of S H
 refine plc E (.r 5 8 .nil) (fun a E=>pld ?_)
 exact J19 _ (by omega) _ true _ _ E .of S H
def stringslite_Index.f(x0_ x1_:ByteArray):Option Int:=indexO x0_ x1_
def stringslite_Index.Post(W F:World)(r:Int)(v:Value)(w':World):Prop:=∃(F':World),v=iv r∧Sm W F w' F' []
theorem stringslite_Index.calls(x0_ x1_:ByteArray)(r:Int)(W F:World)(hown:Sub F W)(H:stringslite_Index.f x0_ x1_=some r):
  Calls Tryz.prog 268 #[.string x0_,.string x1_] W fun e w'=>∃ v,e = .returned v∧stringslite_Index.Post W F r v w':=qEQ Tryz.str219 hown H
def stringslite_Cut.f(x:ByteArray)(y:ByteArray):Option (ByteArray × ByteArray × Bool):=(stringslite_Index.f x y).bind fun t5=>(if t5≥0 then (if 0≤(0:Int)∧(0:Int)≤t5∧t5≤(x.size:Int) then (if 0≤(w64 (t5+(y.size:Int)))∧(w64 (t5+(y.size:Int)))≤(x.size:Int)∧(x.size:Int)≤(x.size:Int) then (some ((scut x (0:Int) t5),(scut x (w64 (t5+(y.size:Int))) (x.size:Int)),true)) else (none)) else (none)) else (some (x,(⟨#[]⟩:ByteArray),false)))
def stringslite_Cut.Post(W F:World)(r:ByteArray × ByteArray × Bool)(v:Value)(w':World):Prop:=∃(F':World),v = .tuple #[.string r.1,.string r.2.1,.bool r.2.2]∧Sm W F w' F' []
theorem stringslite_Cut.calls(x:ByteArray)(y:ByteArray)(r:ByteArray × ByteArray × Bool)(W F:World)(hown:Sub F W)(H:stringslite_Cut.f x y=some r):
    Cr 242 #[.string x,.string y] W (stringslite_Cut.Post W F r):=by
 have S:=sT hown
 unfold stringslite_Cut.f at H
 refine ent 23 rfl rfl rfl (fun a E=>?_)
 refine rr E fun a E=>(sq fun K2 hK2=>sq fun K3 hK3=>pl0 (plc E (.r 0 2 .nil) (fun a E=>?_)))
 obtain ⟨t5,h6,H⟩:=bd H
 refine plq E S en268 (stringslite_Index.calls x y _ _ _ S.own.sub h6) fun u4 S a E=>plc E (.r 3 1 .nil) (fun a E=>pld (hK3 _ _ (rr E fun a E=>(E.ik 12 H (fun c8 E H=>?_) fun c8 E H=>?_))))
 refine sq fun K9 hK9=>?_
 refine drawn 12 ⟨[],[],fun q=>False⟩ mixed rfl (by kernel_rfl) (fun hst=>?_)
 replace S:=S.drew
 obtain ⟨c10,H⟩:=gd H
 obtain ⟨c11,H⟩:=gd H
 refine mny 0 hst E (.r 0 2<|.y 2 (qGr c10)<|.r 3 5<|.y 8 (qGr c11)<|.r 9 3<|.nil) (fun a E=>?_)
 refine dn ?_
 refine hK9 _ _ (wp_ret (qCJ ?_))
 obtain rfl:=si H
 exact rtN E ⟨_,rfl,_,rfl,S⟩
 refine wp_skip (hK2 _ _ (rr E fun a E=>(wp_ret ?_)))
 obtain rfl:=si H
 exact rtN E ⟨_,rfl,_,rfl,S⟩
def strings_Cut.f(x:ByteArray)(y:ByteArray):Option (ByteArray × ByteArray × Bool):=(stringslite_Cut.f x y).bind fun t4=>(some (t4.1,t4.2.1,t4.2.2))
def strings_Cut.Post(W F:World)(r:ByteArray × ByteArray × Bool)(v:Value)(w':World):Prop:=∃(F':World),v = .tuple #[.string r.1,.string r.2.1,.bool r.2.2]∧Sm W F w' F' []
theorem strings_Cut.calls(x:ByteArray)(y:ByteArray)(r:ByteArray × ByteArray × Bool)(W F:World)(hown:Sub F W)(H:strings_Cut.f x y=some r):
    Cr 203 #[.string x,.string y] W (strings_Cut.Post W F r):=by
 have S:=sT hown
 unfold strings_Cut.f at H
 refine ent 13 rfl rfl rfl (fun a E=>?_)
 refine rr E fun a E=>(sq fun K2 hK2=>pl0 (plc E (.r 0 2 .nil) (fun a E=>?_)))
 obtain ⟨t4,h5,H⟩:=bd H
 refine plq E S en242 (stringslite_Cut.calls x y _ _ _ S.own.sub h5) fun u3 S a E=>plc E (.r 3 6 .nil) (fun a E=>pld (hK2 _ _ (wp_ret ?_)))
 obtain rfl:=si H
 exact rtN E ⟨_,rfl,_,rfl,S⟩
def strings_Compare.f(x0_ x1_:ByteArray):Option Int:=compareO x0_ x1_
def strings_Compare.Post(W F:World)(r:Int)(v:Value)(w':World):Prop:=∃(F':World),v=iv r∧Sm W F w' F' []
theorem strings_Compare.calls(x0_ x1_:ByteArray)(r:Int)(W F:World)(hown:Sub F W)(H:strings_Compare.f x0_ x1_=some r):
  Calls Tryz.prog 207 #[.string x0_,.string x1_] W fun e w'=>∃ v,e = .returned v∧strings_Compare.Post W F r v w':=qDz Tryz.str106 hown H
end Go.Proofs.YtpabbpebefdafaaGreat.CN
