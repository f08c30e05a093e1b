import Derived.Test.YthgfhlbjkmjlpaaGreatGD4
namespace Go.Proofs.YthgfhlbjkmjlpaaGreat.GD
open Go Go.RowKit Go.Proofs.YthgfhlbjkmjlpaaGreat.Sl
set_option linter.unusedVariables false
set_option linter.unusedSimpArgs false
set_option maxHeartbeats 4000000
set_option maxRecDepth 100000
mutual
def qAD.j16:Nat->List qA->List qM->Int->Int->Bool->Option ((List Int) × Int)
 | 0,_,_,_,_,_=>none
 | k+1,x,y,z,p,y15=>if y15=true then (some ([],1)) else (qAD.l38 k x y z p [] [] 0)
def qAD.l38:Nat->List qA->List qM->Int->Int->List qd->List Int->Int->Option ((List Int) × Int)
 | 0,_,_,_,_,_,_,_=>none
 | k+1,x,y,z,p,l32,l35,x36=>if x36<(y.length:Int) then (if 0<=x36/\x36<(y.length:Int) then (if (nth qM.z y x36).f0=1 then (qAD.l38 k x y z p [(⟨0,0,0⟩:qd)] l35 (w64 (x36+1))) else (if (nth qM.z y x36).f0=2 then (qAD.l73 k x y z p l32 l35 x36 [] 0) else (qAD.l111 k x y z p l32 x36 l35 0))) else (none)) else (some (l35,0))
def qAD.l73:Nat->List qA->List qM->Int->Int->List qd->List Int->Int->List qd->Int->Option ((List Int) × Int)
 | 0,_,_,_,_,_,_,_,_,_=>none
 | k+1,x,y,z,p,l32,l35,x36,l70,x71=>if x71<(l32.length:Int) then (if 0<=x71/\x71<(l32.length:Int) then ((qAJ.f k x (nth qd.z l32 x71) (nth qM.z y x36) z).bind fun t92=>(if ((l70.length:Int)+(t92.length:Int)) * 24<=140737488355328 then (qAD.l73 k x y z p l32 l35 x36 (l70++t92) (w64 (x71+1))) else (none))) else (none)) else (qAD.l38 k x y z p l70 l35 (w64 (x36+1)))
def qAD.l111:Nat->List qA->List qM->Int->Int->List qd->Int->List Int->Int->Option ((List Int) × Int)
 | 0,_,_,_,_,_,_,_,_=>none
 | k+1,x,y,z,p,l32,x36,l109,x110=>if x110<(l32.length:Int) then (if 0<=x110/\x110<(l32.length:Int) then (if (l109.length:Int)<p then ((qAG.f k l109 ((nth qd.z l32 x110).f2)).bind fun t132=>(qAD.j135 k x y z p l32 x36 l109 x110 (!t132))) else (qAD.j135 k x y z p l32 x36 l109 x110 false)) else (none)) else (qAD.l38 k x y z p [] l109 (w64 (x36+1)))
def qAD.j135:Nat->List qA->List qM->Int->Int->List qd->Int->List Int->Int->Bool->Option ((List Int) × Int)
 | 0,_,_,_,_,_,_,_,_,_=>none
 | k+1,x,y,z,p,l32,x36,l109,x110,y134=>if y134=true then (if ((l109.length:Int)+((1:Nat):Int)) * 8<=140737488355328 then (qAD.l111 k x y z p l32 x36 (l109++[(nth qd.z l32 x110).f2]) (w64 (x110+1))) else (none)) else (qAD.l111 k x y z p l32 x36 l109 (w64 (x110+1)))
end
theorem qAD.j16_s k x y z p y15:type_of% (qAD.j16.eq_2 x y z p y15 k):=qAD.j16.eq_2 x y z p y15 k
theorem qAD.l38_s k x y z p l32 l35 x36:type_of% (qAD.l38.eq_2 x y z p l32 l35 x36 k):=qAD.l38.eq_2 x y z p l32 l35 x36 k
theorem qAD.l73_s k x y z p l32 l35 x36 l70 x71:type_of% (qAD.l73.eq_2 x y z p l32 l35 x36 l70 x71 k):=qAD.l73.eq_2 x y z p l32 l35 x36 l70 x71 k
theorem qAD.l111_s k x y z p l32 x36 l109 x110:type_of% (qAD.l111.eq_2 x y z p l32 x36 l109 x110 k):=qAD.l111.eq_2 x y z p l32 x36 l109 x110 k
theorem qAD.j135_s k x y z p l32 x36 l109 x110 y134:type_of% (qAD.j135.eq_2 x y z p l32 x36 l109 x110 y134 k):=qAD.j135.eq_2 x y z p l32 x36 l109 x110 y134 k
def qAD.f(k:Nat)(x:List qA)(y:List qM)(z:Int)(p:Int):Option ((List Int) × Int):=(qAU.f k x).bind fun t5=>(if t5=0 then ((qAt.f k y).bind fun t9=>(if t9=0 then (if z<0 then (qAD.j16 k x y z p true) else (if z>=8 then (qAD.j16 k x y z p true) else (if p<1 then (qAD.j16 k x y z p true) else (qAD.j16 k x y z p (decide (p>3)))))) else (qAD.j16 k x y z p true))) else (qAD.j16 k x y z p true))
def qAD.Post(W F:World)(r:(List Int) × Int)(v:Value)(w':World):Prop:=∃(F':World)(RA0_0:OA)(rc0_0:Nat),v = .tuple #[.slice RA0_0 r.1.length rc0_0,iv r.2]/\Sm W F w' F' [row ki 3 (.slice RA0_0 r.1.length rc0_0) r.1]
theorem qAD.calls(k:Nat)(x:List qA)(y:List qM)(z:Int)(p:Int)(A0_0:OA)(c0_0:Nat)(A1_0:OA)(c1_0:Nat)(r:(List Int) × Int)(W F:World)(hown:Sub F W)(g0_0:Rd qA.k F A0_0 c0_0 x)(g1_0:Rd qM.k F A1_0 c1_0 y)(H:qAD.f k x y z p=some r):
    Cr 140 #[.slice A0_0 x.length c0_0,.slice A1_0 y.length c1_0,iv z,iv p] W (qAD.Post W F r):=by
 have S:=sT hown
 unfold qAD.f at H
 refine ent 97 rfl rfl rfl fun a E=>?_
 refine rr E fun a E=>(sq fun K2 hK2=>sq fun K3 hK3=>?_)
 have J19:∀ kq17,kq17<=k->∀(G:NV)(y15:Bool)(a:Act)(w':World),Env 97 G a->At G [(0,.slice A0_0 x.length c0_0),(1,.slice A1_0 y.length c1_0),(2,iv z),(3,iv p),(42,.bool y15)]->Sm W F w' F []->qAD.j16 kq17 x y z p y15=some r->K3 a w':=by
  intro kq17 hkq G y15 a u20 E A S H
  obtain _ | k18:=kq17
  exact zz H
  rw [qAD.j16_s]at H
  obtain ⟨J,E⟩:=E.at A
  refine hK3 _ _ (E.ib 42 H (fun c21 E H=>?_) fun c21 E H=>?_)
  refine rr E fun a E=>(wp_ret (qCc ?_))
  have S:=S.nilrow ki 3
  obtain rfl:=si H
  exact rtN E ⟨_,rfl,_,_,_,rfl,S⟩
  refine wp_skip (hK2 _ _ (rr E fun a E=>(rr E fun a E=>(sq fun K26 hK26=>rr E fun a E=>(wp_block ?_)))))
  have S:=S.nilrow qd.k 190
  have S:=S.nilrow ki 3
  have S:=S.front 1 rfl
  refine wp_loop_ghost (fun kq39 a w'=>∃(G:NV)(A30:OA)(c31:Nat)(l32:List qd)(A33:OA)(c34:Nat)(l35:List Int)(x36:Int)(F37:World),kq39<=k18/\Env 97 G a/\At G [(0,.slice A0_0 x.length c0_0),(2,iv z),(3,iv p),(10,.slice A30 l32.length c31),(11,.slice A33 l35.length c34),(43,.slice A1_0 y.length c1_0),(44,iv (y.length:Int)),(45,iv x36)]/\Sm W F w' F37 [row qd.k 190 (.slice A30 l32.length c31) l32,row ki 3 (.slice A33 l35.length c34) l35]/\Rd qA.k F37 A0_0 c0_0 x/\Rd qM.k F37 A1_0 c1_0 y/\qAD.l38 kq39 x y z p l32 l35 x36=some r) k18 ⟨_,none,0,[],none,0,[],0,F,Nat.le_refl _,E,.of,S,g0_0,g1_0,H⟩ ?_
  rintro kq39 a u41 ⟨G,A30,c31,l32,A33,c34,l35,x36,F37,hkq,E,A,S,g0_0,g1_0,H⟩
  obtain _ | k40:=kq39
  exact zz H
  rw [qAD.l38_s]at H
  obtain ⟨J,E⟩:=E.at A
  refine rr E fun a E=>(sq fun K43 hK43=>E.ik 46 H (fun c44 E H=>?_) fun c44 E H=>?_)
  refine wp_skip (hK43 _ _ (sq fun K45 hK45=>wp_block (sq fun K46 hK46=>pl0 ?_)))
  obtain ⟨c47,H⟩:=gd H
  have hE_:=E
  obtain ⟨ad48,rfl⟩:=g1_0.addr c47.1 c47.2
  replace E:=hE_
  obtain ⟨cs50,rfl,hc51⟩:=g1_0.el qM.z x36 c47.1 c47.2
  refine plc E (.x 0 c47<|.cs 1 (S.fcs hc51)<|.nil) fun a E=>pla (t:=143) E S [iv 0,iv 0,iv 0] fun b52 u53 hb52 S a E=>pls E S [iv ((nth qM.z y x36).f0),iv ((nth qM.z y x36).f1),iv ((nth qM.z y x36).f2)] fun u54 hb52 S a E=>pld (hK46 _ _ (rg E (.r 0 1<|.b 1 0 hb52<|.nil) fun a E=>(wp_block (rr E fun a E=>(E.ik 74 H (fun c57 E H=>?_) fun c57 E H=>?_)))))
  refine pl0 (plc E (.r 0 1 .nil) fun a E=>ple E (.lit (d:=qd.k) (e:=190) S [(⟨0,0,0⟩:qd)] (.cons rfl .nil)) ?_)
  rintro _ u58 a ⟨A59,c60,rfl,S,hg⟩ E
  refine plc E (.r 2 1 .nil) fun a E=>pld ?_
  refine qCe ?_
  refine qCe ?_
  refine hK45 _ _ (pl0 (plc E (.r 0 2 .nil) fun a E=>pld ?_))
  have S:=S.pm [0] 3
  exact qCf ⟨k40,by omega,_,A59,c60,[(⟨0,0,0⟩:qd)],A33,c34,l35,(w64 (x36+1)),F37,by omega,E,.of,S,g0_0,g1_0,H⟩
  refine rr E fun a E=>(E.ik 78 H (fun c63 E H=>?_) fun c63 E H=>?_)
  refine rr E fun a E=>(sq fun K65 hK65=>rr E fun a E=>(wp_block ?_))
  have S:=S.nilrow qd.k 190
  have S:=S.pm [1,2,3,0] 4
  refine wp_loop_ghost (fun kq74 a w'=>∃(G:NV)(A68:OA)(c69:Nat)(l70:List qd)(x71:Int)(F72:World),kq74<=k40/\Env 97 G a/\At G [(0,.slice A0_0 x.length c0_0),(2,iv z),(3,iv p),(11,.slice A33 l35.length c34),(13,.pointer (pb b52)),(14,.slice A68 l70.length c69),(43,.slice (some ad48) y.length c1_0),(44,iv (y.length:Int)),(45,iv x36),(80,.slice A30 l32.length c31),(81,iv (l32.length:Int)),(82,iv x71)]/\Sm W F w' F72 [box b52 #[iv ((nth qM.z y x36).f0),iv ((nth qM.z y x36).f1),iv ((nth qM.z y x36).f2)] 143,row qd.k 190 (.slice A30 l32.length c31) l32,row ki 3 (.slice A33 l35.length c34) l35,row qd.k 190 (.slice A68 l70.length c69) l70]/\Rd qA.k F72 A0_0 c0_0 x/\Rd qM.k F72 (some ad48) c1_0 y/\qAD.l73 kq74 x y z p l32 l35 x36 l70 x71=some r) k40 ⟨_,none,0,[],0,F37,Nat.le_refl _,E,.of,S,g0_0,g1_0,H⟩ ?_
  rintro kq74 a u76 ⟨G,A68,c69,l70,x71,F72,hkq,E,A,S,g0_0,g1_0,H⟩
  obtain _ | k75:=kq74
  exact zz H
  rw [qAD.l73_s]at H
  obtain ⟨J,E⟩:=E.at A
  refine rr E fun a E=>(sq fun K78 hK78=>E.ik 83 H (fun c79 E H=>?_) fun c79 E H=>?_)
  refine wp_skip (hK78 _ _ (sq fun K80 hK80=>wp_block (sq fun K81 hK81=>pl0 ?_)))
  obtain ⟨c82,H⟩:=gd H
  have hr83:=S.ra 1
  have hE_:=E
  obtain ⟨b84,rfl⟩:=qCi hr83 c82.1 c82.2
  replace E:=hE_
  have hr_:=S.ra 1
  obtain ⟨cs86,rfl,hc87⟩:=qCh hr_ qd.z x71 c82.1 c82.2
  refine plc E (.x 0 c82<|.cs 1 hc87<|.nil) fun a E=>pla (t:=190) E S [iv 0,iv 0,iv 0] fun b88 u89 hb88 S a E=>pls E S [iv ((nth qd.z l32 x71).f0),iv ((nth qd.z l32 x71).f1),iv ((nth qd.z l32 x71).f2)] fun u90 hb88 S a E=>pld (hK81 _ _ (pl0 (plc E (.r 0 2<|.bn 2 0 3 hb88<|.bn 3 0 3 (S.ba 1)<|.r 4 1<|.nil) fun a E=>?_)))
  obtain ⟨t92,h93,H⟩:=bd H
  refine ple E (.cl en166 (qAJ.calls k75 x (nth qd.z l32 x71) (nth qM.z y x36) z _ _ _ _ _ S.own.sub g0_0 h93)) ?_
  rintro _ u91 a ⟨F94,A95,c96,rfl,hC⟩ E
  have hs:=hC.sub
  have S:=S.called (X:=[]) hC
  have g0_0:=g0_0.mono hs
  have g1_0:=g1_0.mono hs
  obtain ⟨c99,H⟩:=gd H
  have S:=S.front 5 rfl
  refine ple E (.ap (d:=qd.k) 24 S (qCj (S.row_at (i:=1) rfl)) c99 c96) ?_
  rintro _ u102 a ⟨A100,c101,rfl,S,hz⟩ E
  refine plc E (.r 7 1 .nil) fun a E=>pld ?_
  refine qCe ?_
  refine hK80 _ _ (pl0 (plc E (.r 0 2 .nil) fun a E=>pld ?_))
  have S:=S.pm [3,4,5,0] 6
  exact qCf ⟨k75,by omega,_,A100,c101,(l70++t92),(w64 (x71+1)),F94,by omega,E,.of,S,g0_0,g1_0,H⟩
  refine wp_exit ?_
  refine hK65 _ _ (pl0 (plc E (.r 0 2 .nil) fun a E=>pld ?_))
  refine qCe ?_
  refine qCe ?_
  refine hK45 _ _ (pl0 (plc E (.r 0 2 .nil) fun a E=>pld ?_))
  have S:=S.pm [3,2] 4
  exact qCf ⟨k75,by omega,_,A68,c69,l70,A33,c34,l35,(w64 (x36+1)),F72,by omega,E,.of,S,g0_0,g1_0,H⟩
  refine sq fun K104 hK104=>rr E fun a E=>(wp_block ?_)
  refine wp_loop_ghost (fun kq112 a w'=>∃(G:NV)(A107:OA)(c108:Nat)(l109:List Int)(x110:Int),kq112<=k40/\Env 97 G a/\At G [(0,.slice A0_0 x.length c0_0),(2,iv z),(3,iv p),(11,.slice A107 l109.length c108),(43,.slice (some ad48) y.length c1_0),(44,iv (y.length:Int)),(45,iv x36),(51,.slice A30 l32.length c31),(52,iv (l32.length:Int)),(53,iv x110)]/\Sm W F w' F37 [box b52 #[iv ((nth qM.z y x36).f0),iv ((nth qM.z y x36).f1),iv ((nth qM.z y x36).f2)] 143,row qd.k 190 (.slice A30 l32.length c31) l32,row ki 3 (.slice A107 l109.length c108) l109]/\qAD.l111 kq112 x y z p l32 x36 l109 x110=some r) k40 ⟨_,A33,c34,l35,0,Nat.le_refl _,E,.of,S,H⟩ ?_
  rintro kq112 a u114 ⟨G,A107,c108,l109,x110,hkq,E,A,S,H⟩
  obtain _ | k113:=kq112
  exact zz H
  rw [qAD.l111_s]at H
  obtain ⟨J,E⟩:=E.at A
  refine rr E fun a E=>(sq fun K116 hK116=>E.ik 54 H (fun c117 E H=>?_) fun c117 E H=>?_)
  refine wp_skip (hK116 _ _ (sq fun K118 hK118=>wp_block (sq fun K119 hK119=>pl0 ?_)))
  obtain ⟨c120,H⟩:=gd H
  have hr121:=S.ra 1
  have hE_:=E
  obtain ⟨b122,rfl⟩:=qCi hr121 c120.1 c120.2
  replace E:=hE_
  have hr_:=S.ra 1
  obtain ⟨cs124,rfl,hc125⟩:=qCh hr_ qd.z x110 c120.1 c120.2
  refine plc E (.x 0 c120<|.cs 1 hc125<|.nil) fun a E=>pla (t:=190) E S [iv 0,iv 0,iv 0] fun b126 u127 hb126 S a E=>pls E S [iv ((nth qd.z l32 x110).f0),iv ((nth qd.z l32 x110).f1),iv ((nth qd.z l32 x110).f2)] fun u128 hb126 S a E=>pld (hK119 _ _ (sq fun K129 hK129=>?_))
  have J138:∀ kq136,kq136<=k113->∀(G:NV)(y134:Bool)(a:Act)(w':World),Env 97 G a->At G [(0,.slice A0_0 x.length c0_0),(2,iv z),(3,iv p),(11,.slice A107 l109.length c108),(18,.pointer (pb b126)),(43,.slice (some ad48) y.length c1_0),(44,iv (y.length:Int)),(45,iv x36),(51,.slice (pb b122) l32.length c31),(52,iv (l32.length:Int)),(53,iv x110),(67,.bool y134)]->Sm W F w' F37 [box b126 #[iv ((nth qd.z l32 x110).f0),iv ((nth qd.z l32 x110).f1),iv ((nth qd.z l32 x110).f2)] 190,box b52 #[iv ((nth qM.z y x36).f0),iv ((nth qM.z y x36).f1),iv ((nth qM.z y x36).f2)] 143,row qd.k 190 (.slice (pb b122) l32.length c31) l32,row ki 3 (.slice A107 l109.length c108) l109]->qAD.j135 kq136 x y z p l32 x36 l109 x110 y134=some r->K129 a w':=by
   intro kq136 hkq G y134 a u139 E A S H
   obtain _ | k137:=kq136
   exact zz H
   rw [qAD.j135_s]at H
   obtain ⟨J,E⟩:=E.at A
   refine hK129 _ _ (E.ib 67 H (fun c140 E H=>?_) fun c140 E H=>?_)
   refine pl0 (plc E (.r 0 2<|.b 2 2 (S.ba 0)<|.nil) fun a E=>ple E (.lit (d:=ki) (e:=3) S [(nth qd.z l32 x110).f2] (.cons rfl .nil)) ?_)
   rintro _ u141 a ⟨A142,c143,rfl,S,hg⟩ E
   obtain ⟨c145,H⟩:=gd H
   have S:=S.front 4 rfl
   refine ple E (.ap (d:=ki) 8 S (qCj (S.row_at (i:=1) rfl)) c145 c143) ?_
   rintro _ u148 a ⟨A146,c147,rfl,S,hz⟩ E
   refine plc E (.r 5 1 .nil) fun a E=>pld ?_
   refine qCe ?_
   refine hK118 _ _ (pl0 (plc E (.r 0 2 .nil) fun a E=>pld ?_))
   have S:=S.pm [3,4,0] 5
   exact qCf ⟨k137,by omega,_,A146,c147,(l109++[(nth qd.z l32 x110).f2]),(w64 (x110+1)),by omega,E,.of,S,H⟩
   refine wp_skip ?_
   refine qCe ?_
   refine hK118 _ _ (pl0 (plc E (.r 0 2 .nil) fun a E=>pld ?_))
   have S:=S.tail
   exact qCf ⟨k137,by omega,_,A107,c108,l109,(w64 (x110+1)),by omega,E,.of,S,H⟩
  refine pl0 (plc E (.r 0 5 .nil) fun a E=>E.fk 61 H (fun c130 E H=>?_) fun c130 E H=>?_)
  refine plc E (.r 5 2<|.b 7 2 hb126<|.nil) fun a E=>?_
  obtain ⟨t132,h133,H⟩:=bd H
  refine plq E S en75 (qAG.calls k113 l109 ((nth qd.z l32 x110).f2) _ _ _ _ _ (Sub.refl _) (S.rd_at (i:=3) rfl) h133) fun u131 S a E=>plc E (.r 9 2 .nil) fun a E=>pld ?_
  exact J138 _ (by omega) _ (!t132) _ _ E .of S H
  refine plc E (.r 5 6 .nil) fun a E=>pld ?_
  exact J138 _ (by omega) _ false _ _ E .of S H
  refine wp_exit ?_
  refine hK104 _ _ (pl0 (plc E (.r 0 1 .nil) fun a E=>pld ?_))
  refine qCe ?_
  refine qCe ?_
  refine hK45 _ _ (pl0 (plc E (.r 0 2 .nil) fun a E=>pld ?_))
  have S:=S.nilrow qd.k 190
  have S:=S.pm [0] 3
  exact qCf ⟨k113,by omega,_,none,0,[],A107,c108,l109,(w64 (x36+1)),F37,by omega,E,.of,S,g0_0,g1_0,H⟩
  refine wp_exit ?_
  refine hK26 _ _ (rr E fun a E=>(wp_ret ?_))
  have S:=S.tail
  obtain rfl:=si H
  exact rtN E ⟨_,rfl,_,_,_,rfl,S⟩
 refine pl0 (plc E (.r 0 1 .nil) fun a E=>?_)
 obtain ⟨t5,h6,H⟩:=bd H
 refine plq E S en74 (qAU.calls k x _ _ _ _ _ S.own.sub g0_0 h6) fun u4 S a E=>plc E (.r 2 2 .nil) fun a E=>E.fkn 22 H (fun c7 E H=>?_) fun c7 E H=>?_
 refine plc E (.r 4 1 .nil) fun a E=>?_
 obtain ⟨t9,h10,H⟩:=bd H
 refine plq E S en165 (qAt.calls k y _ _ _ _ _ S.own.sub g1_0 h10) fun u8 S a E=>plc E (.r 6 3 .nil) fun a E=>E.fkn 27 H (fun c11 E H=>?_) fun c11 E H=>?_
 refine plc E (.r 9 4 .nil) fun a E=>E.fk 31 H (fun c12 E H=>?_) fun c12 E H=>?_
 refine plc E (.r 13 11 .nil) fun a E=>pld ?_
 exact J19 _ (by omega) _ true _ _ E .of S H
 refine plc E (.r 13 4 .nil) fun a E=>E.fk 35 H (fun c13 E H=>?_) fun c13 E H=>?_
 refine plc E (.r 17 7 .nil) fun a E=>pld ?_
 exact J19 _ (by omega) _ true _ _ E .of S H
 refine plc E (.r 17 4 .nil) fun a E=>E.fk 39 H (fun c14 E H=>?_) fun c14 E H=>?_
 refine plc E (.r 21 3 .nil) fun a E=>pld ?_
 exact J19 _ (by omega) _ true _ _ E .of S H
 refine plc E (.r 21 3 .nil) fun a E=>pld ?_
 exact J19 _ (by omega) _ (decide (p>3)) _ _ E .of S H
 refine plc E (.r 9 15 .nil) fun a E=>pld ?_
 exact J19 _ (by omega) _ true _ _ E .of S H
 refine plc E (.r 4 20 .nil) fun a E=>pld ?_
 exact J19 _ (by omega) _ true _ _ E .of S H
def qBI.j6:Nat->Int->Bool->Option (List qM)
 | 0,_,_=>none
 | k+1,x,y5=>if y5=true then (some []) else (some [(⟨1,0,0⟩:qM),(⟨2,1,x⟩:qM),(⟨2,2,1⟩:qM),(⟨2,3,1⟩:qM),(⟨3,0,0⟩:qM)])
theorem qBI.j6_s k x y5:type_of% (qBI.j6.eq_2 x y5 k):=qBI.j6.eq_2 x y5 k
def qBI.f(k:Nat)(x:Int):Option (List qM):=if x<1 then (qBI.j6 k x true) else (qBI.j6 k x (decide (x>3)))
def qBI.Post(W F:World)(r:List qM)(v:Value)(w':World):Prop:=∃(F':World)(RA0_0:OA)(rc0_0:Nat),v = .slice RA0_0 r.length rc0_0/\Sm W F w' F' [row qM.k 143 (.slice RA0_0 r.length rc0_0) r]
theorem qBI.calls(k:Nat)(x:Int)(r:List qM)(W F:World)(hown:Sub F W)(H:qBI.f k x=some r):
    Cr 141 #[iv x] W (qBI.Post W F r):=by
 have S:=sT hown
 unfold qBI.f at H
 refine ent 16 rfl rfl rfl fun a E=>?_
 refine rr E fun a E=>(sq fun K2 hK2=>sq fun K3 hK3=>?_)
 have J9:∀ kq7,kq7<=k->∀(G:NV)(y5:Bool)(a:Act)(w':World),Env 16 G a->At G [(0,iv x),(8,.bool y5)]->Sm W F w' F []->qBI.j6 kq7 x y5=some r->K3 a w':=by
  intro kq7 hkq G y5 a u10 E A S H
  obtain _ | k8:=kq7
  exact zz H
  rw [qBI.j6_s]at H
  obtain ⟨J,E⟩:=E.at A
  refine hK3 _ _ (E.ib 8 H (fun c11 E H=>?_) fun c11 E H=>?_)
  refine rr E fun a E=>(wp_ret (qCc ?_))
  have S:=S.nilrow qM.k 143
  obtain rfl:=si H
  exact rt1 E ⟨_,rfl,_,_,_,rfl,S⟩
  refine wp_skip (hK2 _ _ (sq fun K14 hK14=>pl0 (plc E (.r 0 6 .nil) fun a E=>ple E (.lit (d:=qM.k) (e:=143) S [(⟨1,0,0⟩:qM),(⟨2,1,x⟩:qM),(⟨2,2,1⟩:qM),(⟨2,3,1⟩:qM),(⟨3,0,0⟩:qM)] (.cons rfl<|.cons rfl<|.cons rfl<|.cons rfl<|.cons rfl .nil)) ?_)))
  rintro _ u15 a ⟨A16,c17,rfl,S,hg⟩ E
  refine plc E (.r 7 1 .nil) fun a E=>pld (hK14 _ _ (wp_ret ?_))
  obtain rfl:=si H
  exact rt1 E ⟨_,rfl,_,_,_,rfl,S⟩
 refine pl0 (plc E (.r 0 3 .nil) fun a E=>E.fk 5 H (fun c4 E H=>?_) fun c4 E H=>?_)
 refine plc E (.r 3 3 .nil) fun a E=>pld ?_
 exact J9 _ (by omega) _ true _ _ E .of S H
 refine plc E (.r 3 3 .nil) fun a E=>pld ?_
 exact J9 _ (by omega) _ (decide (x>3)) _ _ E .of S H
def qCM.f(k:Nat)(x:List qA)(y:Int)(z:Int):Option (List Int):=(qBI.f k z).bind fun t4=>((qAD.f k x t4 y z).bind fun t14=>(some t14.1))
def qCM.Post(W F:World)(r:List Int)(v:Value)(w':World):Prop:=∃(F':World)(RA0_0:OA)(rc0_0:Nat),v = .slice RA0_0 r.length rc0_0/\Sm W F w' F' [row ki 3 (.slice RA0_0 r.length rc0_0) r]
theorem qCM.calls(k:Nat)(x:List qA)(y:Int)(z:Int)(A0_0:OA)(c0_0:Nat)(r:List Int)(W F:World)(hown:Sub F W)(g0_0:Rd qA.k F A0_0 c0_0 x)(H:qCM.f k x y z=some r):
    Cr 114 #[.slice A0_0 x.length c0_0,iv y,iv z] W (qCM.Post W F r):=by
 have S:=sT hown
 unfold qCM.f at H
 refine ent 19 rfl rfl rfl fun a E=>?_
 refine rr E fun a E=>(sq fun K2 hK2=>pl0 (plc E (.r 0 2 .nil) fun a E=>?_))
 obtain ⟨t4,h5,H⟩:=bd H
 refine ple E (.cl en141 (qBI.calls k z _ _ _ S.own.sub h5)) ?_
 rintro _ u3 a ⟨F6,A7,c8,rfl,hC⟩ E
 have hs:=hC.sub
 have S:=S.called (X:=[]) hC
 have g0_0:=g0_0.mono hs
 refine plc E (.r 3 2 .nil) fun a E=>?_
 obtain ⟨F11,hs,g12,S⟩:=S.give
 have g0_0:=g0_0.mono hs
 obtain ⟨t14,h15,H⟩:=bd H
 refine ple E (.cl en140 (qAD.calls k x t4 y z _ _ _ _ _ _ _ S.own.sub g0_0 g12 h15)) ?_
 rintro _ u13 a ⟨F16,A17,c18,rfl,hC⟩ E
 have S:=S.called (X:=[]) hC
 refine plc E (.r 6 5 .nil) fun a E=>pld (hK2 _ _ (rr E fun a E=>(wp_ret ?_)))
 obtain rfl:=si H
 exact rt1 E ⟨_,rfl,_,_,_,rfl,S⟩
def qCN.f(k:Nat)(x:qD)(y:Int):Option (List Int):=(qCI.f k x y).bind fun t7=>(if t7.2=true then (if 0<=t7.1/\t7.1<(x.f5.length:Int) then ((qAP.f ((nth qE.z x.f5 t7.1).f1)).bind fun t21=>(some t21)) else (none)) else ((qCM.f k x.f4 y x.f1).bind fun t30=>(some t30)))
def qCN.Post(W F:World)(r:List Int)(v:Value)(w':World):Prop:=∃(F':World)(RA0_0:OA)(rc0_0:Nat),v = .slice RA0_0 r.length rc0_0/\Sm W F w' F' [row ki 3 (.slice RA0_0 r.length rc0_0) r]
theorem qCN.calls(k:Nat)(x:qD)(y:Int)(A0_4:OA)(c0_4:Nat)(A0_5:OA)(c0_5:Nat)(A0_6:OA)(c0_6:Nat)(r:List Int)(W F:World)(hown:Sub F W)(g0_4:Rd qA.k F A0_4 c0_4 x.f4)(g0_5:Rd qE.k F A0_5 c0_5 x.f5)(g0_6:Rd qC.k F A0_6 c0_6 x.f6)(H:qCN.f k x y=some r):
    Cr 94 #[.agg (mA x A0_4 c0_4 A0_5 c0_5 A0_6 c0_6),iv y] W (qCN.Post W F r):=by
 have S:=sT hown
 unfold qCN.f at H
 refine ent 27 rfl rfl rfl fun a E=>?_
 refine sq fun K1 hK1=>pl0 (plx (t:=26) E S (mL x A0_4 c0_4 A0_5 c0_5 A0_6 c0_6) fun b2 u3 hb2 S a E=>plc E (.r 1 1 .nil) fun a E=>pld (hK1 _ _ (sq fun K4 hK4=>sq fun K5 hK5=>pl0 (plc E (.bn 0 0 7 hb2<|.r 1 1<|.nil) fun a E=>?_))))
 obtain ⟨t7,h8,H⟩:=bd H
 refine plq E S en121 (qCI.calls k x y _ _ _ _ _ _ _ _ _ S.own.sub g0_4 g0_5 g0_6 h8) fun u6 S a E=>plc E (.r 3 5 .nil) fun a E=>pld (hK5 _ _ (rr E fun a E=>(E.ib 13 H (fun c10 E H=>?_) fun c10 E H=>?_)))
 refine sq fun K11 hK11=>pl0 ?_
 have hb2:=S.ba 0
 obtain ⟨c12,H⟩:=gd H
 have hE_:=E
 obtain ⟨ad13,rfl⟩:=g0_5.addr c12.1 c12.2
 replace E:=hE_
 obtain ⟨cs15,⟨A17,c18,rfl,g19⟩,hc16⟩:=g0_5.el qE.z t7.1 c12.1 c12.2
 refine plc E (.r 0 1<|.b 1 5 hb2<|.r 2 1<|.x 3 c12<|.r 4 1<|.c 5 (S.fc hc16 1)<|.nil) fun a E=>?_
 obtain ⟨t21,h22,H⟩:=bd H
 refine ple E (.cl en54 (qAP.calls ((nth qE.z x.f5 t7.1).f1) _ _ _ _ _ S.own.sub g19 h22)) ?_
 rintro _ u20 a ⟨F23,A24,c25,rfl,hC⟩ E
 have hs:=hC.sub
 have S:=S.called (X:=[]) hC
 have g0_4:=g0_4.mono hs
 refine plc E (.r 7 1 .nil) fun a E=>pld (hK11 _ _ (wp_ret (qCc ?_)))
 have S:=S.pm [0] 2
 obtain rfl:=si H
 exact rt1 E ⟨_,rfl,_,_,_,rfl,S⟩
 refine wp_skip (hK4 _ _ (sq fun K28 hK28=>pl0 ?_))
 have hb2:=S.ba 0
 refine plc E (.r 0 1<|.b 1 4 hb2<|.r 2 2<|.b 4 1 hb2<|.nil) fun a E=>?_
 obtain ⟨t30,h31,H⟩:=bd H
 refine ple E (.cl en114 (qCM.calls k x.f4 y x.f1 _ _ _ _ _ S.own.sub g0_4 h31)) ?_
 rintro _ u29 a ⟨F32,A33,c34,rfl,hC⟩ E
 have S:=S.called (X:=[]) hC
 refine plc E (.r 6 1 .nil) fun a E=>pld (hK28 _ _ (wp_ret ?_))
 have S:=S.pm [0] 2
 obtain rfl:=si H
 exact rt1 E ⟨_,rfl,_,_,_,rfl,S⟩
theorem qJD:Et 135:=eo Tryz.func135
set_option maxHeartbeats 1000000 in
theorem qIF(F:Fence)(n:Nat)(h5:F.fn 106)(hro:F.round=none)(a:Option Addr)(len cap:Nat)(w:World):
  CallsIn F n Tryz.prog 106 #[.slice a len cap] w fun e w'=>e = .returned (.func (.func 135) #[] #[.pointer (some ⟨w.heap.size,0,none⟩)])/\w'=w.alloc (.cells #[.slice a len cap] 27):=by
 refine callsIn_of_wp Tryz.func106 rfl h5 ?_ hro
 simp only [Tryz.ntmps106,List.size_toArray,List.length_cons,List.length_nil,Nat.reduceAdd,Nat.reduceSub,Array.replicate_succ,Array.replicate_zero,List.push_toArray,List.append_toArray,List.nil_append,List.cons_append]
 gi_wp2
 go_ret
 exact ⟨rfl,rfl⟩
theorem qCU.calls(x0_:List Int)(A0_0:Option Addr)(c0_0:Nat)(W F:World)(hown:Sub F W):
  Calls Tryz.prog 106 #[.slice A0_0 x0_.length c0_0] W fun e w'=>∃ v,e = .returned v/\∃ p,v = .func (.func 135) #[] #[.pointer (some ⟨p,0,none⟩)]/\St W (mine W []) F w' F [box p #[.slice A0_0 x0_.length c0_0] 27]:=by
 refine (callsIn_wide.1 (qIF Fence.wide 1 trivial rfl A0_0 x0_.length c0_0 W)).mono ?_
 rintro e w' ⟨rfl,rfl⟩
 exact ⟨_,rfl,_,rfl,(sT hown).box _ _⟩
def upto{α : Type}(f:Nat->α)(k:Nat):List α:=(List.range k).map f
theorem qIG{α : Type}(f:Nat->α)(k:Nat):upto f (k+1)=upto f k++[f k]:=by simp [upto,List.range_succ]
theorem qGe{α : Type}(f:Nat->α)(k:Nat):(upto f k).length=k:=by simp [upto]
theorem qJE(zs:List Int):upto (fun j=>zs[j]?.getD 0) zs.length=zs:=by
 apply List.ext_getElem
 ·simp [upto]
 ·intro i h1 h2
  simp [upto,h2]
section
attribute [local go_sem] Oper.semAt_some
set_option maxRecDepth 100000 in
set_option maxHeartbeats 2000000 in
theorem qHd (F:Fence) (n:Nat) (h7:F.fn 135) (hro:F.round=none) (hn:1<=n) (l Bs n₀ b off cap:Nat) (zs:List Int) (hreach:zs.length * 8<=140737488351232) (hb:b<n₀) (J:List Int->World->Prop)
  (hY:∀ pre x W,J pre W->pre.length<zs.length->YieldAt F (n - 1) Tryz.prog l #[.int .i64 x] W fun e W'=>e = .returned (.bool true)/\J (pre++[x]) W'/\Below n₀ W W')
  (W:World) (hBs:W.cell? ⟨Bs,0,none⟩=some (.slice (some ⟨b,off,none⟩) zs.length cap)) (hc:∀ j,j<zs.length->W.cell? ⟨b,off+j,none⟩=some (.int .i64 (zs[j]?.getD 0))) (h0:J [] W) :
  CallsIn F n Tryz.prog 135 #[.func (.yield l) #[] #[],.pointer (some ⟨Bs,0,none⟩)] W fun e W'=>(∃ v,e = .returned v)/\J zs W':=by
 obtain ⟨len,hlen⟩:∃ len,Hid (zs.length=len):=⟨_,rfl⟩
 rw [hlen.out]at hreach hBs hc hY
 refine callsIn_of_wp Tryz.func135 rfl h7 ?_ hro
 simp only [Tryz.ntmps135,List.size_toArray,List.length_cons,List.length_nil,Nat.reduceAdd,Nat.reduceSub,Array.replicate_succ,Array.replicate_zero,List.push_toArray,List.append_toArray,List.nil_append,List.cons_append]
 gi_wp2
 gi_loopw [7] (fun i wr=>∃ k:Nat,k<=len/\i = .int .i64 k/\J (upto (fun j=>zs[j]?.getD 0) k) wr/\Below n₀ W wr)
  fun i _=>len - (Sl.intOf' i).toNat
 case atStart=>exact ⟨0,Nat.zero_le _,rfl,h0,Below.refl _ _⟩
 case round =>
  obtain ⟨k,hk,rfl,hJs,hnx⟩:=hrel
  have hcx:k<len->wr.cell? ⟨b,off+k,none⟩=some (.int .i64 (zs[k]?.getD 0)):=fun h=>(hnx.cell (p:=⟨b,off+k,none⟩) hb).trans (hc k h)
  by_cases hlt:k<len
  ·obtain ⟨fn,tmps,assign,body,hy,hR⟩:=hY _ (zs[k]?.getD 0) wr hJs (by rw [qGe]; exact hlt)
   have hcx':=hcx hlt
   gi_wp2
   refine hR.mono ?_
   rintro e W3 ⟨rfl,hJ3,hk3⟩
   gi_wp2
   go_roundw
   case rel=>exact ⟨k+1,by omega,by simp,by rw [qIG]; exact hJ3,hnx.trans hk3⟩
   case measure=>simp [Sl.intOf']; omega
  ·obtain rfl:k=len:=by omega
   gi_wp2
   go_end0
   refine ⟨⟨_,rfl⟩,?_⟩
   rw [← hlen.out,qJE]at hJs
   exact hJs
set_option maxRecDepth 100000 in
set_option maxHeartbeats 1000000 in
theorem qEv(F:Fence)(n:Nat)(h7:F.fn 135)(hro:F.round=none)(l Bs:Nat)(A:Option Addr)(cap:Nat)(J:List Int->World->Prop)(W:World)(hBs:W.cell? ⟨Bs,0,none⟩=some (.slice A 0 cap))(h0:J [] W):
  CallsIn F n Tryz.prog 135 #[.func (.yield l) #[] #[],.pointer (some ⟨Bs,0,none⟩)] W fun e W'=>(∃ v,e = .returned v)/\J [] W':=by
 refine callsIn_of_wp Tryz.func135 rfl h7 ?_ hro
 simp only [Tryz.ntmps135,List.size_toArray,List.length_cons,List.length_nil,Nat.reduceAdd,Nat.reduceSub,Array.replicate_succ,Array.replicate_zero,List.push_toArray,List.append_toArray,List.nil_append,List.cons_append]
 gi_wp2
 gi_loopw [7] (fun i wr=>i = .int .i64 0/\J [] wr) fun _ _=>0
 case atStart=>exact ⟨rfl,h0⟩
 case round =>
  obtain ⟨rfl,hJs⟩:=hrel
  gi_wp2
  go_end0
  exact ⟨⟨_,rfl⟩,hJs⟩
end
theorem qFy(n:Nat)(hn:1<=n){A:Option Addr}{c p:Nat}{xs:List Int}{F W:World}(hs:Sub F W)(hr:Rd (Kn.int .i64) F A c xs)(hp:F.heap[p]? = some (.cells #[.slice A xs.length c] 27 (0,0)))(hreach:xs.length * 8<=140737488351232):GivesD Fence.wide n Tryz.prog 135 #[.pointer (some ⟨p,0,none⟩)] xs W:=by
 intro l J W1 hW hY h0
 have hpW:=hs _ _ _ _ hp
 have hB:W.cell? ⟨p,0,none⟩=some (.slice A xs.length c):=by simp [World.cell?,hpW]
 have hB1:=(hW.cell (p:=⟨p,0,none⟩) (qCs hpW)).trans hB
 rcases Nat.eq_zero_or_pos xs.length with h | h
 ·obtain rfl:xs=[]:=List.eq_nil_of_length_eq_zero h
  exact qEv Fence.wide n trivial rfl l p A c J W1 hB1 h0
 ·obtain ⟨ad,rfl,hc⟩:=hr.2.2 h
  have hcell:∀ j (hj:j<xs.length),W.cell? (ad.add (j * 1+0))=some (.int .i64 xs[j]):=fun j hj=>by
   obtain ⟨cs,hK,hcs⟩:=hc j xs[j] (List.getElem?_eq_getElem hj)
   have e:cs=[.int .i64 xs[j]]:=hK
   exact hs.cell (hcs 0 _ (by rw [e]; rfl))
  have ha:=qFd (hcell 0 h)
  have e0:ad.add (0 * 1+0)=ad:=rfl
  rw [e0]at ha
  obtain ⟨b,off,s⟩:=ad
  obtain rfl:s=none:=congrArg Addr.spot ha.1
  refine qHd Fence.wide n trivial rfl hn l p W.heap.size b off c xs hreach ha.2 J hY W1 hB1 (fun j hj=>?_) h0
  have hj1:=hcell j hj
  have e1:(⟨b,off,none⟩:Addr).add (j * 1+0)=⟨b,off+j,none⟩:=by
   unfold Addr.add
   rw [Nat.mul_one,Nat.add_zero]
   split
   ·rename_i h; rw [h]; rfl
   ·rfl
  rw [e1]at hj1
  rw [(hW.cell (p:=⟨b,off+j,none⟩) ha.2).trans hj1,List.getElem?_eq_getElem hj]
  rfl
def qAM.f(x0c0_:List Int):Option (List Int):=if x0c0_.length<=1000000 then some x0c0_ else none
def qAM.Post(W F:World)(r:List Int)(v:Value)(w':World):Prop:=∃(F':World)(RA0_0:Option Addr)(rc0_0:Nat),v = .slice RA0_0 r.length rc0_0/\St W (mine W []) F w' F' [row (Kn.int .i64) 3 (.slice RA0_0 r.length rc0_0) r]
theorem qAM.calls(x0c0_:List Int)(p0c0_:Nat)(A0c0_0:Option Addr)(c0c0_0:Nat)(r:List Int)(W F:World)(hown:Sub F W)(g0c0_0:Rd (Kn.int .i64) F A0c0_0 c0c0_0 x0c0_)(hp0c0_:F.heap[p0c0_]? = some (.cells #[.slice A0c0_0 x0c0_.length c0c0_0] 27 (0,0)))(H:qAM.f x0c0_=some r):
  Calls Tryz.prog 133 #[.func (.func 135) #[] #[.pointer (some ⟨p0c0_,0,none⟩)]] W fun e w'=>∃ v,e = .returned v/\qAM.Post W F r v w':=by
 have hS:=sT hown
 unfold qAM.f at H
 split at H
 ·rename_i hmax
  injection H with H
  subst H
  refine (callsIn_wide.1 (collectD Tryz.collectI Fence.wide 5 trivial trivial rfl (by omega) 135 #[.pointer (some ⟨p0c0_,0,none⟩)] trivial qJD x0c0_ (Nat.le_trans hmax (by decide)) (by omega) W (qFy 3 (by omega) hown g0c0_0 hp0c0_ (by omega)))).mono ?_
  rintro e w' ⟨v,rfl,hr,hb,hd⟩
  have h1:=collected hS hr hb hd
  rcases hr.2 with ⟨rfl,h0⟩ | ⟨g,cap,cur,rfl,_⟩
  ·refine ⟨_,rfl,F,none,0,by rw [h0],?_⟩
   rw [h0]
   exact h1
  ·exact ⟨_,rfl,F,some ⟨g,0,none⟩,cap,rfl,h1⟩
 ·cases H
def qBZ.f(x0_:List Int):Option (List Int):=sortI x0_
def qBZ.Post(x0_:List Int)(A0_0:Option Addr)(c0_0:Nat)(W F:World)(r:List Int)(v:Value)(w':World):Prop:=∃(F':World),v = .tuple #[]/\St W (mine W [row ki 3 (.slice A0_0 x0_.length c0_0) x0_]) F w' F' [row ki 3 (.slice A0_0 x0_.length c0_0) r]
theorem qBZ.calls(x0_:List Int)(A0_0:Option Addr)(c0_0:Nat)(r:List Int)(W F:World)(hown:Own W F [row ki 3 (.slice A0_0 x0_.length c0_0) x0_])(H:qBZ.f x0_=some r):
  Calls Tryz.prog 134 #[.slice A0_0 x0_.length c0_0] W fun e w'=>∃ v,e = .returned v/\qBZ.Post x0_ A0_0 c0_0 W F r v w':=qGc Tryz.sortI hown H
def qAB.f(x0c0_:List Int):Option (List Int):=(qAM.f x0c0_).bind fun t4=>((qBZ.f t4).bind fun t13=>(some t13))
def qAB.Post(W F:World)(r:List Int)(v:Value)(w':World):Prop:=∃(F':World)(RA0_0:OA)(rc0_0:Nat),v = .slice RA0_0 r.length rc0_0/\Sm W F w' F' [row ki 3 (.slice RA0_0 r.length rc0_0) r]
theorem qAB.calls(x0c0_:List Int)(p0c0_:Nat)(A0c0_0:OA)(c0c0_0:Nat)(r:List Int)(W F:World)(hown:Sub F W)(g0c0_0:Rd ki F A0c0_0 c0c0_0 x0c0_)(hp0c0_:F.heap[p0c0_]? = some (.cells #[.slice A0c0_0 x0c0_.length c0c0_0] 27 (0,0)))(H:qAB.f x0c0_=some r):
    Cr 105 #[.func (.func 135) #[] #[.pointer (pb p0c0_)]] W (qAB.Post W F r):=by
 have S:=sT hown
 unfold qAB.f at H
 refine ent 9 rfl rfl rfl fun a E=>?_
 refine rr E fun a E=>(sq fun K2 hK2=>pl0 (plc E (.r 0 1 .nil) fun a E=>?_))
 obtain ⟨t4,h5,H⟩:=bd H
 refine ple E (.cl en133 (qAM.calls x0c0_ _ _ _ _ _ _ S.own.sub g0c0_0 hp0c0_ h5)) ?_
 rintro _ u3 a ⟨F6,A7,c8,rfl,hC⟩ E
 have S:=S.called (X:=[]) hC
 refine plc E (.r 2 1 .nil) fun a E=>pld (hK2 _ _ (sq fun K11 hK11=>pl0 (plc E (.r 0 1 .nil) fun a E=>?_)))
 obtain ⟨t13,h14,H⟩:=bd H
 refine ple E (.cl en134 (qBZ.calls t4 _ _ _ _ _ (Own.left (X:=[row ki 3 (.slice A7 t4.length c8) t4]) S.own) h14)) ?_
 rintro _ u12 a ⟨F15,rfl,hC⟩ E
 have S:=S.called (X:=[row ki 3 (.slice A7 t4.length c8) t4]) hC
 refine pld (hK11 _ _ (rr E fun a E=>(wp_ret ?_)))
 have hn17:=(qCg (S.row_at (i:=0) rfl)).1
 replace E:=E.set (d:=2) (v:=.slice A7 t13.length c8) (Eq.trans (b:=.slice A7 t4.length c8) (by kernel_rfl) (by rw [← hn17]))
 replace S:Sm W F u12 F15 [row ki 3 (.slice A7 t13.length c8) t13]:=by rw [← hn17]; exact S
 obtain rfl:=si H
 exact rt1 E ⟨_,rfl,_,_,_,rfl,S⟩
def qBX.f(k:Nat)(x:qG)(xf0_:qG):Option Bool:=(qr.f k x.f1 xf0_.f1).bind fun t6=>(some t6)
def qBX.Post(W F:World)(r:Bool)(v:Value)(w':World):Prop:=∃(F':World),v = .bool r/\Sm W F w' F' []
theorem qBX.calls(k:Nat)(x:qG)(xf0_:qG)(A0_1:OA)(c0_1:Nat)(pf0_:Nat)(Af0_1:OA)(cf0_1:Nat)(r:Bool)(W F:World)(hown:Sub F W)(g0_1:Rd ki F A0_1 c0_1 x.f1)(gf0_1:Rd ki F Af0_1 cf0_1 xf0_.f1)(hpf0_:F.heap[pf0_]? = some (.cells #[iv xf0_.f0,.slice Af0_1 xf0_.f1.length cf0_1] 77 (0,0)))(H:qBX.f k x xf0_=some r):
    Cr 108 #[.agg #[iv x.f0,.slice A0_1 x.f1.length c0_1],.pointer (pb pf0_)] W (qBX.Post W F r):=by
 have S:=sT hown
 unfold qBX.f at H
 refine ent 9 rfl rfl rfl fun a E=>?_
 refine sq fun K1 hK1=>pl0 (plx (t:=77) E S [iv x.f0,.slice A0_1 x.f1.length c0_1] fun b2 u3 hb2 S a E=>plc E (.r 1 1 .nil) fun a E=>pld (hK1 _ _ (sq fun K4 hK4=>pl0 (plc E (.r 0 1<|.b 1 1 hb2<|.r 2 1<|.b 3 1 (S.own.sub _ _ _ _ hpf0_)<|.nil) fun a E=>?_))))
 obtain ⟨t6,h7,H⟩:=bd H
 refine plq E S en63 (qr.calls k x.f1 xf0_.f1 _ _ _ _ _ _ _ S.own.sub g0_1 gf0_1 h7) fun u5 S a E=>plc E (.r 5 1 .nil) fun a E=>pld (hK4 _ _ (wp_ret ?_))
 have S:=S.tail
 obtain rfl:=si H
 exact rt1 E ⟨_,rfl,_,rfl,S⟩
def qa.l5:Nat->List qG->qG->Int->Option Int
 | 0,_,_,_=>none
 | k+1,x,x1c0_,x4=>if x4<(x.length:Int) then (if 0<=x4/\x4<(x.length:Int) then ((qBX.f k (nth qG.z x x4) x1c0_).bind fun t24=>(if t24=true then (some x4) else (qa.l5 k x x1c0_ (w64 (x4+1))))) else (none)) else (some (-1))
theorem qa.l5_s k x x1c0_ x4:type_of% (qa.l5.eq_2 x x1c0_ x4 k):=qa.l5.eq_2 x x1c0_ x4 k
def qa.f(k:Nat)(x:List qG)(x1c0_:qG):Option Int:=qa.l5 k x x1c0_ 0
def qa.Post(W F:World)(r:Int)(v:Value)(w':World):Prop:=∃(F':World),v=iv r/\Sm W F w' F' []
theorem qa.calls(k:Nat)(x:List qG)(x1c0_:qG)(A0_0:OA)(c0_0:Nat)(p1c0_:Nat)(A1c0_1:OA)(c1c0_1:Nat)(r:Int)(W F:World)(hown:Sub F W)(g0_0:Rd qG.k F A0_0 c0_0 x)(g1c0_1:Rd ki F A1c0_1 c1c0_1 x1c0_.f1)(hp1c0_:F.heap[p1c0_]? = some (.cells #[iv x1c0_.f0,.slice A1c0_1 x1c0_.f1.length c1c0_1] 77 (0,0)))(H:qa.f k x x1c0_=some r):
    Cr 136 #[.slice A0_0 x.length c0_0,.func (.func 108) #[] #[.pointer (pb p1c0_)]] W (qa.Post W F r):=by
 have S:=sT hown
 unfold qa.f at H
 refine ent 19 rfl rfl rfl fun a E=>?_
 refine rr E fun a E=>(sq fun K2 hK2=>rr E fun a E=>(wp_block ?_))
 refine wp_loop_ghost (fun kq6 a w'=>∃(G:NV)(x4:Int),kq6<=k/\Env 19 G a/\At G [(0,.slice A0_0 x.length c0_0),(1,.func (.func 108) #[] #[.pointer (pb p1c0_)]),(7,iv (x.length:Int)),(8,iv x4)]/\Sm W F w' F []/\qa.l5 kq6 x x1c0_ x4=some r) k ⟨_,0,Nat.le_refl _,E,.of,S,H⟩ ?_
 rintro kq6 a u8 ⟨G,x4,hkq,E,A,S,H⟩
 obtain _ | k7:=kq6
 exact zz H
 rw [qa.l5_s]at H
 obtain ⟨J,E⟩:=E.at A
 refine rr E fun a E=>(sq fun K10 hK10=>E.ik 9 H (fun c11 E H=>?_) fun c11 E H=>?_)
 refine wp_skip (hK10 _ _ (sq fun K12 hK12=>wp_block (rr E fun a E=>(sq fun K14 hK14=>pl0 ?_))))
 obtain ⟨c15,H⟩:=gd H
 have hE_:=E
 obtain ⟨ad16,rfl⟩:=g0_0.addr c15.1 c15.2
 replace E:=hE_
 obtain ⟨cs18,⟨A20,c21,rfl,g22⟩,hc19⟩:=g0_0.el qG.z x4 c15.1 c15.2
 refine plc E (.r 0 3<|.x 3 c15<|.cs 4 (S.fcs hc19)<|.nil) fun a E=>?_
 obtain ⟨t24,h25,H⟩:=bd H
 refine plq E S en108 (qBX.calls k7 (nth qG.z x x4) x1c0_ _ _ _ _ _ _ _ _ S.own.sub g22 g1c0_1 hp1c0_ h25) fun u23 S a E=>pld (hK14 _ _ (E.ib 16 H (fun c26 E H=>?_) fun c26 E H=>?_))
 refine rr E fun a E=>(wp_ret (qCd (qCc (qCc (qCd (qCc ?_))))))
 obtain rfl:=si H
 exact rt1 E ⟨_,rfl,_,rfl,S⟩
 refine wp_skip ?_
 refine qCe ?_
 refine hK12 _ _ (pl0 (plc E (.r 0 2 .nil) fun a E=>pld ?_))
 exact qCf ⟨k7,by omega,_,(w64 (x4+1)),by omega,E,.of,S,H⟩
 refine wp_exit ?_
 refine hK2 _ _ (rr E fun a E=>(wp_ret ?_))
 obtain rfl:=si H
 exact rt1 E ⟨_,rfl,_,rfl,S⟩
def qT.l15:Nat->List qG->qG->List qG->Int->Int->Option (List qG)
 | 0,_,_,_,_,_=>none
 | k+1,x,x1c0_,l12,x13,x14=>if x14<(x.length:Int) then (if 0<=x14/\x14<(x.length:Int) then ((qBX.f k (nth qG.z l12 x14) x1c0_).bind fun t39=>(if t39=true then (qT.l15 k x x1c0_ l12 x13 (w64 (x14+1))) else (if 0<=x13/\x13<(x.length:Int) then (qT.l15 k x x1c0_ (l12.set (x13).toNat (nth qG.z l12 x14)) (w64 (x13+1)) (w64 (x14+1))) else (none)))) else (none)) else (if 0<=x13/\x13<=(x.length:Int) then (some (cutl (l12.take (x13).toNat++List.replicate (x.length - (x13).toNat) qG.z) 0 x13)) else (none))
theorem qT.l15_s k x x1c0_ l12 x13 x14:type_of% (qT.l15.eq_2 x x1c0_ l12 x13 x14 k):=qT.l15.eq_2 x x1c0_ l12 x13 x14 k
def qT.f(k:Nat)(x:List qG)(x1c0_:qG):Option (List qG):=(qa.f k x x1c0_).bind fun t4=>(if t4=(-1) then (some x) else (qT.l15 k x x1c0_ x t4 (w64 (t4+1))))
def qT.Post(x:List qG)(x1c0_:qG)(A0_0:OA)(c0_0:Nat)(p1c0_:Nat)(A1c0_1:OA)(c1c0_1:Nat)(W F:World)(r:List qG)(v:Value)(w':World):Prop:=∃(F':World)(RA0_0:OA)(rc0_0:Nat),v = .slice RA0_0 r.length rc0_0/\St W (mine W [row qG.k 77 (.slice A0_0 x.length c0_0) x]) F w' F' [row qG.k 77 (.slice RA0_0 r.length rc0_0) r]
theorem qT.calls(k:Nat)(x:List qG)(x1c0_:qG)(A0_0:OA)(c0_0:Nat)(p1c0_:Nat)(A1c0_1:OA)(c1c0_1:Nat)(r:List qG)(W F:World)(hown:Own W F [row qG.k 77 (.slice A0_0 x.length c0_0) x])(g1c0_1:Rd ki F A1c0_1 c1c0_1 x1c0_.f1)(hp1c0_:F.heap[p1c0_]? = some (.cells #[iv x1c0_.f0,.slice A1c0_1 x1c0_.f1.length c1c0_1] 77 (0,0)))(H:qT.f k x x1c0_=some r):
    Cr 107 #[.slice A0_0 x.length c0_0,.func (.func 108) #[] #[.pointer (pb p1c0_)]] W (qT.Post x x1c0_ A0_0 c0_0 p1c0_ A1c0_1 c1c0_1 W F r):=by
 have S:=St.start hown
 obtain ⟨N,hN⟩:∃ N,N=mine W [row qG.k 77 (.slice A0_0 x.length c0_0) x]:=⟨_,rfl⟩
 rw [← hN]at S
 unfold qT.f at H
 refine ent 42 rfl rfl rfl fun a E=>?_
 refine rr E fun a E=>(sq fun K2 hK2=>pl0 (plc E (.r 0 2 .nil) fun a E=>?_))
 obtain ⟨t4,h5,H⟩:=bd H
 refine plq E S en136 (qa.calls k x x1c0_ _ _ _ _ _ _ _ _ (Sub.refl _) (S.rd_at (i:=0) rfl) (g1c0_1.mono S.own.sub) (S.own.sub _ _ _ _ hp1c0_) h5) fun u3 S a E=>plc E (.r 3 1 .nil) fun a E=>pld (hK2 _ _ (sq fun K6 hK6=>rr E fun a E=>(E.ik 12 H (fun c8 E H=>?_) fun c8 E H=>?_)))
 refine rr E fun a E=>(wp_ret (qCc ?_))
 rw [hN]at S
 obtain rfl:=si H
 exact rt1 E ⟨_,rfl,_,_,_,rfl,S⟩
 refine wp_skip (hK6 _ _ (sq fun K10 hK10=>rr E fun a E=>(wp_block ?_)))
 refine wp_loop_ghost (fun kq16 a w'=>∃(G:NV)(l12:List qG)(x13:Int)(x14:Int),kq16<=k/\Env 42 G a/\At G [(0,.slice A0_0 x.length c0_0),(1,.func (.func 108) #[] #[.pointer (pb p1c0_)]),(5,iv x13),(6,iv x14)]/\St W N F w' F [row qG.k 77 (.slice A0_0 x.length c0_0) l12]/\qT.l15 kq16 x x1c0_ l12 x13 x14=some r) k ⟨_,x,t4,(w64 (t4+1)),Nat.le_refl _,E,.of,S,H⟩ ?_
 rintro kq16 a u18 ⟨G,l12,x13,x14,hkq,E,A,S,H⟩
 obtain _ | k17:=kq16
 exact zz H
 rw [qT.l15_s]at H
 obtain ⟨J,E⟩:=E.at A
 refine sq fun K19 hK19=>rr E fun a E=>(E.ik 19 H (fun c21 E H=>?_) fun c21 E H=>?_)
 refine wp_skip (hK19 _ _ (sq fun K22 hK22=>wp_block (sq fun K23 hK23=>pl0 ?_)))
 obtain ⟨c24,H⟩:=gd H
 have hr25:=S.ra 0
 have c26:0<=x14/\x14<(l12.length:Int):=by rw [← (qCg hr25).1]; exact c24
 have hE_:=E
 obtain ⟨b27,rfl⟩:=qCi hr25 c26.1 c26.2
 replace E:=hE_
 have hr_:=S.ra 0
 obtain ⟨cs29,⟨A31,c32,rfl,g33⟩,hc30⟩:=qCh hr_ qG.z x14 c26.1 c26.2
 refine plc E (.r 0 2<|.x 2 c24<|.cs 3 hc30<|.nil) fun a E=>pla (t:=77) E S [iv 0,.slice none 0 0] fun b34 u35 hb34 S a E=>pls E S [iv ((nth qG.z l12 x14).f0),.slice A31 (((nth qG.z l12 x14).f1).length) c32] fun u36 hb34 S a E=>pld (hK23 _ _ (sq fun K37 hK37=>pl0 (plc E (.r 0 1<|.bn 1 0 2 hb34<|.nil) fun a E=>?_)))
 obtain ⟨t39,h40,H⟩:=bd H
 refine plq E S en108 (qBX.calls k17 (nth qG.z l12 x14) x1c0_ _ _ _ _ _ _ _ _ S.own.sub g33 g1c0_1 hp1c0_ h40) fun u38 S a E=>plc E (.r 3 1 .nil) fun a E=>pld (hK37 _ _ (E.ibn 29 H (fun c41 E H=>?_) fun c41 E H=>?_))
 refine wp_skip ?_
 refine qCe ?_
 refine hK22 _ _ (pl0 (plc E (.r 0 3 .nil) fun a E=>pld ?_))
 have S:=S.tail
 exact qCf ⟨k17,by omega,_,l12,x13,(w64 (x14+1)),by omega,E,.of,S,H⟩
 refine sq fun K42 hK42=>pl0 ?_
 have hb34:=S.ba 0
 obtain ⟨c43,H⟩:=gd H
 have hr44:=S.ra 1
 have c45:0<=x13/\x13<(l12.length:Int):=by rw [← (qCg hr44).1]; exact c43
 have hr_:=S.ra 1
 obtain ⟨cs47,⟨A49,c50,rfl,g51⟩,hc48⟩:=qCh hr_ qG.z x13 c45.1 c45.2
 refine plc E (.r 0 2<|.bn 2 0 2 hb34<|.x 3 c43<|.nil) fun a E=>?_
 have S:=S.front 1 rfl
 obtain ⟨cs56,⟨A53,c54,rfl,g55⟩,hc57⟩:=qCh (S.row_at (i:=0) rfl) qG.z x13 c45.1 c45.2
 refine ple E (.set (d:=qG.k) (n:=x.length) (i:=x13) (nth qG.z l12 x14) (0) (ea0 _ _) S c45 [iv ((nth qG.z l12 x13).f0),.slice A53 (((nth qG.z l12 x13).f1).length) c54] hc57 [iv ((nth qG.z l12 x14).f0),.slice A31 (((nth qG.z l12 x14).f1).length) c32] ⟨_,_,rfl,g33⟩) ?_
 rintro _ u52 a ⟨rfl,S,hz⟩ E
 refine pld (hK42 _ _ (pl0 (plc E (.r 0 3 .nil) fun a E=>pld ?_)))
 refine qCe ?_
 refine hK22 _ _ (pl0 (plc E (.r 0 3 .nil) fun a E=>pld ?_))
 have S:=S.pm [0] 2
 exact qCf ⟨k17,by omega,_,(l12.set (x13).toNat (nth qG.z l12 x14)),(w64 (x13+1)),(w64 (x14+1)),by omega,E,.of,S,H⟩
 refine wp_exit ?_
 refine hK10 _ _ (sq fun K58 hK58=>pl0 ?_)
 obtain ⟨c59,H⟩:=gd H
 obtain ⟨A60,c61,hA62,hv63⟩:=y_suf (P:=Tryz.prog) (k:=.i64) (S.row_at (i:=0) rfl) c59
 refine plc E (.r 0 2<|.y 2 (hv63 (by kernel_rfl))<|.nil) fun a E=>ple E (.clr (d:=qG.k) (n:=x.length) (c':=c61) (lo:=x13) 32 qG.z S c59 hA62 (by rw [zr77]; exact ⟨none,0,rfl,Rd.nil _ _⟩)) ?_
 rintro _ u64 a ⟨rfl,S,hz⟩ E
 refine pld (hK58 _ _ (sq fun K65 hK65=>pl0 ?_))
 have hv66:=S.ra 0
 have S:=S.shrink c59
 refine plc E (.r 0 2<|.y 2 (y_pre (k:=.i64) hv66 c59)<|.r 3 1<|.nil) fun a E=>pld (hK65 _ _ (wp_ret ?_))
 rw [hN]at S
 obtain rfl:=si H
 exact rt1 E ⟨_,rfl,_,_,_,rfl,S⟩
mutual
def qAu.l20:Nat->qD->qD->List qC->List qC->Int->Option (List qC)
 | 0,_,_,_,_,_=>none
 | k+1,x,y,t8,l17,x18=>if x18<(t8.length:Int) then (if 0<=x18/\x18<(t8.length:Int) then ((qCN.f k x x18).bind fun t44=>((qCR.f k x t44).bind fun t52=>((qCN.f k y x18).bind fun t62=>((qCR.f k y t62).bind fun t70=>((qr.f k t52 t70).bind fun t78=>(if t78=true then (qAu.l20 k x y t8 l17 (w64 (x18+1))) else (if (t52.length:Int)>=x.f2 then ((qAB.f t52).bind fun t91=>((qBP.f k ((nth qC.z l17 x18).f1)).bind fun t110=>((qT.f k t110 (⟨(nth qC.z l17 x18).f0,t91⟩:qG)).bind fun t122=>(if ((t122.length:Int)+((1:Nat):Int)) * 32<=140737488355328 then (qAu.j144 k x y t8 l17 x18 (t122++[(⟨(nth qC.z l17 x18).f0,t91⟩:qG)])) else (none))))) else (qAu.j144 k x y t8 l17 x18 ((nth qC.z l17 x18).f1))))))))) else (none)) else (some l17)
def qAu.j144:Nat->qD->qD->List qC->List qC->Int->List qG->Option (List qC)
 | 0,_,_,_,_,_,_=>none
 | k+1,x,y,t8,l17,x18,l141=>qAu.l20 k x y t8 (l17.set (x18).toNat (⟨(w64 (x.f0+1)),l141⟩:qC)) (w64 (x18+1))
end
theorem qAu.l20_s k x y t8 l17 x18:type_of% (qAu.l20.eq_2 x y t8 l17 x18 k):=qAu.l20.eq_2 x y t8 l17 x18 k
theorem qAu.j144_s k x y t8 l17 x18 l141:type_of% (qAu.j144.eq_2 x y t8 l17 x18 l141 k):=qAu.j144.eq_2 x y t8 l17 x18 l141 k
def qAu.f(k:Nat)(x:qD)(y:qD):Option (List qC):=(qAR.f y.f6).bind fun t8=>(qAu.l20 k x y t8 t8 0)
def qAu.Post(W F:World)(r:List qC)(v:Value)(w':World):Prop:=∃(F':World)(RA0_0:OA)(rc0_0:Nat),v = .slice RA0_0 r.length rc0_0/\Sm W F w' F' [row qC.k 73 (.slice RA0_0 r.length rc0_0) r]
theorem qAu.calls(k:Nat)(x:qD)(y:qD)(A0_4:OA)(c0_4:Nat)(A0_5:OA)(c0_5:Nat)(A0_6:OA)(c0_6:Nat)(A1_4:OA)(c1_4:Nat)(A1_5:OA)(c1_5:Nat)(A1_6:OA)(c1_6:Nat)(r:List qC)(W F:World)(hown:Sub F W)(g0_4:Rd qA.k F A0_4 c0_4 x.f4)(g0_5:Rd qE.k F A0_5 c0_5 x.f5)(g0_6:Rd qC.k F A0_6 c0_6 x.f6)(g1_4:Rd qA.k F A1_4 c1_4 y.f4)(g1_5:Rd qE.k F A1_5 c1_5 y.f5)(g1_6:Rd qC.k F A1_6 c1_6 y.f6)(H:qAu.f k x y=some r):
    Cr 71 #[.agg (mA x A0_4 c0_4 A0_5 c0_5 A0_6 c0_6),.agg (mA y A1_4 c1_4 A1_5 c1_5 A1_6 c1_6)] W (qAu.Post W F r):=by
 have S:=sT hown
 unfold qAu.f at H
 refine ent 65 rfl rfl rfl fun a E=>?_
 refine sq fun K1 hK1=>pl0 (plx (t:=26) E S (mL x A0_4 c0_4 A0_5 c0_5 A0_6 c0_6) fun b2 u3 hb2 S a E=>plx (t:=26) E S (mL y A1_4 c1_4 A1_5 c1_5 A1_6 c1_6) fun b4 u5 hb4 S a E=>plc E (.r 2 1 .nil) fun a E=>pld (hK1 _ _ (sq fun K6 hK6=>pl0 (plc E (.r 0 1<|.b 1 6 hb4<|.nil) fun a E=>?_))))
 obtain ⟨t8,h9,H⟩:=bd H
 refine ple E (.cl en98 (qAR.calls y.f6 _ _ _ _ _ S.own.sub g1_6 h9)) ?_
 rintro _ u7 a ⟨F10,A11,c12,rfl,hC⟩ E
 have hs:=hC.sub
 have S:=S.called (X:=[]) hC
 have g0_4:=g0_4.mono hs
 have g0_5:=g0_5.mono hs
 have g0_6:=g0_6.mono hs
 have g1_4:=g1_4.mono hs
 have g1_5:=g1_5.mono hs
 have g1_6:=g1_6.mono hs
 refine plc E (.r 3 1 .nil) fun a E=>pld (hK6 _ _ (sq fun K15 hK15=>rr E fun a E=>(wp_block ?_)))
 have S:=S.pm [1,2,0] 3
 refine wp_loop_ghost (fun kq21 a w'=>∃(G:NV)(l17:List qC)(x18:Int)(F19:World),kq21<=k/\Env 65 G a/\At G [(2,.pointer (pb b2)),(3,.pointer (pb b4)),(5,.slice A11 t8.length c12),(13,.slice A11 t8.length c12),(14,iv (t8.length:Int)),(15,iv x18)]/\Sm W F w' F19 [box b4 (mA y A1_4 c1_4 A1_5 c1_5 A1_6 c1_6) 26,box b2 (mA x A0_4 c0_4 A0_5 c0_5 A0_6 c0_6) 26,row qC.k 73 (.slice A11 t8.length c12) l17]/\Rd qA.k F19 A1_4 c1_4 y.f4/\Rd qE.k F19 A1_5 c1_5 y.f5/\Rd qC.k F19 A1_6 c1_6 y.f6/\Rd qA.k F19 A0_4 c0_4 x.f4/\Rd qE.k F19 A0_5 c0_5 x.f5/\Rd qC.k F19 A0_6 c0_6 x.f6/\qAu.l20 kq21 x y t8 l17 x18=some r) k ⟨_,t8,0,F10,Nat.le_refl _,E,.of,S,g1_4,g1_5,g1_6,g0_4,g0_5,g0_6,H⟩ ?_
 rintro kq21 a u23 ⟨G,l17,x18,F19,hkq,E,A,S,g1_4,g1_5,g1_6,g0_4,g0_5,g0_6,H⟩
 obtain _ | k22:=kq21
 exact zz H
 rw [qAu.l20_s]at H
 obtain ⟨J,E⟩:=E.at A
 refine rr E fun a E=>(sq fun K25 hK25=>E.ik 16 H (fun c26 E H=>?_) fun c26 E H=>?_)
 refine wp_skip (hK25 _ _ (sq fun K27 hK27=>wp_block (sq fun K28 hK28=>pl0 ?_)))
 obtain ⟨c29,H⟩:=gd H
 have hr30:=S.ra 2
 have c31:0<=x18/\x18<(l17.length:Int):=by rw [← (qCg hr30).1]; exact c29
 have hE_:=E
 obtain ⟨b32,rfl⟩:=qCi hr30 c31.1 c31.2
 replace E:=hE_
 have hr_:=S.ra 2
 obtain ⟨cs34,⟨A36,c37,rfl,g38⟩,hc35⟩:=qCh hr_ qC.z x18 c31.1 c31.2
 refine plc E (.r 0 1<|.x 1 c29<|.cs 2 hc35<|.nil) fun a E=>pla (t:=73) E S [iv 0,.slice none 0 0] fun b39 u40 hb39 S a E=>plc E (.r 4 1 .nil) fun a E=>pls E S [iv ((nth qC.z l17 x18).f0),.slice A36 (((nth qC.z l17 x18).f1).length) c37] fun u41 hb39 S a E=>pld (hK28 _ _ (sq fun K42 hK42=>?_))
 refine drawn 6 ⟨[4],[],fun q=>False⟩ mixed rfl (by kernel_rfl) fun hst=>?_
 have S:=S.drew
 have hb2:=S.ba 2
 refine mny 3 hst E (.bn 0 0 7 hb2<|.bn 1 0 7 hb2<|.r 2 1<|.nil) fun a E=>?_
 obtain ⟨t44,h45,H⟩:=bd H
 refine on1 3 E (.cl en94 (qCN.calls k22 x x18 _ _ _ _ _ _ _ _ _ S.own.sub g0_4 g0_5 g0_6 h45)) ?_
 rintro _ u43 a ⟨F46,A47,c48,rfl,hC⟩ E
 refine ⟨.of hC.agr,?_⟩
 have hs:=hC.sub
 have S:=S.called (X:=[]) hC
 have g38:=g38.mono hs
 have g0_4:=g0_4.mono hs
 have g0_5:=g0_5.mono hs
 have g0_6:=g0_6.mono hs
 have g1_4:=g1_4.mono hs
 have g1_5:=g1_5.mono hs
 have g1_6:=g1_6.mono hs
 obtain ⟨t52,h53,H⟩:=bd H
 refine on1 4 E (.cl en73 (qCR.calls k22 x t44 _ _ _ _ _ _ _ _ _ _ _ (Own.left (X:=[row ki 3 (.slice A47 t44.length c48) t44]) S.own) g0_4 g0_5 g0_6 h53)) ?_
 rintro _ u51 a ⟨F54,A55,c56,rfl,hC⟩ E
 refine ⟨.d,?_⟩
 have hs:=hC.sub
 have S:=S.called (X:=[row ki 3 (.slice A47 t44.length c48) t44]) hC
 have g38:=g38.mono hs
 have g0_4:=g0_4.mono hs
 have g0_5:=g0_5.mono hs
 have g0_6:=g0_6.mono hs
 have g1_4:=g1_4.mono hs
 have g1_5:=g1_5.mono hs
 have g1_6:=g1_6.mono hs
 refine mny 0 hst E (.r 5 1 .nil) fun a E=>?_
 refine dn ?_
 refine hK42 _ _ (sq fun K59 hK59=>sq fun K60 hK60=>?_)
 refine drawn 7 ⟨[5],[],fun q=>False⟩ mixed rfl (by kernel_rfl) fun hst=>?_
 have S:=S.drew
 have hb4:=S.ba 2
 refine mny 3 hst E (.r 0 1<|.bn 1 0 7 hb4<|.bn 2 0 7 hb4<|.r 3 1<|.nil) fun a E=>?_
 obtain ⟨t62,h63,H⟩:=bd H
 refine on1 4 E (.cl en94 (qCN.calls k22 y x18 _ _ _ _ _ _ _ _ _ S.own.sub g1_4 g1_5 g1_6 h63)) ?_
 rintro _ u61 a ⟨F64,A65,c66,rfl,hC⟩ E
 refine ⟨.of hC.agr,?_⟩
 have hs:=hC.sub
 have S:=S.called (X:=[]) hC
 have g38:=g38.mono hs
 have g0_4:=g0_4.mono hs
 have g0_5:=g0_5.mono hs
 have g0_6:=g0_6.mono hs
 have g1_4:=g1_4.mono hs
 have g1_5:=g1_5.mono hs
 have g1_6:=g1_6.mono hs
 obtain ⟨t70,h71,H⟩:=bd H
 refine on1 5 E (.cl en73 (qCR.calls k22 y t62 _ _ _ _ _ _ _ _ _ _ _ (Own.left (X:=[row ki 3 (.slice A65 t62.length c66) t62]) S.own) g1_4 g1_5 g1_6 h71)) ?_
 rintro _ u69 a ⟨F72,A73,c74,rfl,hC⟩ E
 refine ⟨.d,?_⟩
 have hs:=hC.sub
 have S:=S.called (X:=[row ki 3 (.slice A65 t62.length c66) t62]) hC
 have g38:=g38.mono hs
 have g0_4:=g0_4.mono hs
 have g0_5:=g0_5.mono hs
 have g0_6:=g0_6.mono hs
 have g1_4:=g1_4.mono hs
 have g1_5:=g1_5.mono hs
 have g1_6:=g1_6.mono hs
 obtain ⟨t78,h79,H⟩:=bd H
 refine on1 6 E (.cl en63 (qr.calls k22 t52 t70 _ _ _ _ _ _ _ (Sub.refl _) (S.rd_at (i:=1) rfl) (S.rd_at (i:=0) rfl) h79)) ?_
 rintro _ u77 a ⟨_,rfl,hC⟩ E
 refine ⟨.of hC.agr,?_⟩
 have S:=S.lent hC
 refine dn ?_
 refine hK60 _ _ (E.ib 31 H (fun c80 E H=>?_) fun c80 E H=>?_)
 refine wp_exit ?_
 refine hK27 _ _ (pl0 (plc E (.r 0 2 .nil) fun a E=>pld ?_))
 have S:=S.pm [] 3
 exact qCf ⟨k22,by omega,_,l17,(w64 (x18+1)),F72,by omega,E,.of,S,g1_4,g1_5,g1_6,g0_4,g0_5,g0_6,H⟩
 refine wp_skip (hK59 _ _ (sq fun K81 hK81=>?_))
 have J147:∀ kq145,kq145<=k22->∀(G:NV)(A139:OA)(c140:Nat)(l141:List qG)(F143:World)(a:Act)(w':World),Env 65 G a->At G [(2,.pointer (pb b2)),(3,.pointer (pb b4)),(5,.slice (pb b32) t8.length c12),(6,iv x18),(7,.pointer (pb b39)),(13,.slice (pb b32) t8.length c12),(14,iv (t8.length:Int)),(15,iv x18)]->Sm W F w' F143 [box b39 #[iv ((nth qC.z l17 x18).f0),.slice A139 l141.length c140] 73,box b4 (mA y A1_4 c1_4 A1_5 c1_5 A1_6 c1_6) 26,box b2 (mA x A0_4 c0_4 A0_5 c0_5 A0_6 c0_6) 26,row qC.k 73 (.slice (pb b32) t8.length c12) l17]->Rd qG.k F143 A139 c140 l141->Rd qA.k F143 A1_4 c1_4 y.f4->Rd qE.k F143 A1_5 c1_5 y.f5->Rd qC.k F143 A1_6 c1_6 y.f6->Rd qA.k F143 A0_4 c0_4 x.f4->Rd qE.k F143 A0_5 c0_5 x.f5->Rd qC.k F143 A0_6 c0_6 x.f6->qAu.j144 kq145 x y t8 l17 x18 l141=some r->K81 a w':=by
  intro kq145 hkq G A139 c140 l141 F143 a u148 E A S g142 g1_4 g1_5 g1_6 g0_4 g0_5 g0_6 H
  obtain _ | k146:=kq145
  exact zz H
  rw [qAu.j144_s]at H
  obtain ⟨J,E⟩:=E.at A
  refine hK81 _ _ (sq fun K149 hK149=>pl0 (plc E (.r 0 1<|.b 1 0 (S.ba 2)<|.r 2 2<|.nil) fun a E=>pls E S [iv (w64 (x.f0+1)),.slice A139 l141.length c140] fun u150 hb39 S a E=>pld (hK149 _ _ (pl0 ?_))))
  have hr151:=S.ra 3
  have c152:0<=x18/\x18<(l17.length:Int):=by rw [← (qCg hr151).1]; exact c29
  have hr_:=S.ra 3
  obtain ⟨cs154,⟨A156,c157,rfl,g158⟩,hc155⟩:=qCh hr_ qC.z x18 c152.1 c152.2
  refine plc E (.r 0 2<|.bn 2 0 2 hb39<|.x 3 c29<|.nil) fun a E=>?_
  have S:=S.front 3 rfl
  obtain ⟨cs163,⟨A160,c161,rfl,g162⟩,hc164⟩:=qCh (S.row_at (i:=0) rfl) qC.z x18 c152.1 c152.2
  refine ple E (.set (d:=qC.k) (n:=t8.length) (i:=x18) (⟨(w64 (x.f0+1)),l141⟩:qC) (0) (ea0 _ _) S c152 [iv ((nth qC.z l17 x18).f0),.slice A160 (((nth qC.z l17 x18).f1).length) c161] hc164 [iv (w64 (x.f0+1)),.slice A139 l141.length c140] ⟨_,_,rfl,g142⟩) ?_
  rintro _ u159 a ⟨rfl,S,hz⟩ E
  refine pld ?_
  refine qCe ?_
  refine hK27 _ _ (pl0 (plc E (.r 0 2 .nil) fun a E=>pld ?_))
  have S:=S.pm [2,3,0] 4
  exact qCf ⟨k146,by omega,_,(l17.set (x18).toNat (⟨(w64 (x.f0+1)),l141⟩:qC)),(w64 (x18+1)),F143,by omega,E,.of,S,g1_4,g1_5,g1_6,g0_4,g0_5,g0_6,H⟩
 refine rg E (.r 0 3<|.b 3 2 (S.ba 4)<|.r 4 1<|.nil) fun a E=>(E.ik 36 H (fun c83 E H=>?_) fun c83 E H=>?_)
 refine sq fun K84 hK84=>?_
 refine drawn 8 ⟨[7],[],fun q=>False⟩ mixed rfl (by kernel_rfl) fun hst=>?_
 have S:=S.drew
 have hb39:=S.ba 2
 refine mny 5 hst E (.r 0 1<|.b 1 0 hb39<|.r 2 1<|.nil) fun a E=>?_
 obtain ⟨t91,h92,H⟩:=bd H
 refine meet2 (fun a w'=>∃(G:NV)(b89:Nat)(A97:OA)(c98:Nat)(F105:World),Env 65 G a/\At G [(2,.pointer (pb b2)),(3,.pointer (pb b4)),(5,.slice (pb b32) t8.length c12),(6,iv x18),(7,.pointer (pb b39)),(9,.pointer (pb b89)),(13,.slice (pb b32) t8.length c12),(14,iv (t8.length:Int)),(15,iv x18),(42,.agg #[iv ((nth qC.z l17 x18).f0),.slice A97 t91.length c98])]/\Sm W F w' F105 [box b89 #[iv 0,.slice none 0 0] 77,box b39 #[iv ((nth qC.z l17 x18).f0),.slice A36 (((nth qC.z l17 x18).f1).length) c37] 73,box b4 (mA y A1_4 c1_4 A1_5 c1_5 A1_6 c1_6) 26,box b2 (mA x A0_4 c0_4 A0_5 c0_5 A0_6 c0_6) 26,row ki 3 (.slice A97 t91.length c98) t91,row qC.k 73 (.slice (pb b32) t8.length c12) l17]/\Rd qG.k F105 A36 c37 ((nth qC.z l17 x18).f1)/\Rd qA.k F105 A1_4 c1_4 y.f4/\Rd qE.k F105 A1_5 c1_5 y.f5/\Rd qC.k F105 A1_6 c1_6 y.f6/\Rd qA.k F105 A0_4 c0_4 x.f4/\Rd qE.k F105 A0_5 c0_5 x.f5/\Rd qC.k F105 A0_6 c0_6 x.f6) 1 127 ?_ fun hJb=>?_
 rintro a u106 ⟨G,b89,A97,c98,F105,E,A,S,g38,g1_4,g1_5,g1_6,g0_4,g0_5,g0_6⟩
 obtain ⟨J,E⟩:=E.at A
 refine on1 7 E (.sto S [iv ((nth qC.z l17 x18).f0),.slice A97 t91.length c98]) ?_
 rintro _ u107 a ⟨rfl,hb89,S,hz⟩ E
 refine ⟨.d,?_⟩
 refine dn ?_
 refine hK84 _ _ (sq fun K108 hK108=>pl0 (plc E (.r 0 1<|.b 1 1 (S.ba 1)<|.nil) fun a E=>?_))
 obtain ⟨t110,h111,H⟩:=bd H
 refine ple E (.cl en99 (qBP.calls k22 ((nth qC.z l17 x18).f1) _ _ _ _ _ S.own.sub g38 h111)) ?_
 rintro _ u109 a ⟨F112,A113,c114,rfl,hC⟩ E
 have hs:=hC.sub
 have S:=S.called (X:=[]) hC
 have g38:=g38.mono hs
 have g1_4:=g1_4.mono hs
 have g1_5:=g1_5.mono hs
 have g1_6:=g1_6.mono hs
 have g0_4:=g0_4.mono hs
 have g0_5:=g0_5.mono hs
 have g0_6:=g0_6.mono hs
 refine plc E (.r 3 1 .nil) fun a E=>?_
 have S:=S.front 5 rfl
 obtain ⟨F117,hs,g118,S⟩:=S.give
 have g38:=g38.mono hs
 have g1_4:=g1_4.mono hs
 have g1_5:=g1_5.mono hs
 have g1_6:=g1_6.mono hs
 have g0_4:=g0_4.mono hs
 have g0_5:=g0_5.mono hs
 have g0_6:=g0_6.mono hs
 have S:=S.front 1 rfl
 obtain ⟨F119,hs,g120,S⟩:=S.giveb
 have g118:=g118.mono hs
 have g38:=g38.mono hs
 have g1_4:=g1_4.mono hs
 have g1_5:=g1_5.mono hs
 have g1_6:=g1_6.mono hs
 have g0_4:=g0_4.mono hs
 have g0_5:=g0_5.mono hs
 have g0_6:=g0_6.mono hs
 obtain ⟨t122,h123,H⟩:=bd H
 refine ple E (.cl en107 (qT.calls k22 t110 (⟨(nth qC.z l17 x18).f0,t91⟩:qG) _ _ _ _ _ _ _ _ (Own.left (X:=[row qG.k 77 (.slice A113 t110.length c114) t110]) S.own) g118 g120 h123)) ?_
 rintro _ u121 a ⟨F124,A125,c126,rfl,hC⟩ E
 have hs:=hC.sub
 have S:=S.called (X:=[row qG.k 77 (.slice A113 t110.length c114) t110]) hC
 have g118:=g118.mono hs
 have g38:=g38.mono hs
 have g1_4:=g1_4.mono hs
 have g1_5:=g1_5.mono hs
 have g1_6:=g1_6.mono hs
 have g0_4:=g0_4.mono hs
 have g0_5:=g0_5.mono hs
 have g0_6:=g0_6.mono hs
 have g120:=hs _ _ _ _ g120
 refine plc E (.r 5 1 .nil) fun a E=>?_
 have S:=S.front 1 rfl
 refine pls E S [iv ((nth qC.z l17 x18).f0),.slice A125 t122.length c126] fun u129 hb39 S a E=>pld (hK108 _ _ (pl0 (plc E (.r 0 1<|.b 1 1 hb39<|.bn 2 0 2 (S.own.sub _ _ _ _ g120)<|.nil) fun a E=>ple E (.lit (d:=qG.k) (e:=77) S [(⟨(nth qC.z l17 x18).f0,t91⟩:qG)] (.cons ⟨_,_,rfl,g118⟩ .nil)) ?_)))
 rintro _ u130 a ⟨A131,c132,rfl,S,hg⟩ E
 obtain ⟨c134,H⟩:=gd H
 have S:=S.front 2 rfl
 refine ple E (.ap (d:=qG.k) 32 S (qCj (S.row_at (i:=1) rfl)) c134 c132) ?_
 rintro _ u137 a ⟨A135,c136,rfl,S,hz⟩ E
 refine plc E (.r 5 1 .nil) fun a E=>?_
 have S:=S.front 2 rfl
 refine pls E S [iv ((nth qC.z l17 x18).f0),.slice A135 ((t122++[(⟨(nth qC.z l17 x18).f0,t91⟩:qG)]).length) c136] fun u138 hb39 S a E=>pld ?_
 have S:=S.front 1 rfl
 obtain ⟨F165,hs,g166,S⟩:=S.give
 have g38:=g38.mono hs
 have g1_4:=g1_4.mono hs
 have g1_5:=g1_5.mono hs
 have g1_6:=g1_6.mono hs
 have g0_4:=g0_4.mono hs
 have g0_5:=g0_5.mono hs
 have g0_6:=g0_6.mono hs
 have S:=S.pm [0] 2
 exact J147 _ (by omega) _ A135 c136 (t122++[(⟨(nth qC.z l17 x18).f0,t91⟩:qG)]) F165 _ _ E .of S g166 g1_4 g1_5 g1_6 g0_4 g0_5 g0_6 H
 refine meet2 (fun a w'=>∃(G:NV)(b89:Nat)(b87:Nat)(F102:World),Env 65 G a/\At G [(2,.pointer (pb b2)),(3,.pointer (pb b4)),(5,.slice (pb b32) t8.length c12),(6,iv x18),(7,.pointer (pb b39)),(9,.pointer (pb b89)),(13,.slice (pb b32) t8.length c12),(14,iv (t8.length:Int)),(15,iv x18),(38,iv ((nth qC.z l17 x18).f0)),(40,.func (.func 135) #[] #[.pointer (pb b87)])]/\Sm W F w' F102 [box b89 #[iv 0,.slice none 0 0] 77,box b87 #[.slice A55 t52.length c56] 27,box b39 #[iv ((nth qC.z l17 x18).f0),.slice A36 (((nth qC.z l17 x18).f1).length) c37] 73,box b4 (mA y A1_4 c1_4 A1_5 c1_5 A1_6 c1_6) 26,box b2 (mA x A0_4 c0_4 A0_5 c0_5 A0_6 c0_6) 26,row qC.k 73 (.slice (pb b32) t8.length c12) l17]/\Rd ki F102 A55 c56 t52/\Rd qG.k F102 A36 c37 ((nth qC.z l17 x18).f1)/\Rd qA.k F102 A1_4 c1_4 y.f4/\Rd qE.k F102 A1_5 c1_5 y.f5/\Rd qC.k F102 A1_6 c1_6 y.f6/\Rd qA.k F102 A0_4 c0_4 x.f4/\Rd qE.k F102 A0_5 c0_5 x.f5/\Rd qC.k F102 A0_6 c0_6 x.f6) 3 79 ?_ fun hJ=>?_
 rintro a u103 ⟨G,b89,b87,F102,E,A,S,g86,g38,g1_4,g1_5,g1_6,g0_4,g0_5,g0_6⟩
 obtain ⟨J,E⟩:=E.at A
 have S:=S.front 1 rfl
 obtain ⟨F93,hs,g94,S⟩:=S.giveb
 have g86:=g86.mono hs
 have g38:=g38.mono hs
 have g1_4:=g1_4.mono hs
 have g1_5:=g1_5.mono hs
 have g1_6:=g1_6.mono hs
 have g0_4:=g0_4.mono hs
 have g0_5:=g0_5.mono hs
 have g0_6:=g0_6.mono hs
 refine on1 4 E (.cl en105 (qAB.calls t52 _ _ _ _ _ _ S.own.sub g86 g94 h92)) ?_
 rintro _ u95 a ⟨F96,A97,c98,rfl,hC⟩ E
 refine ⟨.of hC.agr,?_⟩
 have hs:=hC.sub
 have S:=S.called (X:=[]) hC
 have g38:=g38.mono hs
 have g1_4:=g1_4.mono hs
 have g1_5:=g1_5.mono hs
 have g1_6:=g1_6.mono hs
 have g0_4:=g0_4.mono hs
 have g0_5:=g0_5.mono hs
 have g0_6:=g0_6.mono hs
 have g86:=g86.mono hs
 have g94:=hs _ _ _ _ g94
 refine mny 1 hst E (.r 5 1 .nil) fun a E=>?_
 have S:=S.pm [1,2,3,4,0] 5
 exact hJb _ _ ⟨_,b89,A97,c98,F96,E,.of,S,g38,g1_4,g1_5,g1_6,g0_4,g0_5,g0_6⟩
 refine pk2 3 6 ?_ ?_
 have S:=S.front 1 rfl
 obtain ⟨F85,hs,g86,S⟩:=S.give
 have g38:=g38.mono hs
 have g0_4:=g0_4.mono hs
 have g0_5:=g0_5.mono hs
 have g0_6:=g0_6.mono hs
 have g1_4:=g1_4.mono hs
 have g1_5:=g1_5.mono hs
 have g1_6:=g1_6.mono hs
 refine pk1 3 E (.cl en106 (qCU.calls t52 A55 c56 _ _ S.own.sub)) ?_
 rintro _ u88 a ⟨b87,rfl,hC⟩ E
 refine ⟨.of hC.agr,?_⟩
 have S:=S.called (X:=[]) hC
 refine pk2 6 4 ?_ ?_
 refine pk1 6 E (.al (t:=77) S [iv 0,.slice none 0 0]) ?_
 rintro _ u90 a ⟨b89,rfl,hb89,S,hg⟩ E
 refine ⟨.of hg,?_⟩
 have S:=S.pm [0,1] 3
 exact hJ _ _ ⟨_,b89,b87,F85,E,.of,S,g86,g38,g1_4,g1_5,g1_6,g0_4,g0_5,g0_6⟩
 obtain ⟨F93,hs,g94,S⟩:=S.giveb
 have g86:=g86.mono hs
 have g38:=g38.mono hs
 have g0_4:=g0_4.mono hs
 have g0_5:=g0_5.mono hs
 have g0_6:=g0_6.mono hs
 have g1_4:=g1_4.mono hs
 have g1_5:=g1_5.mono hs
 have g1_6:=g1_6.mono hs
 refine pk1 4 E (.cl en105 (qAB.calls t52 _ _ _ _ _ _ S.own.sub g86 g94 h92)) ?_
 rintro _ u95 a ⟨F96,A97,c98,rfl,hC⟩ E
 refine ⟨.of hC.agr,?_⟩
 have hs:=hC.sub
 have S:=S.called (X:=[]) hC
 have g86:=g86.mono hs
 have g38:=g38.mono hs
 have g0_4:=g0_4.mono hs
 have g0_5:=g0_5.mono hs
 have g0_6:=g0_6.mono hs
 have g1_4:=g1_4.mono hs
 have g1_5:=g1_5.mono hs
 have g1_6:=g1_6.mono hs
 refine mny 2 hst E (.r 5 1 .nil) fun a E=>?_
 refine on1 6 E (.al (t:=77) S [iv 0,.slice none 0 0]) ?_
 rintro _ u90 a ⟨b89,rfl,hb89,S,hg⟩ E
 refine ⟨.of hg,?_⟩
 have S:=S.pm [0,3,4,5,1] 6
 exact hJb _ _ ⟨_,b89,A97,c98,F96,E,.of,S,g38,g1_4,g1_5,g1_6,g0_4,g0_5,g0_6⟩
 refine pk1 6 E (.al (t:=77) S [iv 0,.slice none 0 0]) ?_
 rintro _ u90 a ⟨b89,rfl,hb89,S,hg⟩ E
 refine ⟨.of hg,?_⟩
 have S:=S.front 2 rfl
 obtain ⟨F85,hs,g86,S⟩:=S.give
 have g38:=g38.mono hs
 have g0_4:=g0_4.mono hs
 have g0_5:=g0_5.mono hs
 have g0_6:=g0_6.mono hs
 have g1_4:=g1_4.mono hs
 have g1_5:=g1_5.mono hs
 have g1_6:=g1_6.mono hs
 refine on1 3 E (.cl en106 (qCU.calls t52 A55 c56 _ _ S.own.sub)) ?_
 rintro _ u88 a ⟨b87,rfl,hC⟩ E
 refine ⟨.of hC.agr,?_⟩
 have S:=S.called (X:=[]) hC
 have S:=S.pm [1,0] 3
 exact hJ _ _ ⟨_,b89,b87,F85,E,.of,S,g86,g38,g1_4,g1_5,g1_6,g0_4,g0_5,g0_6⟩
 refine wp_skip ?_
 have S:=S.pm [] 2
 exact J147 _ (by omega) _ A36 c37 ((nth qC.z l17 x18).f1) F72 _ _ E .of S g38 g1_4 g1_5 g1_6 g0_4 g0_5 g0_6 H
 refine wp_exit ?_
 refine hK15 _ _ (rr E fun a E=>(wp_ret ?_))
 have hn168:=(qCg (S.row_at (i:=2) rfl)).1
 replace E:=E.set (d:=4) (v:=.slice A11 l17.length c12) (Eq.trans (b:=.slice A11 t8.length c12) (by kernel_rfl) (by rw [← hn168]))
 replace S:Sm W F u23 F19 [box b4 (mA y A1_4 c1_4 A1_5 c1_5 A1_6 c1_6) 26,box b2 (mA x A0_4 c0_4 A0_5 c0_5 A0_6 c0_6) 26,row qC.k 73 (.slice A11 l17.length c12) l17]:=by rw [← hn168]; exact S
 have S:=S.pm [] 2
 obtain rfl:=si H
 exact rt1 E ⟨_,rfl,_,_,_,rfl,S⟩
def qAz.j21:Nat->qD->qF->Bool->Option (qD × Int)
 | 0,_,_,_=>none
 | k+1,x,y,y20=>if y20=true then ((qBG.f k x).bind fun t29=>(some (t29,1))) else (if x.f0=2147483647 then ((qBG.f k x).bind fun t53=>(some (t53,6))) else ((qBG.f k x).bind fun t77=>((qBv.f k t77 y).bind fun t95=>(if t95.2=0 then ((qAu.f k x t95.1).bind fun t142=>(some ((⟨(w64 (t95.1.f0+1)),t95.1.f1,t95.1.f2,t95.1.f3,t95.1.f4,t95.1.f5,t142⟩:qD),0))) else ((qBG.f k x).bind fun t120=>(some (t120,t95.2)))))))
theorem qAz.j21_s k x y y20:type_of% (qAz.j21.eq_2 x y y20 k):=qAz.j21.eq_2 x y y20 k
def qAz.f(k:Nat)(x:qD)(y:qF):Option (qD × Int):=(qAF.f k x).bind fun t11=>(if t11=0 then (if y.f0<1 then (qAz.j21 k x y true) else (if y.f0>=11 then (qAz.j21 k x y true) else ((qCS.f y).bind fun t18=>(qAz.j21 k x y (!t18))))) else (some ((⟨0,0,0,0,[],[],[]⟩:qD),1)))
def qAz.Post(W F:World)(r:qD × Int)(v:Value)(w':World):Prop:=∃(F':World)(RA0_4:OA)(rc0_4:Nat)(RA0_5:OA)(rc0_5:Nat)(RA0_6:OA)(rc0_6:Nat),v = .tuple #[.agg (mA r.1 RA0_4 rc0_4 RA0_5 rc0_5 RA0_6 rc0_6),iv r.2]/\Sm W F w' F' [row qC.k 73 (.slice RA0_6 r.1.f6.length rc0_6) r.1.f6]/\Rd qA.k F' RA0_4 rc0_4 r.1.f4/\Rd qE.k F' RA0_5 rc0_5 r.1.f5
theorem qAz.calls(k:Nat)(x:qD)(y:qF)(A0_4:OA)(c0_4:Nat)(A0_5:OA)(c0_5:Nat)(A0_6:OA)(c0_6:Nat)(A1_6:OA)(c1_6:Nat)(r:qD × Int)(W F:World)(hown:Sub F W)(g0_4:Rd qA.k F A0_4 c0_4 x.f4)(g0_5:Rd qE.k F A0_5 c0_5 x.f5)(g0_6:Rd qC.k F A0_6 c0_6 x.f6)(g1_6:Rd ki F A1_6 c1_6 y.f6)(H:qAz.f k x y=some r):
    Cr 39 #[.agg (mA x A0_4 c0_4 A0_5 c0_5 A0_6 c0_6),.agg (dA y A1_6 c1_6)] W (qAz.Post W F r):=by
 have S:=sT hown
 unfold qAz.f at H
 refine ent 56 rfl rfl rfl fun a E=>?_
 refine sq fun K1 hK1=>pl0 (plx (t:=26) E S (mL x A0_4 c0_4 A0_5 c0_5 A0_6 c0_6) fun b2 u3 hb2 S a E=>plx (t:=29) E S (dL y A1_6 c1_6) fun b4 u5 hb4 S a E=>pla (t:=26) E S [iv 0,iv 0,iv 0,iv 0,.slice none 0 0,.slice none 0 0,.slice none 0 0] fun b6 u7 hb6 S a E=>plc E (.r 3 1 .nil) fun a E=>pld (hK1 _ _ (sq fun K8 hK8=>wp_block (sq fun K9 hK9=>pl0 ?_))))
 have hb2:=S.ba 2
 refine plc E (.bn 0 0 7 hb2 .nil) fun a E=>?_
 obtain ⟨t11,h12,H⟩:=bd H
 refine plq E S en65 (qAF.calls k x _ _ _ _ _ _ _ _ _ S.own.sub g0_4 g0_5 g0_6 h12) fun u10 S a E=>plc E (.r 2 2 .nil) fun a E=>pld (hK9 _ _ (E.ikn 8 H (fun c13 E H=>?_) fun c13 E H=>?_))
 refine sq fun K14 hK14=>?_
 have J24:∀ kq22,kq22<=k->∀(G:NV)(y20:Bool)(a:Act)(w':World),Env 56 G a->At G [(2,.pointer (pb b2)),(3,.pointer (pb b4)),(4,.pointer (pb b6)),(13,.bool y20)]->Sm W F w' F [box b6 #[iv 0,iv 0,iv 0,iv 0,.slice none 0 0,.slice none 0 0,.slice none 0 0] 26,box b4 (dA y A1_6 c1_6) 29,box b2 (mA x A0_4 c0_4 A0_5 c0_5 A0_6 c0_6) 26]->qAz.j21 kq22 x y y20=some r->K14 a w':=by
  intro kq22 hkq G y20 a u25 E A S H
  obtain _ | k23:=kq22
  exact zz H
  rw [qAz.j21_s]at H
  obtain ⟨J,E⟩:=E.at A
  refine hK14 _ _ (E.ib 13 H (fun c26 E H=>?_) fun c26 E H=>?_)
  refine sq fun K27 hK27=>pl0 (plc E (.bn 0 0 7 (S.ba 2) .nil) fun a E=>?_)
  obtain ⟨t29,h30,H⟩:=bd H
  refine ple E (.cl en69 (qBG.calls k23 x _ _ _ _ _ _ _ _ _ S.own.sub g0_4 g0_5 g0_6 h30)) ?_
  rintro _ u28 a ⟨F31,A32,c33,A36,c37,A40,c41,rfl,hC⟩ E
  have hs:=hC.sub
  have S:=S.called (X:=[]) hC
  have g0_4:=g0_4.mono hs
  have g0_5:=g0_5.mono hs
  have g0_6:=g0_6.mono hs
  have g1_6:=g1_6.mono hs
  have S:=S.front 3 rfl
  refine pls E S (mL t29 A32 c33 A36 c37 A40 c41) fun u44 hb6 S a E=>plc E (.r 3 1 .nil) fun a E=>pld (hK27 _ _ (wp_ret (qCd (qCc ?_))))
  have S:=S.front 1 rfl
  obtain ⟨F45,hs,g46,S⟩:=S.give
  have g0_4:=g0_4.mono hs
  have g0_5:=g0_5.mono hs
  have g0_6:=g0_6.mono hs
  have g1_6:=g1_6.mono hs
  have S:=S.front 1 rfl
  obtain ⟨F47,hs,g48,S⟩:=S.give
  have g0_4:=g0_4.mono hs
  have g0_5:=g0_5.mono hs
  have g0_6:=g0_6.mono hs
  have g46:=g46.mono hs
  have g1_6:=g1_6.mono hs
  have S:=S.pm [1] 4
  obtain rfl:=si H
  exact rtm E (.b hb6 ag26 sz26 (.t .nil)) ⟨_,rfl,_,_,_,_,_,_,_,rfl,S,g46,g48⟩
  refine sq fun K49 hK49=>pl0 ?_
  have hb2:=S.ba 2
  refine plc E (.r 0 1<|.b 1 0 hb2<|.r 2 2<|.nil) fun a E=>pld (hK49 _ _ (E.ik 29 H (fun c50 E H=>?_) fun c50 E H=>?_))
  refine sq fun K51 hK51=>pl0 (plc E (.bn 0 0 7 hb2 .nil) fun a E=>?_)
  obtain ⟨t53,h54,H⟩:=bd H
  refine ple E (.cl en69 (qBG.calls k23 x _ _ _ _ _ _ _ _ _ S.own.sub g0_4 g0_5 g0_6 h54)) ?_
  rintro _ u52 a ⟨F55,A56,c57,A60,c61,A64,c65,rfl,hC⟩ E
  have hs:=hC.sub
  have S:=S.called (X:=[]) hC
  have g0_4:=g0_4.mono hs
  have g0_5:=g0_5.mono hs
  have g0_6:=g0_6.mono hs
  have g1_6:=g1_6.mono hs
  have S:=S.front 3 rfl
  refine pls E S (mL t53 A56 c57 A60 c61 A64 c65) fun u68 hb6 S a E=>plc E (.r 3 1 .nil) fun a E=>pld (hK51 _ _ (wp_ret (qCd (qCc ?_))))
  have S:=S.front 1 rfl
  obtain ⟨F69,hs,g70,S⟩:=S.give
  have g0_4:=g0_4.mono hs
  have g0_5:=g0_5.mono hs
  have g0_6:=g0_6.mono hs
  have g1_6:=g1_6.mono hs
  have S:=S.front 1 rfl
  obtain ⟨F71,hs,g72,S⟩:=S.give
  have g0_4:=g0_4.mono hs
  have g0_5:=g0_5.mono hs
  have g0_6:=g0_6.mono hs
  have g70:=g70.mono hs
  have g1_6:=g1_6.mono hs
  have S:=S.pm [1] 4
  obtain rfl:=si H
  exact rtm E (.b hb6 ag26 sz26 (.t .nil)) ⟨_,rfl,_,_,_,_,_,_,_,rfl,S,g70,g72⟩
  refine wp_skip ?_
  refine qCe ?_
  refine hK8 _ _ (sq fun K76 hK76=>?_)
  refine drawn 10 ⟨[3,8],[],fun q=>False⟩ mixed rfl (by kernel_rfl) fun hst=>?_
  have S:=S.drew
  have hb2:=S.ba 2
  have hb4:=S.ba 1
  refine mny 8 hst E (.bn 0 0 7 hb2<|.bn 2 0 7 hb4<|.nil) fun a E=>?_
  obtain ⟨t77,h78,H⟩:=bd H
  obtain ⟨t95,h96,H⟩:=bd H
  refine meet2 (fun a w'=>∃(G:NV)(b93:Nat)(A99:OA)(c100:Nat)(A102:OA)(c103:Nat)(A105:OA)(c106:Nat)(F112:World),Env 56 G a/\At G [(2,.pointer (pb b2)),(4,.pointer (pb b6)),(6,.pointer (pb b93)),(40,.agg (mA t95.1 A99 c100 A102 c103 A105 c106)),(41,iv t95.2)]/\Sm W F w' F112 [box b93 #[iv 0,iv 0,iv 0,iv 0,.slice none 0 0,.slice none 0 0,.slice none 0 0] 26,box b6 #[iv 0,iv 0,iv 0,iv 0,.slice none 0 0,.slice none 0 0,.slice none 0 0] 26,box b4 (dA y A1_6 c1_6) 29,box b2 (mA x A0_4 c0_4 A0_5 c0_5 A0_6 c0_6) 26]/\Rd qA.k F112 A99 c100 t95.1.f4/\Rd qE.k F112 A102 c103 t95.1.f5/\Rd qC.k F112 A105 c106 t95.1.f6/\Rd ki F112 A1_6 c1_6 y.f6/\Rd qA.k F112 A0_4 c0_4 x.f4/\Rd qE.k F112 A0_5 c0_5 x.f5/\Rd qC.k F112 A0_6 c0_6 x.f6) 2 255 ?_ fun hJb=>?_
  rintro a u113 ⟨G,b93,A99,c100,A102,c103,A105,c106,F112,E,A,S,g101,g104,g107,g1_6,g0_4,g0_5,g0_6⟩
  obtain ⟨J,E⟩:=E.at A
  refine on1 8 E (.sto S (mL t95.1 A99 c100 A102 c103 A105 c106)) ?_
  rintro _ u114 a ⟨rfl,hb93,S,hz⟩ E
  refine ⟨.d,?_⟩
  refine mny 0 hst E (.r 9 1 .nil) fun a E=>?_
  refine dn ?_
  refine hK76 _ _ (sq fun K115 hK115=>rr E fun a E=>(E.ikn 43 H (fun c117 E H=>?_) fun c117 E H=>?_))
  refine wp_skip (hK115 _ _ (sq fun K140 hK140=>pl0 (plc E (.bn 0 0 7 (S.ba 3)<|.bn 1 0 7 hb93<|.nil) fun a E=>?_)))
  obtain ⟨t142,h143,H⟩:=bd H
  refine ple E (.cl en71 (qAu.calls k23 x t95.1 _ _ _ _ _ _ _ _ _ _ _ _ _ _ _ S.own.sub g0_4 g0_5 g0_6 g101 g104 g107 h143)) ?_
  rintro _ u141 a ⟨F144,A145,c146,rfl,hC⟩ E
  have hs:=hC.sub
  have S:=S.called (X:=[]) hC
  have g101:=g101.mono hs
  have g104:=g104.mono hs
  have g107:=g107.mono hs
  have g0_4:=g0_4.mono hs
  have g0_5:=g0_5.mono hs
  have g0_6:=g0_6.mono hs
  have g1_6:=g1_6.mono hs
  refine plc E (.r 3 1 .nil) fun a E=>?_
  have S:=S.front 1 rfl
  refine pls E S [iv t95.1.f0,iv t95.1.f1,iv t95.1.f2,iv t95.1.f3,.slice A99 t95.1.f4.length c100,.slice A102 t95.1.f5.length c103,.slice A145 t142.length c146] fun u149 hb93 S a E=>pld (hK140 _ _ (sq fun K150 hK150=>pl0 (plc E (.r 0 1<|.b 1 0 hb93<|.r 2 2<|.nil) fun a E=>pls E S [iv (w64 (t95.1.f0+1)),iv t95.1.f1,iv t95.1.f2,iv t95.1.f3,.slice A99 t95.1.f4.length c100,.slice A102 t95.1.f5.length c103,.slice A145 t142.length c146] fun u151 hb93 S a E=>pld (hK150 _ _ (sq fun K152 hK152=>pl0 (plc E (.bn 0 0 7 hb93 .nil) fun a E=>?_))))))
  have S:=S.front 2 rfl
  refine pls E S [iv (w64 (t95.1.f0+1)),iv t95.1.f1,iv t95.1.f2,iv t95.1.f3,.slice A99 t95.1.f4.length c100,.slice A102 t95.1.f5.length c103,.slice A145 t142.length c146] fun u153 hb6 S a E=>plc E (.r 2 1 .nil) fun a E=>pld (hK152 _ _ (wp_ret ?_))
  have S:=S.pm [2] 5
  obtain rfl:=si H
  exact rtm E (.b hb6 ag26 sz26 (.t .nil)) ⟨_,rfl,_,_,_,_,_,_,_,rfl,S,g101,g104⟩
  refine sq fun K118 hK118=>pl0 (plc E (.bn 0 0 7 (S.ba 3) .nil) fun a E=>?_)
  obtain ⟨t120,h121,H⟩:=bd H
  refine ple E (.cl en69 (qBG.calls k23 x _ _ _ _ _ _ _ _ _ S.own.sub g0_4 g0_5 g0_6 h121)) ?_
  rintro _ u119 a ⟨F122,A123,c124,A127,c128,A131,c132,rfl,hC⟩ E
  have hs:=hC.sub
  have S:=S.called (X:=[]) hC
  have g101:=g101.mono hs
  have g104:=g104.mono hs
  have g107:=g107.mono hs
  have g0_4:=g0_4.mono hs
  have g0_5:=g0_5.mono hs
  have g0_6:=g0_6.mono hs
  have g1_6:=g1_6.mono hs
  refine plc E (.r 2 1 .nil) fun a E=>?_
  have S:=S.front 4 rfl
  refine pls E S (mL t120 A123 c124 A127 c128 A131 c132) fun u135 hb6 S a E=>plc E (.r 4 1 .nil) fun a E=>pld (hK118 _ _ (wp_ret (qCc ?_)))
  have S:=S.front 1 rfl
  obtain ⟨F136,hs,g137,S⟩:=S.give
  have g101:=g101.mono hs
  have g104:=g104.mono hs
  have g107:=g107.mono hs
  have g0_4:=g0_4.mono hs
  have g0_5:=g0_5.mono hs
  have g0_6:=g0_6.mono hs
  have g1_6:=g1_6.mono hs
  have S:=S.front 1 rfl
  obtain ⟨F138,hs,g139,S⟩:=S.give
  have g101:=g101.mono hs
  have g104:=g104.mono hs
  have g107:=g107.mono hs
  have g0_4:=g0_4.mono hs
  have g0_5:=g0_5.mono hs
  have g0_6:=g0_6.mono hs
  have g137:=g137.mono hs
  have g1_6:=g1_6.mono hs
  have S:=S.pm [1] 5
  obtain rfl:=si H
  exact rtm E (.b hb6 ag26 sz26 (.t .nil)) ⟨_,rfl,_,_,_,_,_,_,_,rfl,S,g137,g139⟩
  refine meet2 (fun a w'=>∃(G:NV)(b93:Nat)(A81:OA)(c82:Nat)(A85:OA)(c86:Nat)(A89:OA)(c90:Nat)(F109:World),Env 56 G a/\At G [(2,.pointer (pb b2)),(4,.pointer (pb b6)),(6,.pointer (pb b93)),(37,.agg (mA t77 A81 c82 A85 c86 A89 c90)),(38,.agg (dA y A1_6 c1_6))]/\Sm W F w' F109 [box b93 #[iv 0,iv 0,iv 0,iv 0,.slice none 0 0,.slice none 0 0,.slice none 0 0] 26,box b6 #[iv 0,iv 0,iv 0,iv 0,.slice none 0 0,.slice none 0 0,.slice none 0 0] 26,box b4 (dA y A1_6 c1_6) 29,box b2 (mA x A0_4 c0_4 A0_5 c0_5 A0_6 c0_6) 26,row qA.k 68 (.slice A81 t77.f4.length c82) t77.f4,row qE.k 75 (.slice A85 t77.f5.length c86) t77.f5,row qC.k 73 (.slice A89 t77.f6.length c90) t77.f6]/\Rd ki F109 A1_6 c1_6 y.f6/\Rd qA.k F109 A0_4 c0_4 x.f4/\Rd qE.k F109 A0_5 c0_5 x.f5/\Rd qC.k F109 A0_6 c0_6 x.f6) 6 135 ?_ fun hJ=>?_
  rintro a u110 ⟨G,b93,A81,c82,A85,c86,A89,c90,F109,E,A,S,g1_6,g0_4,g0_5,g0_6⟩
  obtain ⟨J,E⟩:=E.at A
  have S:=S.pm [4,5,6,0,1,2,3] 7
  refine on1 3 E (.cl en70 (qBv.calls k23 t77 y _ _ _ _ _ _ _ _ _ _ _ (Own.left (X:=[row qA.k 68 (.slice A81 t77.f4.length c82) t77.f4,row qE.k 75 (.slice A85 t77.f5.length c86) t77.f5,row qC.k 73 (.slice A89 t77.f6.length c90) t77.f6]) S.own) g1_6 h96)) ?_
  rintro _ u97 a ⟨F98,A99,c100,A102,c103,A105,c106,rfl,hC,g101,g104,g107⟩ E
  refine ⟨.d,?_⟩
  have hs:=hC.sub
  have S:=S.called (X:=[row qA.k 68 (.slice A81 t77.f4.length c82) t77.f4,row qE.k 75 (.slice A85 t77.f5.length c86) t77.f5,row qC.k 73 (.slice A89 t77.f6.length c90) t77.f6]) hC
  have g1_6:=g1_6.mono hs
  have g0_4:=g0_4.mono hs
  have g0_5:=g0_5.mono hs
  have g0_6:=g0_6.mono hs
  refine mny 2 hst E (.r 4 3 .nil) fun a E=>?_
  exact hJb _ _ ⟨_,b93,A99,c100,A102,c103,A105,c106,F98,E,.of,S,g101,g104,g107,g1_6,g0_4,g0_5,g0_6⟩
  refine pk2 1 7 ?_ ?_
  refine pk1 1 E (.cl en69 (qBG.calls k23 x _ _ _ _ _ _ _ _ _ S.own.sub g0_4 g0_5 g0_6 h78)) ?_
  rintro _ u79 a ⟨F80,A81,c82,A85,c86,A89,c90,rfl,hC⟩ E
  refine ⟨.of hC.agr,?_⟩
  have hs:=hC.sub
  have S:=S.called (X:=[]) hC
  have g0_4:=g0_4.mono hs
  have g0_5:=g0_5.mono hs
  have g0_6:=g0_6.mono hs
  have g1_6:=g1_6.mono hs
  refine pk2 7 3 ?_ ?_
  refine pk1 7 E (.al (t:=26) S [iv 0,iv 0,iv 0,iv 0,.slice none 0 0,.slice none 0 0,.slice none 0 0]) ?_
  rintro _ u94 a ⟨b93,rfl,hb93,S,hg⟩ E
  refine ⟨.of hg,?_⟩
  have S:=S.pm [0,4,5,6,1,2,3] 7
  exact hJ _ _ ⟨_,b93,A81,c82,A85,c86,A89,c90,F80,E,.of,S,g1_6,g0_4,g0_5,g0_6⟩
  refine pk1 3 E (.cl en70 (qBv.calls k23 t77 y _ _ _ _ _ _ _ _ _ _ _ (Own.left (X:=[row qA.k 68 (.slice A81 t77.f4.length c82) t77.f4,row qE.k 75 (.slice A85 t77.f5.length c86) t77.f5,row qC.k 73 (.slice A89 t77.f6.length c90) t77.f6]) S.own) g1_6 h96)) ?_
  rintro _ u97 a ⟨F98,A99,c100,A102,c103,A105,c106,rfl,hC,g101,g104,g107⟩ E
  refine ⟨.d,?_⟩
  have hs:=hC.sub
  have S:=S.called (X:=[row qA.k 68 (.slice A81 t77.f4.length c82) t77.f4,row qE.k 75 (.slice A85 t77.f5.length c86) t77.f5,row qC.k 73 (.slice A89 t77.f6.length c90) t77.f6]) hC
  have g0_4:=g0_4.mono hs
  have g0_5:=g0_5.mono hs
  have g0_6:=g0_6.mono hs
  have g1_6:=g1_6.mono hs
  refine mny 3 hst E (.r 4 3 .nil) fun a E=>?_
  refine on1 7 E (.al (t:=26) S [iv 0,iv 0,iv 0,iv 0,.slice none 0 0,.slice none 0 0,.slice none 0 0]) ?_
  rintro _ u94 a ⟨b93,rfl,hb93,S,hg⟩ E
  refine ⟨.of hg,?_⟩
  exact hJb _ _ ⟨_,b93,A99,c100,A102,c103,A105,c106,F98,E,.of,S,g101,g104,g107,g1_6,g0_4,g0_5,g0_6⟩
  refine pk1 7 E (.al (t:=26) S [iv 0,iv 0,iv 0,iv 0,.slice none 0 0,.slice none 0 0,.slice none 0 0]) ?_
  rintro _ u94 a ⟨b93,rfl,hb93,S,hg⟩ E
  refine ⟨.of hg,?_⟩
  refine on1 1 E (.cl en69 (qBG.calls k23 x _ _ _ _ _ _ _ _ _ S.own.sub g0_4 g0_5 g0_6 h78)) ?_
  rintro _ u79 a ⟨F80,A81,c82,A85,c86,A89,c90,rfl,hC⟩ E
  refine ⟨.of hC.agr,?_⟩
  have hs:=hC.sub
  have S:=S.called (X:=[]) hC
  have g0_4:=g0_4.mono hs
  have g0_5:=g0_5.mono hs
  have g0_6:=g0_6.mono hs
  have g1_6:=g1_6.mono hs
  have S:=S.pm [3,4,5,6,0,1,2] 7
  exact hJ _ _ ⟨_,b93,A81,c82,A85,c86,A89,c90,F80,E,.of,S,g1_6,g0_4,g0_5,g0_6⟩
 refine pl0 ?_
 have hb4:=S.ba 1
 refine plc E (.r 0 1<|.b 1 0 hb4<|.r 2 2<|.nil) fun a E=>E.fk 17 H (fun c15 E H=>?_) fun c15 E H=>?_
 refine plc E (.r 4 10 .nil) fun a E=>pld ?_
 exact J24 _ (by omega) _ true _ _ E .of S H
 refine plc E (.r 4 1<|.b 5 0 hb4<|.r 6 3<|.nil) fun a E=>E.fk 22 H (fun c16 E H=>?_) fun c16 E H=>?_
 refine plc E (.r 9 5 .nil) fun a E=>pld ?_
 exact J24 _ (by omega) _ true _ _ E .of S H
 refine plc E (.bn 9 0 7 hb4 .nil) fun a E=>?_
 obtain ⟨t18,h19,H⟩:=bd H
 refine plq E S en68 (qCS.calls y _ _ _ _ _ S.own.sub g1_6 h19) fun u17 S a E=>plc E (.r 11 3 .nil) fun a E=>pld ?_
 exact J24 _ (by omega) _ (!t18) _ _ E .of S H
 refine sq fun K73 hK73=>pl0 (plc E (.r 0 1 .nil) fun a E=>pls E S [iv 0,iv 0,iv 0,iv 0,.slice none 0 0,.slice none 0 0,.slice none 0 0] fun u74 hb6 S a E=>plc E (.r 2 1 .nil) fun a E=>pld (hK73 _ _ (wp_ret (qCd (qCc ?_)))))
 have S:=S.nilrow qC.k 73
 have S:=S.pm [0] 4
 obtain rfl:=si H
 exact rtm E (.b hb6 ag26 sz26 (.t .nil)) ⟨_,rfl,_,_,_,_,_,_,_,rfl,S,(Rd.nil _ _),(Rd.nil _ _)⟩
def qBY.j14:Nat->qD->Int->Bool->Option (List Int)
 | 0,_,_,_=>none
 | k+1,x,y,y13=>if y13=true then (some []) else ((qCN.f k x y).bind fun t24=>(some t24))
theorem qBY.j14_s k x y y13:type_of% (qBY.j14.eq_2 x y y13 k):=qBY.j14.eq_2 x y y13 k
def qBY.f(k:Nat)(x:qD)(y:Int):Option (List Int):=(qAF.f k x).bind fun t7=>(if t7=0 then ((qBR.f y 0 (w64 (x.f3 - 1))).bind fun t11=>(qBY.j14 k x y (!t11))) else (qBY.j14 k x y true))
def qBY.Post(W F:World)(r:List Int)(v:Value)(w':World):Prop:=∃(F':World)(RA0_0:OA)(rc0_0:Nat),v = .slice RA0_0 r.length rc0_0/\Sm W F w' F' [row ki 3 (.slice RA0_0 r.length rc0_0) r]
theorem qBY.calls(k:Nat)(x:qD)(y:Int)(A0_4:OA)(c0_4:Nat)(A0_5:OA)(c0_5:Nat)(A0_6:OA)(c0_6:Nat)(r:List Int)(W F:World)(hown:Sub F W)(g0_4:Rd qA.k F A0_4 c0_4 x.f4)(g0_5:Rd qE.k F A0_5 c0_5 x.f5)(g0_6:Rd qC.k F A0_6 c0_6 x.f6)(H:qBY.f k x y=some r):
    Cr 64 #[.agg (mA x A0_4 c0_4 A0_5 c0_5 A0_6 c0_6),iv y] W (qBY.Post W F r):=by
 have S:=sT hown
 unfold qBY.f at H
 refine ent 19 rfl rfl rfl fun a E=>?_
 refine sq fun K1 hK1=>pl0 (plx (t:=26) E S (mL x A0_4 c0_4 A0_5 c0_5 A0_6 c0_6) fun b2 u3 hb2 S a E=>plc E (.r 1 1 .nil) fun a E=>pld (hK1 _ _ (sq fun K4 hK4=>sq fun K5 hK5=>?_)))
 have J17:∀ kq15,kq15<=k->∀(G:NV)(y13:Bool)(a:Act)(w':World),Env 19 G a->At G [(1,iv y),(2,.pointer (pb b2)),(15,.bool y13)]->Sm W F w' F [box b2 (mA x A0_4 c0_4 A0_5 c0_5 A0_6 c0_6) 26]->qBY.j14 kq15 x y y13=some r->K5 a w':=by
  intro kq15 hkq G y13 a u18 E A S H
  obtain _ | k16:=kq15
  exact zz H
  rw [qBY.j14_s]at H
  obtain ⟨J,E⟩:=E.at A
  refine hK5 _ _ (E.ib 15 H (fun c19 E H=>?_) fun c19 E H=>?_)
  refine rr E fun a E=>(wp_ret (qCc ?_))
  have S:=S.nilrow ki 3
  have S:=S.pm [0] 2
  obtain rfl:=si H
  exact rt1 E ⟨_,rfl,_,_,_,rfl,S⟩
  refine wp_skip (hK4 _ _ (sq fun K22 hK22=>pl0 (plc E (.bn 0 0 7 (S.ba 0)<|.r 1 1<|.nil) fun a E=>?_)))
  obtain ⟨t24,h25,H⟩:=bd H
  refine ple E (.cl en94 (qCN.calls k16 x y _ _ _ _ _ _ _ _ _ S.own.sub g0_4 g0_5 g0_6 h25)) ?_
  rintro _ u23 a ⟨F26,A27,c28,rfl,hC⟩ E
  have hs:=hC.sub
  have S:=S.called (X:=[]) hC
  have g0_4:=g0_4.mono hs
  have g0_5:=g0_5.mono hs
  have g0_6:=g0_6.mono hs
  refine plc E (.r 3 1 .nil) fun a E=>pld (hK22 _ _ (wp_ret ?_))
  have S:=S.pm [0] 2
  obtain rfl:=si H
  exact rt1 E ⟨_,rfl,_,_,_,rfl,S⟩
 refine pl0 (plc E (.bn 0 0 7 hb2 .nil) fun a E=>?_)
 obtain ⟨t7,h8,H⟩:=bd H
 refine plq E S en65 (qAF.calls k x _ _ _ _ _ _ _ _ _ S.own.sub g0_4 g0_5 g0_6 h8) fun u6 S a E=>plc E (.r 2 2 .nil) fun a E=>E.fkn 8 H (fun c9 E H=>?_) fun c9 E H=>?_
 refine plc E (.r 4 2<|.b 6 3 (S.ba 0)<|.r 7 1<|.nil) fun a E=>?_
 obtain ⟨t11,h12,H⟩:=bd H
 refine plq E S en93 (qBR.calls y 0 (w64 (x.f3 - 1)) _ _ _ S.own.sub h12) fun u10 S a E=>plc E (.r 9 2 .nil) fun a E=>pld ?_
 exact J17 _ (by omega) _ (!t11) _ _ E .of S H
 refine plc E (.r 4 7 .nil) fun a E=>pld ?_
 exact J17 _ (by omega) _ true _ _ E .of S H
def qBe.f(k:Nat)(x:qD)(y:Int):Option (List Int):=(qBY.f k x y).bind fun t6=>((qCR.f k x t6).bind fun t14=>(some t14))
def qBe.Post(W F:World)(r:List Int)(v:Value)(w':World):Prop:=∃(F':World)(RA0_0:OA)(rc0_0:Nat),v = .slice RA0_0 r.length rc0_0/\Sm W F w' F' [row ki 3 (.slice RA0_0 r.length rc0_0) r]
theorem qBe.calls(k:Nat)(x:qD)(y:Int)(A0_4:OA)(c0_4:Nat)(A0_5:OA)(c0_5:Nat)(A0_6:OA)(c0_6:Nat)(r:List Int)(W F:World)(hown:Sub F W)(g0_4:Rd qA.k F A0_4 c0_4 x.f4)(g0_5:Rd qE.k F A0_5 c0_5 x.f5)(g0_6:Rd qC.k F A0_6 c0_6 x.f6)(H:qBe.f k x y=some r):
    Cr 44 #[.agg (mA x A0_4 c0_4 A0_5 c0_5 A0_6 c0_6),iv y] W (qBe.Post W F r):=by
 have S:=sT hown
 unfold qBe.f at H
 refine ent 10 rfl rfl rfl fun a E=>?_
 refine sq fun K1 hK1=>pl0 (plx (t:=26) E S (mL x A0_4 c0_4 A0_5 c0_5 A0_6 c0_6) fun b2 u3 hb2 S a E=>plc E (.r 1 1 .nil) fun a E=>pld (hK1 _ _ (sq fun K4 hK4=>?_)))
 refine drawn 6 ⟨[4],[],fun q=>False⟩ mixed rfl (by kernel_rfl) fun hst=>?_
 have S:=S.drew
 have hb2:=S.ba 0
 refine mny 3 hst E (.bn 0 0 7 hb2<|.bn 1 0 7 hb2<|.r 2 1<|.nil) fun a E=>?_
 obtain ⟨t6,h7,H⟩:=bd H
 refine on1 3 E (.cl en64 (qBY.calls k x y _ _ _ _ _ _ _ _ _ S.own.sub g0_4 g0_5 g0_6 h7)) ?_
 rintro _ u5 a ⟨F8,A9,c10,rfl,hC⟩ E
 refine ⟨.of hC.agr,?_⟩
 have hs:=hC.sub
 have S:=S.called (X:=[]) hC
 have g0_4:=g0_4.mono hs
 have g0_5:=g0_5.mono hs
 have g0_6:=g0_6.mono hs
 obtain ⟨t14,h15,H⟩:=bd H
 refine on1 4 E (.cl en73 (qCR.calls k x t6 _ _ _ _ _ _ _ _ _ _ _ (Own.left (X:=[row ki 3 (.slice A9 t6.length c10) t6]) S.own) g0_4 g0_5 g0_6 h15)) ?_
 rintro _ u13 a ⟨F16,A17,c18,rfl,hC⟩ E
 refine ⟨.d,?_⟩
 have S:=S.called (X:=[row ki 3 (.slice A9 t6.length c10) t6]) hC
 refine mny 0 hst E (.r 5 1 .nil) fun a E=>?_
 refine dn ?_
 refine hK4 _ _ (wp_ret ?_)
 have S:=S.pm [0] 2
 obtain rfl:=si H
 exact rt1 E ⟨_,rfl,_,_,_,rfl,S⟩
mutual
def qAl.l15:Nat->qD->qD->List Int->Int->Option (List Int)
 | 0,_,_,_,_=>none
 | k+1,x,y,l12,x13=>if x13<x.f3 then ((qBY.f k x x13).bind fun t26=>((qBY.f k y x13).bind fun t34=>((qr.f k t26 t34).bind fun t42=>(if t42=true then ((qBe.f k x x13).bind fun t46=>((qBe.f k y x13).bind fun t54=>((qr.f k t46 t54).bind fun t62=>(qAl.j66 k x y l12 x13 (!t62))))) else (qAl.j66 k x y l12 x13 true))))) else (some l12)
def qAl.j66:Nat->qD->qD->List Int->Int->Bool->Option (List Int)
 | 0,_,_,_,_,_=>none
 | k+1,x,y,l12,x13,y64=>if y64=true then (if ((l12.length:Int)+((1:Nat):Int)) * 8<=140737488355328 then (qAl.l15 k x y (l12++[x13]) (w64 (x13+1))) else (none)) else (qAl.l15 k x y l12 (w64 (x13+1)))
end
theorem qAl.l15_s k x y l12 x13:type_of% (qAl.l15.eq_2 x y l12 x13 k):=qAl.l15.eq_2 x y l12 x13 k
theorem qAl.j66_s k x y l12 x13 y64:type_of% (qAl.j66.eq_2 x y l12 x13 y64 k):=qAl.j66.eq_2 x y l12 x13 y64 k
def qAl.f(k:Nat)(x:qD)(y:qD):Option (List Int):=qAl.l15 k x y [] 0
def qAl.Post(W F:World)(r:List Int)(v:Value)(w':World):Prop:=∃(F':World)(RA0_0:OA)(rc0_0:Nat),v = .slice RA0_0 r.length rc0_0/\Sm W F w' F' [row ki 3 (.slice RA0_0 r.length rc0_0) r]
theorem qAl.calls(k:Nat)(x:qD)(y:qD)(A0_4:OA)(c0_4:Nat)(A0_5:OA)(c0_5:Nat)(A0_6:OA)(c0_6:Nat)(A1_4:OA)(c1_4:Nat)(A1_5:OA)(c1_5:Nat)(A1_6:OA)(c1_6:Nat)(r:List Int)(W F:World)(hown:Sub F W)(g0_4:Rd qA.k F A0_4 c0_4 x.f4)(g0_5:Rd qE.k F A0_5 c0_5 x.f5)(g0_6:Rd qC.k F A0_6 c0_6 x.f6)(g1_4:Rd qA.k F A1_4 c1_4 y.f4)(g1_5:Rd qE.k F A1_5 c1_5 y.f5)(g1_6:Rd qC.k F A1_6 c1_6 y.f6)(H:qAl.f k x y=some r):
    Cr 40 #[.agg (mA x A0_4 c0_4 A0_5 c0_5 A0_6 c0_6),.agg (mA y A1_4 c1_4 A1_5 c1_5 A1_6 c1_6)] W (qAl.Post W F r):=by
 have S:=sT hown
 unfold qAl.f at H
 refine ent 36 rfl rfl rfl fun a E=>?_
 refine sq fun K1 hK1=>pl0 (plx (t:=26) E S (mL x A0_4 c0_4 A0_5 c0_5 A0_6 c0_6) fun b2 u3 hb2 S a E=>plx (t:=26) E S (mL y A1_4 c1_4 A1_5 c1_5 A1_6 c1_6) fun b4 u5 hb4 S a E=>plc E (.r 2 1 .nil) fun a E=>pld (hK1 _ _ (rr E fun a E=>(sq fun K7 hK7=>sq fun K8 hK8=>pl0 ?_))))
 have hb2:=S.ba 1
 refine plc E (.r 0 1<|.b 1 3 hb2<|.r 2 1<|.nil) fun a E=>pld (hK8 _ _ (wp_block ?_))
 have S:=S.nilrow ki 3
 have S:=S.pm [1,2,0] 3
 refine wp_loop_ghost (fun kq16 a w'=>∃(G:NV)(A10:OA)(c11:Nat)(l12:List Int)(x13:Int)(F14:World),kq16<=k/\Env 36 G a/\At G [(2,.pointer (pb b2)),(3,.pointer (pb b4)),(5,.slice A10 l12.length c11),(8,iv x.f3),(9,iv x13)]/\Sm W F w' F14 [box b4 (mA y A1_4 c1_4 A1_5 c1_5 A1_6 c1_6) 26,box b2 (mA x A0_4 c0_4 A0_5 c0_5 A0_6 c0_6) 26,row ki 3 (.slice A10 l12.length c11) l12]/\Rd qA.k F14 A1_4 c1_4 y.f4/\Rd qE.k F14 A1_5 c1_5 y.f5/\Rd qC.k F14 A1_6 c1_6 y.f6/\Rd qA.k F14 A0_4 c0_4 x.f4/\Rd qE.k F14 A0_5 c0_5 x.f5/\Rd qC.k F14 A0_6 c0_6 x.f6/\qAl.l15 kq16 x y l12 x13=some r) k ⟨_,none,0,[],0,F,Nat.le_refl _,E,.of,S,g1_4,g1_5,g1_6,g0_4,g0_5,g0_6,H⟩ ?_
 rintro kq16 a u18 ⟨G,A10,c11,l12,x13,F14,hkq,E,A,S,g1_4,g1_5,g1_6,g0_4,g0_5,g0_6,H⟩
 obtain _ | k17:=kq16
 exact zz H
 rw [qAl.l15_s]at H
 obtain ⟨J,E⟩:=E.at A
 refine rr E fun a E=>(sq fun K20 hK20=>E.ik 10 H (fun c21 E H=>?_) fun c21 E H=>?_)
 refine wp_skip (hK20 _ _ (sq fun K22 hK22=>wp_block (rr E fun a E=>(sq fun K24 hK24=>?_))))
 have J69:∀ kq67,kq67<=k17->∀(G:NV)(y64:Bool)(F65:World)(a:Act)(w':World),Env 36 G a->At G [(2,.pointer (pb b2)),(3,.pointer (pb b4)),(5,.slice A10 l12.length c11),(6,iv x13),(8,iv x.f3),(9,iv x13),(29,.bool y64)]->Sm W F w' F65 [box b4 (mA y A1_4 c1_4 A1_5 c1_5 A1_6 c1_6) 26,box b2 (mA x A0_4 c0_4 A0_5 c0_5 A0_6 c0_6) 26,row ki 3 (.slice A10 l12.length c11) l12]->Rd qA.k F65 A1_4 c1_4 y.f4->Rd qE.k F65 A1_5 c1_5 y.f5->Rd qC.k F65 A1_6 c1_6 y.f6->Rd qA.k F65 A0_4 c0_4 x.f4->Rd qE.k F65 A0_5 c0_5 x.f5->Rd qC.k F65 A0_6 c0_6 x.f6->qAl.j66 kq67 x y l12 x13 y64=some r->K24 a w':=by
  intro kq67 hkq G y64 F65 a u70 E A S g1_4 g1_5 g1_6 g0_4 g0_5 g0_6 H
  obtain _ | k68:=kq67
  exact zz H
  rw [qAl.j66_s]at H
  obtain ⟨J,E⟩:=E.at A
  refine hK24 _ _ (E.ib 29 H (fun c71 E H=>?_) fun c71 E H=>?_)
  refine pl0 (plc E (.r 0 2 .nil) fun a E=>ple E (.lit (d:=ki) (e:=3) S [x13] (.cons rfl .nil)) ?_)
  rintro _ u72 a ⟨A73,c74,rfl,S,hg⟩ E
  obtain ⟨c76,H⟩:=gd H
  have S:=S.front 3 rfl
  refine ple E (.ap (d:=ki) 8 S (qCj (S.row_at (i:=1) rfl)) c76 c74) ?_
  rintro _ u79 a ⟨A77,c78,rfl,S,hz⟩ E
  refine plc E (.r 4 1 .nil) fun a E=>pld ?_
  refine qCe ?_
  refine hK22 _ _ (pl0 (plc E (.r 0 2 .nil) fun a E=>pld ?_))
  have S:=S.pm [2,3,0] 4
  exact qCf ⟨k68,by omega,_,A77,c78,(l12++[x13]),(w64 (x13+1)),F65,by omega,E,.of,S,g1_4,g1_5,g1_6,g0_4,g0_5,g0_6,H⟩
  refine wp_skip ?_
  refine qCe ?_
  refine hK22 _ _ (pl0 (plc E (.r 0 2 .nil) fun a E=>pld ?_))
  exact qCf ⟨k68,by omega,_,A10,c11,l12,(w64 (x13+1)),F65,by omega,E,.of,S,g1_4,g1_5,g1_6,g0_4,g0_5,g0_6,H⟩
 refine drawn 18 ⟨[],[],fun q=>False⟩ mixed rfl (by kernel_rfl) fun hst=>?_
 have S:=S.drew
 have hb2:=S.ba 1
 have hb4:=S.ba 0
 refine mny 14 hst E (.bn 0 0 7 hb2<|.r 1 1<|.bn 3 0 7 hb4<|.r 4 1<|.nil) fun a E=>?_
 obtain ⟨t26,h27,H⟩:=bd H
 refine on1 2 E (.cl en64 (qBY.calls k17 x x13 _ _ _ _ _ _ _ _ _ S.own.sub g0_4 g0_5 g0_6 h27)) ?_
 rintro _ u25 a ⟨F28,A29,c30,rfl,hC⟩ E
 refine ⟨.of hC.agr,?_⟩
 have hs:=hC.sub
 have S:=S.called (X:=[]) hC
 have g0_4:=g0_4.mono hs
 have g0_5:=g0_5.mono hs
 have g0_6:=g0_6.mono hs
 have g1_4:=g1_4.mono hs
 have g1_5:=g1_5.mono hs
 have g1_6:=g1_6.mono hs
 obtain ⟨t34,h35,H⟩:=bd H
 refine on1 5 E (.cl en64 (qBY.calls k17 y x13 _ _ _ _ _ _ _ _ _ S.own.sub g1_4 g1_5 g1_6 h35)) ?_
 rintro _ u33 a ⟨F36,A37,c38,rfl,hC⟩ E
 refine ⟨.of hC.agr,?_⟩
 have hs:=hC.sub
 have S:=S.called (X:=[]) hC
 have g0_4:=g0_4.mono hs
 have g0_5:=g0_5.mono hs
 have g0_6:=g0_6.mono hs
 have g1_4:=g1_4.mono hs
 have g1_5:=g1_5.mono hs
 have g1_6:=g1_6.mono hs
 obtain ⟨t42,h43,H⟩:=bd H
 refine on1 6 E (.cl en63 (qr.calls k17 t26 t34 _ _ _ _ _ _ _ (Sub.refl _) (S.rd_at (i:=1) rfl) (S.rd_at (i:=0) rfl) h43)) ?_
 rintro _ u41 a ⟨_,rfl,hC⟩ E
 refine ⟨.of hC.agr,?_⟩
 have S:=S.lent hC
 refine mny 9 hst E (.r 7 2 .nil) fun a E=>?_
 refine E.fbn 20 H (fun c44 E H=>?_) fun c44 E H=>?_
 have hb2:=S.ba 3
 have hb4:=S.ba 2
 refine mny 5 hst E (.bn 9 0 7 hb2<|.r 10 1<|.bn 12 0 7 hb4<|.r 13 1<|.nil) fun a E=>?_
 obtain ⟨t46,h47,H⟩:=bd H
 refine on1 11 E (.cl en44 (qBe.calls k17 x x13 _ _ _ _ _ _ _ _ _ S.own.sub g0_4 g0_5 g0_6 h47)) ?_
 rintro _ u45 a ⟨F48,A49,c50,rfl,hC⟩ E
 refine ⟨.of hC.agr,?_⟩
 have hs:=hC.sub
 have S:=S.called (X:=[]) hC
 have g0_4:=g0_4.mono hs
 have g0_5:=g0_5.mono hs
 have g0_6:=g0_6.mono hs
 have g1_4:=g1_4.mono hs
 have g1_5:=g1_5.mono hs
 have g1_6:=g1_6.mono hs
 obtain ⟨t54,h55,H⟩:=bd H
 refine on1 14 E (.cl en44 (qBe.calls k17 y x13 _ _ _ _ _ _ _ _ _ S.own.sub g1_4 g1_5 g1_6 h55)) ?_
 rintro _ u53 a ⟨F56,A57,c58,rfl,hC⟩ E
 refine ⟨.of hC.agr,?_⟩
 have hs:=hC.sub
 have S:=S.called (X:=[]) hC
 have g0_4:=g0_4.mono hs
 have g0_5:=g0_5.mono hs
 have g0_6:=g0_6.mono hs
 have g1_4:=g1_4.mono hs
 have g1_5:=g1_5.mono hs
 have g1_6:=g1_6.mono hs
 obtain ⟨t62,h63,H⟩:=bd H
 refine on1 15 E (.cl en63 (qr.calls k17 t46 t54 _ _ _ _ _ _ _ (Sub.refl _) (S.rd_at (i:=1) rfl) (S.rd_at (i:=0) rfl) h63)) ?_
 rintro _ u61 a ⟨_,rfl,hC⟩ E
 refine ⟨.of hC.agr,?_⟩
 have S:=S.lent hC
 refine mny 0 hst E (.r 16 2 .nil) fun a E=>?_
 refine dn ?_
 have S:=S.pm [] 4
 exact J69 _ (by omega) _ (!t62) F56 _ _ E .of S g1_4 g1_5 g1_6 g0_4 g0_5 g0_6 H
 refine mny 0 hst E (.r 9 9 .nil) fun a E=>?_
 refine dn ?_
 have S:=S.pm [] 2
 exact J69 _ (by omega) _ true F36 _ _ E .of S g1_4 g1_5 g1_6 g0_4 g0_5 g0_6 H
 refine wp_exit ?_
 refine hK7 _ _ (rr E fun a E=>(wp_ret ?_))
 have S:=S.pm [] 2
 obtain rfl:=si H
 exact rt1 E ⟨_,rfl,_,_,_,rfl,S⟩
def qCO.f(x:Int)(xf0_:qD)(xf1_:List Bool):Option Bool:=(qBw.f xf0_ xf1_ x).bind fun t4=>(some (!t4))
def qCO.Post(W F:World)(r:Bool)(v:Value)(w':World):Prop:=∃(F':World),v = .bool r/\Sm W F w' F' []
theorem qCO.calls(x:Int)(xf0_:qD)(xf1_:List Bool)(pf0_:Nat)(Af0_4:OA)(cf0_4:Nat)(Af0_5:OA)(cf0_5:Nat)(Af0_6:OA)(cf0_6:Nat)(pf1_:Nat)(Af1_0:OA)(cf1_0:Nat)(r:Bool)(W F:World)(hown:Sub F W)(gf0_4:Rd qA.k F Af0_4 cf0_4 xf0_.f4)(gf0_5:Rd qE.k F Af0_5 cf0_5 xf0_.f5)(gf0_6:Rd qC.k F Af0_6 cf0_6 xf0_.f6)(hpf0_:F.heap[pf0_]? = some (.cells (mA xf0_ Af0_4 cf0_4 Af0_5 cf0_5 Af0_6 cf0_6) 26 (0,0)))(gf1_0:Rd Kn.bool F Af1_0 cf1_0 xf1_)(hpf1_:F.heap[pf1_]? = some (.cells #[.slice Af1_0 xf1_.length cf1_0] 30 (0,0)))(H:qCO.f x xf0_ xf1_=some r):
    Cr 41 #[iv x,.pointer (pb pf0_),.pointer (pb pf1_)] W (qCO.Post W F r):=by
 have S:=sT hown
 unfold qCO.f at H
 refine ent 10 rfl rfl rfl fun a E=>?_
 refine rr E fun a E=>(sq fun K2 hK2=>pl0 (plc E (.bn 0 0 7 (S.own.sub _ _ _ _ hpf0_)<|.b 1 0 (S.own.sub _ _ _ _ hpf1_)<|.r 2 1<|.nil) fun a E=>?_))
 obtain ⟨t4,h5,H⟩:=bd H
 refine plq E S en42 (qBw.calls xf0_ xf1_ x _ _ _ _ _ _ _ _ _ _ _ S.own.sub gf0_4 gf0_5 gf0_6 gf1_0 h5) fun u3 S a E=>plc E (.r 4 2 .nil) fun a E=>pld (hK2 _ _ (wp_ret ?_))
 obtain rfl:=si H
 exact rt1 E ⟨_,rfl,_,rfl,S⟩
def qj.l5:Nat->List Int->qD->List Bool->Int->Option Int
 | 0,_,_,_,_=>none
 | k+1,x,x1c0_,x1c1_,x4=>if x4<(x.length:Int) then (if 0<=x4/\x4<(x.length:Int) then ((qCO.f (nth 0 x x4) x1c0_ x1c1_).bind fun t21=>(if t21=true then (some x4) else (qj.l5 k x x1c0_ x1c1_ (w64 (x4+1))))) else (none)) else (some (-1))
theorem qj.l5_s k x x1c0_ x1c1_ x4:type_of% (qj.l5.eq_2 x x1c0_ x1c1_ x4 k):=qj.l5.eq_2 x x1c0_ x1c1_ x4 k
def qj.f(k:Nat)(x:List Int)(x1c0_:qD)(x1c1_:List Bool):Option Int:=qj.l5 k x x1c0_ x1c1_ 0
def qj.Post(W F:World)(r:Int)(v:Value)(w':World):Prop:=∃(F':World),v=iv r/\Sm W F w' F' []
theorem qj.calls(k:Nat)(x:List Int)(x1c0_:qD)(x1c1_:List Bool)(A0_0:OA)(c0_0:Nat)(p1c0_:Nat)(A1c0_4:OA)(c1c0_4:Nat)(A1c0_5:OA)(c1c0_5:Nat)(A1c0_6:OA)(c1c0_6:Nat)(p1c1_:Nat)(A1c1_0:OA)(c1c1_0:Nat)(r:Int)(W F:World)(hown:Sub F W)(g0_0:Rd ki F A0_0 c0_0 x)(g1c0_4:Rd qA.k F A1c0_4 c1c0_4 x1c0_.f4)(g1c0_5:Rd qE.k F A1c0_5 c1c0_5 x1c0_.f5)(g1c0_6:Rd qC.k F A1c0_6 c1c0_6 x1c0_.f6)(hp1c0_:F.heap[p1c0_]? = some (.cells (mA x1c0_ A1c0_4 c1c0_4 A1c0_5 c1c0_5 A1c0_6 c1c0_6) 26 (0,0)))(g1c1_0:Rd Kn.bool F A1c1_0 c1c1_0 x1c1_)(hp1c1_:F.heap[p1c1_]? = some (.cells #[.slice A1c1_0 x1c1_.length c1c1_0] 30 (0,0)))(H:qj.f k x x1c0_ x1c1_=some r):
    Cr 72 #[.slice A0_0 x.length c0_0,.func (.func 41) #[] #[.pointer (pb p1c0_),.pointer (pb p1c1_)]] W (qj.Post W F r):=by
 have S:=sT hown
 unfold qj.f at H
 refine ent 19 rfl rfl rfl fun a E=>?_
 refine rr E fun a E=>(sq fun K2 hK2=>rr E fun a E=>(wp_block ?_))
 refine wp_loop_ghost (fun kq6 a w'=>∃(G:NV)(x4:Int),kq6<=k/\Env 19 G a/\At G [(0,.slice A0_0 x.length c0_0),(1,.func (.func 41) #[] #[.pointer (pb p1c0_),.pointer (pb p1c1_)]),(7,iv (x.length:Int)),(8,iv x4)]/\Sm W F w' F []/\qj.l5 kq6 x x1c0_ x1c1_ x4=some r) k ⟨_,0,Nat.le_refl _,E,.of,S,H⟩ ?_
 rintro kq6 a u8 ⟨G,x4,hkq,E,A,S,H⟩
 obtain _ | k7:=kq6
 exact zz H
 rw [qj.l5_s]at H
 obtain ⟨J,E⟩:=E.at A
 refine rr E fun a E=>(sq fun K10 hK10=>E.ik 9 H (fun c11 E H=>?_) fun c11 E H=>?_)
 refine wp_skip (hK10 _ _ (sq fun K12 hK12=>wp_block (rr E fun a E=>(sq fun K14 hK14=>pl0 ?_))))
 obtain ⟨c15,H⟩:=gd H
 have hE_:=E
 obtain ⟨ad16,rfl⟩:=g0_0.addr c15.1 c15.2
 replace E:=hE_
 obtain ⟨cs18,rfl,hc19⟩:=g0_0.el 0 x4 c15.1 c15.2
 refine plc E (.r 0 3<|.x 3 c15<|.c 4 (S.fc hc19 0)<|.nil) fun a E=>?_
 obtain ⟨t21,h22,H⟩:=bd H
 refine plq E S en41 (qCO.calls (nth 0 x x4) x1c0_ x1c1_ _ _ _ _ _ _ _ _ _ _ _ _ _ S.own.sub g1c0_4 g1c0_5 g1c0_6 hp1c0_ g1c1_0 hp1c1_ h22) fun u20 S a E=>pld (hK14 _ _ (E.ib 16 H (fun c23 E H=>?_) fun c23 E H=>?_))
 refine rr E fun a E=>(wp_ret (qCd (qCc (qCc (qCd (qCc ?_))))))
 obtain rfl:=si H
 exact rt1 E ⟨_,rfl,_,rfl,S⟩
 refine wp_skip ?_
 refine qCe ?_
 refine hK12 _ _ (pl0 (plc E (.r 0 2 .nil) fun a E=>pld ?_))
 exact qCf ⟨k7,by omega,_,(w64 (x4+1)),by omega,E,.of,S,H⟩
 refine wp_exit ?_
 refine hK2 _ _ (rr E fun a E=>(wp_ret ?_))
 obtain rfl:=si H
 exact rt1 E ⟨_,rfl,_,rfl,S⟩
def qAK.f(k:Nat)(x:List Int)(x1c0_:qD)(x1c1_:List Bool):Option Bool:=(qj.f k x x1c0_ x1c1_).bind fun t4=>(some (decide (t4>=0)))
def qAK.Post(W F:World)(r:Bool)(v:Value)(w':World):Prop:=∃(F':World),v = .bool r/\Sm W F w' F' []
theorem qAK.calls(k:Nat)(x:List Int)(x1c0_:qD)(x1c1_:List Bool)(A0_0:OA)(c0_0:Nat)(p1c0_:Nat)(A1c0_4:OA)(c1c0_4:Nat)(A1c0_5:OA)(c1c0_5:Nat)(A1c0_6:OA)(c1c0_6:Nat)(p1c1_:Nat)(A1c1_0:OA)(c1c1_0:Nat)(r:Bool)(W F:World)(hown:Sub F W)(g0_0:Rd ki F A0_0 c0_0 x)(g1c0_4:Rd qA.k F A1c0_4 c1c0_4 x1c0_.f4)(g1c0_5:Rd qE.k F A1c0_5 c1c0_5 x1c0_.f5)(g1c0_6:Rd qC.k F A1c0_6 c1c0_6 x1c0_.f6)(hp1c0_:F.heap[p1c0_]? = some (.cells (mA x1c0_ A1c0_4 c1c0_4 A1c0_5 c1c0_5 A1c0_6 c1c0_6) 26 (0,0)))(g1c1_0:Rd Kn.bool F A1c1_0 c1c1_0 x1c1_)(hp1c1_:F.heap[p1c1_]? = some (.cells #[.slice A1c1_0 x1c1_.length c1c1_0] 30 (0,0)))(H:qAK.f k x x1c0_ x1c1_=some r):
    Cr 43 #[.slice A0_0 x.length c0_0,.func (.func 41) #[] #[.pointer (pb p1c0_),.pointer (pb p1c1_)]] W (qAK.Post W F r):=by
 have S:=sT hown
 unfold qAK.f at H
 refine ent 9 rfl rfl rfl fun a E=>?_
 refine rr E fun a E=>(sq fun K2 hK2=>pl0 (plc E (.r 0 2 .nil) fun a E=>?_))
 obtain ⟨t4,h5,H⟩:=bd H
 refine plq E S en72 (qj.calls k x x1c0_ x1c1_ _ _ _ _ _ _ _ _ _ _ _ _ _ _ _ S.own.sub g0_0 g1c0_4 g1c0_5 g1c0_6 hp1c0_ g1c1_0 hp1c1_ h5) fun u3 S a E=>plc E (.r 3 2 .nil) fun a E=>pld (hK2 _ _ (wp_ret ?_))
 obtain rfl:=si H
 exact rt1 E ⟨_,rfl,_,rfl,S⟩
end Go.Proofs.YthgfhlbjkmjlpaaGreat.GD
