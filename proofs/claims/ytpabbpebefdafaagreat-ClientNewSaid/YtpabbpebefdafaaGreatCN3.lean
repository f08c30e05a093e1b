import Derived.Test.YtpabbpebefdafaaGreatCN2
namespace Go.Proofs.YtpabbpebefdafaaGreat.CN
open Go Go.RowKit Go.Proofs.YtpabbpebefdafaaGreat.Sl
set_option linter.unusedVariables false
set_option linter.unusedSimpArgs false
set_option maxHeartbeats 4000000
set_option maxRecDepth 100000
mutual
def qQ.l19:Nat→List qA→List qB→Int→Option (List qB)
 | 0,_,_,_=>none
 | k+1,x,l16,x17=>if x17<(x.length:Int) then (if 0≤x17∧x17<(x.length:Int) then ((qBg.f (nth qA.z x x17)).bind fun t39=>(if t39=true then ((qBV.f (nth qA.z x x17)).bind fun t44=>((qG.f k l16 t44).bind fun t47=>(if t47.2=true then (qQ.j72 k x x17 t47 l16) else ((qBV.f (nth qA.z x x17)).bind fun t53=>((qq.f l16 t47.1 [(⟨t53,0⟩:qB)]).bind fun t60=>(qQ.j72 k x x17 t47 t60)))))) else (qQ.l19 k x l16 (w64 (x17+1))))) else (none)) else (some l16)
def qQ.j72:Nat→List qA→Int→Int × Bool→List qB→Option (List qB)
 | 0,_,_,_,_=>none
 | k+1,x,x17,t47,l70=>if ((nth qA.z x x17).f5)=true then (if 0≤t47.1∧t47.1<(l70.length:Int) then (qQ.l19 k x (l70.set (t47.1).toNat (⟨(nth qB.z l70 t47.1).f0,(if (w64 ((nth qB.z l70 t47.1).f1+(nth qA.z x x17).f3))<65536 then (w64 ((nth qB.z l70 t47.1).f1+(nth qA.z x x17).f3)) else 65536)⟩:qB)) (w64 (x17+1))) else (none)) else (qQ.l19 k x l70 (w64 (x17+1)))
end
theorem qQ.l19_s k x l16 x17:type_of% (qQ.l19.eq_2 x l16 x17 k):=qQ.l19.eq_2 x l16 x17 k
theorem qQ.j72_s k x x17 t47 l70:type_of% (qQ.j72.eq_2 x x17 t47 l70 k):=qQ.j72.eq_2 x x17 t47 l70 k
def qQ.f(k:Nat)(x:List qA):Option (List qB):=(qAI.f k x).bind fun t6=>(if t6=0 then (qQ.l19 k x [] 0) else (some []))
def qQ.Post(W F:World)(r:List qB)(v:Value)(w':World):Prop:=∃(F':World)(RA0_0:OA)(rc0_0:Nat),v = .slice RA0_0 r.length rc0_0∧Sm W F w' F' [row qB.k 306 (.slice RA0_0 r.length rc0_0) r]
theorem qQ.calls(k:Nat)(x:List qA)(A0_0:OA)(c0_0:Nat)(r:List qB)(W F:World)(hown:Sub F W)(g0_0:Rd qA.k F A0_0 c0_0 x)(H:qQ.f k x=some r):
    Cr 317 #[.slice A0_0 x.length c0_0,.func (.func 318) #[] #[],.func (.func 319) #[] #[]] W (qQ.Post W F r):=by
 have S:=sT hown
 unfold qQ.f at H
 refine ent 60 rfl rfl rfl (fun a E=>?_)
 refine rr E fun a E=>(rr E fun a E=>(sq fun K3 hK3=>sq fun K4 hK4=>pl0 (plc E (.r 0 1 .nil) (fun a E=>?_))))
 obtain ⟨t6,h7,H⟩:=bd H
 refine plq E S en95 (qAI.calls k x _ _ _ _ _ S.own.sub g0_0 h7) fun u5 S a E=>plc E (.r 2 1 .nil) (fun a E=>pld (hK4 _ _ (E.ikn 14 H (fun c8 E H=>?_) fun c8 E H=>?_)))
 refine wp_skip (hK3 _ _ (sq fun K11 hK11=>rr E fun a E=>(wp_block ?_)))
 replace S:=S.nilrow qB.k 306
 refine wp_loop_ghost (fun kq20 a w'=>∃(G:NV)(A14:OA)(c15:Nat)(l16:List qB)(x17:Int)(F18:World),kq20≤k∧Env 60 G a∧At G [(1,.func (.func 318) #[] #[]),(2,.func (.func 319) #[] #[]),(7,.slice A14 l16.length c15),(15,.slice A0_0 x.length c0_0),(16,iv (x.length:Int)),(17,iv x17)]∧Sm W F w' F18 [row qB.k 306 (.slice A14 l16.length c15) l16]∧Rd qA.k F18 A0_0 c0_0 x∧qQ.l19 kq20 x l16 x17=some r) k ⟨_,none,0,[],0,F,Nat.le_refl _,E,.of,S,g0_0,H⟩ ?_
 rintro kq20 a u22 ⟨G,A14,c15,l16,x17,F18,hkq,E,A,S,g0_0,H⟩
 obtain _ | k21:=kq20
 exact zz H
 rw [qQ.l19_s]at H
 obtain ⟨J,E⟩:=E.at A
 refine rr E fun a E=>(sq fun K24 hK24=>E.ik 18 H (fun c25 E H=>?_) fun c25 E H=>?_)
 refine wp_skip (hK24 _ _ (sq fun K26 hK26=>wp_block (sq fun K27 hK27=>pl0 ?_)))
 obtain ⟨c28,H⟩:=gd H
 have hE_:=E
 obtain ⟨ad29,rfl⟩:=g0_0.addr c28.1 c28.2
 replace E:=hE_
 obtain ⟨cs31,rfl,hc32⟩:=g0_0.el qA.z x17 c28.1 c28.2
 refine plc E (.x 0 c28<|.cs 1 (S.fcs hc32)<|.nil) (fun a E=>pla (t:=153) E S [iv 0,iv 0,iv 0,iv 0,.bool false,.bool false] fun b33 u34 hb33 S a E=>pls E S [iv ((nth qA.z x x17).f0),iv ((nth qA.z x x17).f1),iv ((nth qA.z x x17).f2),iv ((nth qA.z x x17).f3),.bool ((nth qA.z x x17).f4),.bool ((nth qA.z x x17).f5)] fun u35 hb33 S a E=>pld (hK27 _ _ (sq fun K36 hK36=>sq fun K37 hK37=>pl0 (plc E (.r 0 1<|.bn 1 0 6 hb33<|.nil) (fun a E=>?_)))))
 obtain ⟨t39,h40,H⟩:=bd H
 refine plq E S en318 (qBg.calls (nth qA.z x x17) _ _ _ S.own.sub h40) fun u38 S a E=>plc E (.r 3 1 .nil) (fun a E=>pld (hK37 _ _ (E.ibn 24 H (fun c41 E H=>?_) fun c41 E H=>?_)))
 refine wp_skip (hK36 _ _ (sq fun K42 hK42=>pl0 ?_))
 have hb33:=S.ba 0
 refine plc E (.r 0 2<|.bn 2 0 6 hb33<|.nil) (fun a E=>?_)
 obtain ⟨t44,h45,H⟩:=bd H
 refine plq E S en319 (qBV.calls (nth qA.z x x17) _ _ _ S.own.sub h45) fun u43 S a E=>?_
 obtain ⟨t47,h48,H⟩:=bd H
 refine plq E S en336 (qG.calls k21 l16 t44 _ _ _ _ _ (Sub.refl _) (S.rd_at (i:=1) rfl) h48) fun u46 S a E=>plc E (.r 5 5 .nil) (fun a E=>pld (hK42 _ _ (sq fun K49 hK49=>?_)))
 have J75:∀ kq73,kq73≤k21→∀(G:NV)(A68:OA)(c69:Nat)(l70:List qB)(F71:World)(a:Act)(w':World),Env 60 G a→At G [(1,.func (.func 318) #[] #[]),(2,.func (.func 319) #[] #[]),(7,.slice A68 l70.length c69),(9,.pointer (pb b33)),(10,iv t47.1),(15,.slice (some ad29) x.length c0_0),(16,iv (x.length:Int)),(17,iv x17)]→Sm W F w' F71 [box b33 #[iv ((nth qA.z x x17).f0),iv ((nth qA.z x x17).f1),iv ((nth qA.z x x17).f2),iv ((nth qA.z x x17).f3),.bool ((nth qA.z x x17).f4),.bool ((nth qA.z x x17).f5)] 153,row qB.k 306 (.slice A68 l70.length c69) l70]→Rd qA.k F71 (some ad29) c0_0 x→qQ.j72 kq73 x x17 t47 l70=some r→K49 a w':=by
  intro kq73 hkq G A68 c69 l70 F71 a u76 E A S g0_0 H
  obtain _ | k74:=kq73
  exact zz H
  rw [qQ.j72_s]at H
  obtain ⟨J,E⟩:=E.at A
  refine hK49 _ _ (sq fun K77 hK77=>pl0 ?_)
  have hb33:=S.ba 0
  refine plc E (.r 0 1<|.b 1 5 hb33<|.nil) (fun a E=>pld (hK77 _ _ (E.ib 44 H (fun c78 E H=>?_) fun c78 E H=>?_)))
  refine drawn 14 ⟨[13],[],fun q=>False⟩ mixed rfl (by kernel_rfl) (fun hst=>?_)
  replace S:=S.drew
  obtain ⟨c79,H⟩:=gd H
  have hr80:=S.ra 1
  have hE_:=E
  obtain ⟨b81,rfl⟩:=qCP hr80 c79.1 c79.2
  replace E:=hE_
  have hr_:=S.ra 1
  obtain ⟨cs83,rfl,hc84⟩:=qCO hr_ qB.z t47.1 c79.1 c79.2
  have hb33:=S.ba 0
  have hr85:=S.ra 1
  refine mny 1 hst E (.r 0 4<|.x 4 c79<|.r 5 1<|.c 6 (hc84 1 _ rfl)<|.r 7 1<|.b 8 3 hb33<|.r 9 2<|.x 11 c79<|.r 12 1<|.nil) (fun a E=>?_)
  replace S:=S.front 1 rfl
  obtain ⟨cs90,rfl,hc91⟩:=qCO (S.row_at (i:=0) rfl) qB.z t47.1 c79.1 c79.2
  refine on1 13 E (.set (d:=qB.k) (n:=l70.length) (i:=t47.1) (⟨(nth qB.z l70 t47.1).f0,(if (w64 ((nth qB.z l70 t47.1).f1+(nth qA.z x x17).f3))<65536 then (w64 ((nth qB.z l70 t47.1).f1+(nth qA.z x x17).f3)) else 65536)⟩:qB) 1 (ea1 _ _ _) S c79 [iv ((nth qB.z l70 t47.1).f0),iv ((nth qB.z l70 t47.1).f1)] hc91 [iv ((nth qB.z l70 t47.1).f0),iv (if (w64 ((nth qB.z l70 t47.1).f1+(nth qA.z x x17).f3))<65536 then (w64 ((nth qB.z l70 t47.1).f1+(nth qA.z x x17).f3)) else 65536)] rfl) ?_
  rintro _ u89 a ⟨rfl,S,hz⟩ E
  refine ⟨.d,?_⟩
  refine dn ?_
  refine qCL ?_
  refine hK26 _ _ (pl0 (plc E (.r 0 2 .nil) (fun a E=>pld ?_)))
  have hn92:=(qCN (S.row_at (i:=0) rfl)).1
  replace E:=E.set (d:=7) (v:=.slice (pb b81) ((l70.set (t47.1).toNat (⟨(nth qB.z l70 t47.1).f0,(if (w64 ((nth qB.z l70 t47.1).f1+(nth qA.z x x17).f3))<65536 then (w64 ((nth qB.z l70 t47.1).f1+(nth qA.z x x17).f3)) else 65536)⟩:qB)).length) c69) (Eq.trans (b:=.slice (pb b81) l70.length c69) (by kernel_rfl) (by rw [← hn92]))
  replace S:Sm W F u89 F71 [row qB.k 306 (.slice (pb b81) ((l70.set (t47.1).toNat (⟨(nth qB.z l70 t47.1).f0,(if (w64 ((nth qB.z l70 t47.1).f1+(nth qA.z x x17).f3))<65536 then (w64 ((nth qB.z l70 t47.1).f1+(nth qA.z x x17).f3)) else 65536)⟩:qB)).length) c69) (l70.set (t47.1).toNat (⟨(nth qB.z l70 t47.1).f0,(if (w64 ((nth qB.z l70 t47.1).f1+(nth qA.z x x17).f3))<65536 then (w64 ((nth qB.z l70 t47.1).f1+(nth qA.z x x17).f3)) else 65536)⟩:qB)),box b33 #[iv ((nth qA.z x x17).f0),iv ((nth qA.z x x17).f1),iv ((nth qA.z x x17).f2),iv ((nth qA.z x x17).f3),.bool ((nth qA.z x x17).f4),.bool ((nth qA.z x x17).f5)] 153]:=by rw [← hn92]; exact S
  replace S:=S.pm [0] 2
  exact qCM ⟨k74,by omega,_,(pb b81),c69,(l70.set (t47.1).toNat (⟨(nth qB.z l70 t47.1).f0,(if (w64 ((nth qB.z l70 t47.1).f1+(nth qA.z x x17).f3))<65536 then (w64 ((nth qB.z l70 t47.1).f1+(nth qA.z x x17).f3)) else 65536)⟩:qB)),(w64 (x17+1)),F71,by omega,E,.of,S,g0_0,H⟩
  refine wp_skip ?_
  refine qCL ?_
  refine hK26 _ _ (pl0 (plc E (.r 0 2 .nil) (fun a E=>pld ?_)))
  replace S:=S.tail
  exact qCM ⟨k74,by omega,_,A68,c69,l70,(w64 (x17+1)),F71,by omega,E,.of,S,g0_0,H⟩
 refine rr E fun a E=>(E.ibn 34 H (fun c51 E H=>?_) fun c51 E H=>?_)
 refine wp_skip ?_
 exact J75 _ (by omega) _ A14 c15 l16 F18 _ _ E .of S g0_0 H
 refine pl0 (plc E (.r 0 3<|.bn 3 0 6 (S.ba 0)<|.nil) (fun a E=>?_))
 obtain ⟨t53,h54,H⟩:=bd H
 refine plq E S en319 (qBV.calls (nth qA.z x x17) _ _ _ S.own.sub h54) fun u52 S a E=>plc E (.r 5 1 .nil) (fun a E=>ple E (.lit (d:=qB.k) (e:=306) S [(⟨t53,0⟩:qB)] (.cons rfl .nil)) ?_)
 rintro _ u55 a ⟨A56,c57,rfl,S,hg⟩ E
 replace S:=S.front 2 rfl
 obtain ⟨t60,h61,H⟩:=bd H
 refine ple E (.cl en338 (qq.calls l16 t47.1 [(⟨t53,0⟩:qB)] _ _ _ _ _ _ _ (Own.left (X:=[row qB.k 306 (.slice A14 l16.length c15) l16,row qB.k 306 (.slice A56 ([(⟨t53,0⟩:qB)].length) c57) [(⟨t53,0⟩:qB)]]) S.own) h61)) ?_
 rintro _ u59 a ⟨F62,A63,c64,rfl,hC⟩ E
 have hs:=hC.sub
 replace S:=S.called (X:=[row qB.k 306 (.slice A14 l16.length c15) l16,row qB.k 306 (.slice A56 ([(⟨t53,0⟩:qB)].length) c57) [(⟨t53,0⟩:qB)]]) hC
 replace g0_0:=g0_0.mono hs
 refine plc E (.r 8 1 .nil) (fun a E=>pld ?_)
 replace S:=S.front 1 rfl
 exact J75 _ (by omega) _ A63 c64 t60 F62 _ _ E .of S g0_0 H
 refine wp_exit ?_
 refine hK26 _ _ (pl0 (plc E (.r 0 2 .nil) (fun a E=>pld ?_)))
 replace S:=S.tail
 exact qCM ⟨k21,by omega,_,A14,c15,l16,(w64 (x17+1)),F18,by omega,E,.of,S,g0_0,H⟩
 refine wp_exit ?_
 refine hK11 _ _ (rr E fun a E=>(wp_ret ?_))
 obtain rfl:=si H
 exact rt1 E ⟨_,rfl,_,_,_,rfl,S⟩
 refine rr E fun a E=>(wp_ret (qCJ ?_))
 replace S:=S.nilrow qB.k 306
 obtain rfl:=si H
 exact rt1 E ⟨_,rfl,_,_,_,rfl,S⟩
def qBr.f(k:Nat)(x:List qA):Option (List qB):=(qQ.f k x).bind fun t4=>(some t4)
def qBr.Post(W F:World)(r:List qB)(v:Value)(w':World):Prop:=∃(F':World)(RA0_0:OA)(rc0_0:Nat),v = .slice RA0_0 r.length rc0_0∧Sm W F w' F' [row qB.k 306 (.slice RA0_0 r.length rc0_0) r]
theorem qBr.calls(k:Nat)(x:List qA)(A0_0:OA)(c0_0:Nat)(r:List qB)(W F:World)(hown:Sub F W)(g0_0:Rd qA.k F A0_0 c0_0 x)(H:qBr.f k x=some r):
    Cr 298 #[.slice A0_0 x.length c0_0] W (qBr.Post W F r):=by
 have S:=sT hown
 unfold qBr.f at H
 refine ent 5 rfl rfl rfl (fun a E=>?_)
 refine rr E fun a E=>(sq fun K2 hK2=>pl0 (plc E (.r 0 1 .nil) (fun a E=>?_)))
 obtain ⟨t4,h5,H⟩:=bd H
 refine ple E (.cl en317 (qQ.calls k x _ _ _ _ _ S.own.sub g0_0 h5)) ?_
 rintro _ u3 a ⟨F6,A7,c8,rfl,hC⟩ E
 have hs:=hC.sub
 replace S:=S.called (X:=[]) hC
 replace g0_0:=g0_0.mono hs
 refine plc E (.r 2 1 .nil) (fun a E=>pld (hK2 _ _ (wp_ret ?_)))
 obtain rfl:=si H
 exact rt1 E ⟨_,rfl,_,_,_,rfl,S⟩
def qBh.f(x:qA)(xf0_:Int):Option Bool:=some (x.f1 == xf0_)
def qBh.Post(W F:World)(r:Bool)(v:Value)(w':World):Prop:=∃(F':World),v = .bool r∧Sm W F w' F' []
theorem qBh.calls(x:qA)(xf0_:Int)(pf0_:Nat)(r:Bool)(W F:World)(hown:Sub F W)(hpf0_:F.heap[pf0_]? = some (.cells #[iv xf0_] 3 (0,0)))(H:qBh.f x xf0_=some r):
    Cr 320 #[.agg #[iv x.f0,iv x.f1,iv x.f2,iv x.f3,.bool x.f4,.bool x.f5],.pointer (pb pf0_)] W (qBh.Post W F r):=by
 have S:=sT hown
 unfold qBh.f at H
 refine ent 8 rfl rfl rfl (fun a E=>?_)
 refine sq fun K1 hK1=>pl0 (plx (t:=153) E S [iv x.f0,iv x.f1,iv x.f2,iv x.f3,.bool x.f4,.bool x.f5] fun b2 u3 hb2 S a E=>plc E (.r 1 1 .nil) (fun a E=>pld (hK1 _ _ (rg E (.r 0 1<|.b 1 1 hb2<|.b 2 0 (S.own.sub _ _ _ _ hpf0_)<|.r 3 2<|.nil) fun a E=>(wp_ret ?_)))))
 replace S:=S.tail
 obtain rfl:=si H
 exact rt1 E ⟨_,rfl,_,rfl,S⟩
def qBW.f(x:qA):Option Int:=some x.f2
def qBW.Post(W F:World)(r:Int)(v:Value)(w':World):Prop:=∃(F':World),v=iv r∧Sm W F w' F' []
theorem qBW.calls(x:qA)(r:Int)(W F:World)(hown:Sub F W)(H:qBW.f x=some r):
    Cr 321 #[.agg #[iv x.f0,iv x.f1,iv x.f2,iv x.f3,.bool x.f4,.bool x.f5]] W (qBW.Post W F r):=by
 have S:=sT hown
 unfold qBW.f at H
 refine ent 5 rfl rfl rfl (fun a E=>?_)
 refine sq fun K1 hK1=>pl0 (plx (t:=153) E S [iv x.f0,iv x.f1,iv x.f2,iv x.f3,.bool x.f4,.bool x.f5] fun b2 u3 hb2 S a E=>plc E (.r 1 1 .nil) (fun a E=>pld (hK1 _ _ (rg E (.r 0 1<|.b 1 2 hb2<|.r 2 1<|.nil) fun a E=>(wp_ret ?_)))))
 replace S:=S.tail
 obtain rfl:=si H
 exact rt1 E ⟨_,rfl,_,rfl,S⟩
mutual
def qR.l19:Nat→List qA→Int→List qB→Int→Option (List qB)
 | 0,_,_,_,_=>none
 | k+1,x,x1c0_,l16,x17=>if x17<(x.length:Int) then (if 0≤x17∧x17<(x.length:Int) then ((qBh.f (nth qA.z x x17) x1c0_).bind fun t39=>(if t39=true then ((qBW.f (nth qA.z x x17)).bind fun t44=>((qG.f k l16 t44).bind fun t47=>(if t47.2=true then (qR.j72 k x x1c0_ x17 t47 l16) else ((qBW.f (nth qA.z x x17)).bind fun t53=>((qq.f l16 t47.1 [(⟨t53,0⟩:qB)]).bind fun t60=>(qR.j72 k x x1c0_ x17 t47 t60)))))) else (qR.l19 k x x1c0_ l16 (w64 (x17+1))))) else (none)) else (some l16)
def qR.j72:Nat→List qA→Int→Int→Int × Bool→List qB→Option (List qB)
 | 0,_,_,_,_,_=>none
 | k+1,x,x1c0_,x17,t47,l70=>if ((nth qA.z x x17).f5)=true then (if 0≤t47.1∧t47.1<(l70.length:Int) then (qR.l19 k x x1c0_ (l70.set (t47.1).toNat (⟨(nth qB.z l70 t47.1).f0,(if (w64 ((nth qB.z l70 t47.1).f1+(nth qA.z x x17).f3))<65536 then (w64 ((nth qB.z l70 t47.1).f1+(nth qA.z x x17).f3)) else 65536)⟩:qB)) (w64 (x17+1))) else (none)) else (qR.l19 k x x1c0_ l70 (w64 (x17+1)))
end
theorem qR.l19_s k x x1c0_ l16 x17:type_of% (qR.l19.eq_2 x x1c0_ l16 x17 k):=qR.l19.eq_2 x x1c0_ l16 x17 k
theorem qR.j72_s k x x1c0_ x17 t47 l70:type_of% (qR.j72.eq_2 x x1c0_ x17 t47 l70 k):=qR.j72.eq_2 x x1c0_ x17 t47 l70 k
def qR.f(k:Nat)(x:List qA)(x1c0_:Int):Option (List qB):=(qAI.f k x).bind fun t6=>(if t6=0 then (qR.l19 k x x1c0_ [] 0) else (some []))
def qR.Post(W F:World)(r:List qB)(v:Value)(w':World):Prop:=∃(F':World)(RA0_0:OA)(rc0_0:Nat),v = .slice RA0_0 r.length rc0_0∧Sm W F w' F' [row qB.k 306 (.slice RA0_0 r.length rc0_0) r]
theorem qR.calls(k:Nat)(x:List qA)(x1c0_:Int)(A0_0:OA)(c0_0:Nat)(p1c0_:Nat)(r:List qB)(W F:World)(hown:Sub F W)(g0_0:Rd qA.k F A0_0 c0_0 x)(hp1c0_:F.heap[p1c0_]? = some (.cells #[iv x1c0_] 3 (0,0)))(H:qR.f k x x1c0_=some r):
    Cr 317 #[.slice A0_0 x.length c0_0,.func (.func 320) #[] #[.pointer (pb p1c0_)],.func (.func 321) #[] #[]] W (qR.Post W F r):=by
 have S:=sT hown
 unfold qR.f at H
 refine ent 60 rfl rfl rfl (fun a E=>?_)
 refine rr E fun a E=>(rr E fun a E=>(sq fun K3 hK3=>sq fun K4 hK4=>pl0 (plc E (.r 0 1 .nil) (fun a E=>?_))))
 obtain ⟨t6,h7,H⟩:=bd H
 refine plq E S en95 (qAI.calls k x _ _ _ _ _ S.own.sub g0_0 h7) fun u5 S a E=>plc E (.r 2 1 .nil) (fun a E=>pld (hK4 _ _ (E.ikn 14 H (fun c8 E H=>?_) fun c8 E H=>?_)))
 refine wp_skip (hK3 _ _ (sq fun K11 hK11=>rr E fun a E=>(wp_block ?_)))
 replace S:=S.nilrow qB.k 306
 refine wp_loop_ghost (fun kq20 a w'=>∃(G:NV)(A14:OA)(c15:Nat)(l16:List qB)(x17:Int)(F18:World),kq20≤k∧Env 60 G a∧At G [(1,.func (.func 320) #[] #[.pointer (pb p1c0_)]),(2,.func (.func 321) #[] #[]),(7,.slice A14 l16.length c15),(15,.slice A0_0 x.length c0_0),(16,iv (x.length:Int)),(17,iv x17)]∧Sm W F w' F18 [row qB.k 306 (.slice A14 l16.length c15) l16]∧Rd qA.k F18 A0_0 c0_0 x∧F18.heap[p1c0_]? = some (.cells #[iv x1c0_] 3 (0,0))∧qR.l19 kq20 x x1c0_ l16 x17=some r) k ⟨_,none,0,[],0,F,Nat.le_refl _,E,.of,S,g0_0,hp1c0_,H⟩ ?_
 rintro kq20 a u22 ⟨G,A14,c15,l16,x17,F18,hkq,E,A,S,g0_0,hp1c0_,H⟩
 obtain _ | k21:=kq20
 exact zz H
 rw [qR.l19_s]at H
 obtain ⟨J,E⟩:=E.at A
 refine rr E fun a E=>(sq fun K24 hK24=>E.ik 18 H (fun c25 E H=>?_) fun c25 E H=>?_)
 refine wp_skip (hK24 _ _ (sq fun K26 hK26=>wp_block (sq fun K27 hK27=>pl0 ?_)))
 obtain ⟨c28,H⟩:=gd H
 have hE_:=E
 obtain ⟨ad29,rfl⟩:=g0_0.addr c28.1 c28.2
 replace E:=hE_
 obtain ⟨cs31,rfl,hc32⟩:=g0_0.el qA.z x17 c28.1 c28.2
 refine plc E (.x 0 c28<|.cs 1 (S.fcs hc32)<|.nil) (fun a E=>pla (t:=153) E S [iv 0,iv 0,iv 0,iv 0,.bool false,.bool false] fun b33 u34 hb33 S a E=>pls E S [iv ((nth qA.z x x17).f0),iv ((nth qA.z x x17).f1),iv ((nth qA.z x x17).f2),iv ((nth qA.z x x17).f3),.bool ((nth qA.z x x17).f4),.bool ((nth qA.z x x17).f5)] fun u35 hb33 S a E=>pld (hK27 _ _ (sq fun K36 hK36=>sq fun K37 hK37=>pl0 (plc E (.r 0 1<|.bn 1 0 6 hb33<|.nil) (fun a E=>?_)))))
 obtain ⟨t39,h40,H⟩:=bd H
 refine plq E S en320 (qBh.calls (nth qA.z x x17) x1c0_ _ _ _ _ S.own.sub hp1c0_ h40) fun u38 S a E=>plc E (.r 3 1 .nil) (fun a E=>pld (hK37 _ _ (E.ibn 24 H (fun c41 E H=>?_) fun c41 E H=>?_)))
 refine wp_skip (hK36 _ _ (sq fun K42 hK42=>pl0 ?_))
 have hb33:=S.ba 0
 refine plc E (.r 0 2<|.bn 2 0 6 hb33<|.nil) (fun a E=>?_)
 obtain ⟨t44,h45,H⟩:=bd H
 refine plq E S en321 (qBW.calls (nth qA.z x x17) _ _ _ S.own.sub h45) fun u43 S a E=>?_
 obtain ⟨t47,h48,H⟩:=bd H
 refine plq E S en336 (qG.calls k21 l16 t44 _ _ _ _ _ (Sub.refl _) (S.rd_at (i:=1) rfl) h48) fun u46 S a E=>plc E (.r 5 5 .nil) (fun a E=>pld (hK42 _ _ (sq fun K49 hK49=>?_)))
 have J75:∀ kq73,kq73≤k21→∀(G:NV)(A68:OA)(c69:Nat)(l70:List qB)(F71:World)(a:Act)(w':World),Env 60 G a→At G [(1,.func (.func 320) #[] #[.pointer (pb p1c0_)]),(2,.func (.func 321) #[] #[]),(7,.slice A68 l70.length c69),(9,.pointer (pb b33)),(10,iv t47.1),(15,.slice (some ad29) x.length c0_0),(16,iv (x.length:Int)),(17,iv x17)]→Sm W F w' F71 [box b33 #[iv ((nth qA.z x x17).f0),iv ((nth qA.z x x17).f1),iv ((nth qA.z x x17).f2),iv ((nth qA.z x x17).f3),.bool ((nth qA.z x x17).f4),.bool ((nth qA.z x x17).f5)] 153,row qB.k 306 (.slice A68 l70.length c69) l70]→Rd qA.k F71 (some ad29) c0_0 x→F71.heap[p1c0_]? = some (.cells #[iv x1c0_] 3 (0,0))→qR.j72 kq73 x x1c0_ x17 t47 l70=some r→K49 a w':=by
  intro kq73 hkq G A68 c69 l70 F71 a u76 E A S g0_0 hp1c0_ H
  obtain _ | k74:=kq73
  exact zz H
  rw [qR.j72_s]at H
  obtain ⟨J,E⟩:=E.at A
  refine hK49 _ _ (sq fun K77 hK77=>pl0 ?_)
  have hb33:=S.ba 0
  refine plc E (.r 0 1<|.b 1 5 hb33<|.nil) (fun a E=>pld (hK77 _ _ (E.ib 44 H (fun c78 E H=>?_) fun c78 E H=>?_)))
  refine drawn 14 ⟨[13],[],fun q=>False⟩ mixed rfl (by kernel_rfl) (fun hst=>?_)
  replace S:=S.drew
  obtain ⟨c79,H⟩:=gd H
  have hr80:=S.ra 1
  have hE_:=E
  obtain ⟨b81,rfl⟩:=qCP hr80 c79.1 c79.2
  replace E:=hE_
  have hr_:=S.ra 1
  obtain ⟨cs83,rfl,hc84⟩:=qCO hr_ qB.z t47.1 c79.1 c79.2
  have hb33:=S.ba 0
  have hr85:=S.ra 1
  refine mny 1 hst E (.r 0 4<|.x 4 c79<|.r 5 1<|.c 6 (hc84 1 _ rfl)<|.r 7 1<|.b 8 3 hb33<|.r 9 2<|.x 11 c79<|.r 12 1<|.nil) (fun a E=>?_)
  replace S:=S.front 1 rfl
  obtain ⟨cs90,rfl,hc91⟩:=qCO (S.row_at (i:=0) rfl) qB.z t47.1 c79.1 c79.2
  refine on1 13 E (.set (d:=qB.k) (n:=l70.length) (i:=t47.1) (⟨(nth qB.z l70 t47.1).f0,(if (w64 ((nth qB.z l70 t47.1).f1+(nth qA.z x x17).f3))<65536 then (w64 ((nth qB.z l70 t47.1).f1+(nth qA.z x x17).f3)) else 65536)⟩:qB) 1 (ea1 _ _ _) S c79 [iv ((nth qB.z l70 t47.1).f0),iv ((nth qB.z l70 t47.1).f1)] hc91 [iv ((nth qB.z l70 t47.1).f0),iv (if (w64 ((nth qB.z l70 t47.1).f1+(nth qA.z x x17).f3))<65536 then (w64 ((nth qB.z l70 t47.1).f1+(nth qA.z x x17).f3)) else 65536)] rfl) ?_
  rintro _ u89 a ⟨rfl,S,hz⟩ E
  refine ⟨.d,?_⟩
  refine dn ?_
  refine qCL ?_
  refine hK26 _ _ (pl0 (plc E (.r 0 2 .nil) (fun a E=>pld ?_)))
  have hn92:=(qCN (S.row_at (i:=0) rfl)).1
  replace E:=E.set (d:=7) (v:=.slice (pb b81) ((l70.set (t47.1).toNat (⟨(nth qB.z l70 t47.1).f0,(if (w64 ((nth qB.z l70 t47.1).f1+(nth qA.z x x17).f3))<65536 then (w64 ((nth qB.z l70 t47.1).f1+(nth qA.z x x17).f3)) else 65536)⟩:qB)).length) c69) (Eq.trans (b:=.slice (pb b81) l70.length c69) (by kernel_rfl) (by rw [← hn92]))
  replace S:Sm W F u89 F71 [row qB.k 306 (.slice (pb b81) ((l70.set (t47.1).toNat (⟨(nth qB.z l70 t47.1).f0,(if (w64 ((nth qB.z l70 t47.1).f1+(nth qA.z x x17).f3))<65536 then (w64 ((nth qB.z l70 t47.1).f1+(nth qA.z x x17).f3)) else 65536)⟩:qB)).length) c69) (l70.set (t47.1).toNat (⟨(nth qB.z l70 t47.1).f0,(if (w64 ((nth qB.z l70 t47.1).f1+(nth qA.z x x17).f3))<65536 then (w64 ((nth qB.z l70 t47.1).f1+(nth qA.z x x17).f3)) else 65536)⟩:qB)),box b33 #[iv ((nth qA.z x x17).f0),iv ((nth qA.z x x17).f1),iv ((nth qA.z x x17).f2),iv ((nth qA.z x x17).f3),.bool ((nth qA.z x x17).f4),.bool ((nth qA.z x x17).f5)] 153]:=by rw [← hn92]; exact S
  replace S:=S.pm [0] 2
  exact qCM ⟨k74,by omega,_,(pb b81),c69,(l70.set (t47.1).toNat (⟨(nth qB.z l70 t47.1).f0,(if (w64 ((nth qB.z l70 t47.1).f1+(nth qA.z x x17).f3))<65536 then (w64 ((nth qB.z l70 t47.1).f1+(nth qA.z x x17).f3)) else 65536)⟩:qB)),(w64 (x17+1)),F71,by omega,E,.of,S,g0_0,hp1c0_,H⟩
  refine wp_skip ?_
  refine qCL ?_
  refine hK26 _ _ (pl0 (plc E (.r 0 2 .nil) (fun a E=>pld ?_)))
  replace S:=S.tail
  exact qCM ⟨k74,by omega,_,A68,c69,l70,(w64 (x17+1)),F71,by omega,E,.of,S,g0_0,hp1c0_,H⟩
 refine rr E fun a E=>(E.ibn 34 H (fun c51 E H=>?_) fun c51 E H=>?_)
 refine wp_skip ?_
 exact J75 _ (by omega) _ A14 c15 l16 F18 _ _ E .of S g0_0 hp1c0_ H
 refine pl0 (plc E (.r 0 3<|.bn 3 0 6 (S.ba 0)<|.nil) (fun a E=>?_))
 obtain ⟨t53,h54,H⟩:=bd H
 refine plq E S en321 (qBW.calls (nth qA.z x x17) _ _ _ S.own.sub h54) fun u52 S a E=>plc E (.r 5 1 .nil) (fun a E=>ple E (.lit (d:=qB.k) (e:=306) S [(⟨t53,0⟩:qB)] (.cons rfl .nil)) ?_)
 rintro _ u55 a ⟨A56,c57,rfl,S,hg⟩ E
 replace S:=S.front 2 rfl
 obtain ⟨t60,h61,H⟩:=bd H
 refine ple E (.cl en338 (qq.calls l16 t47.1 [(⟨t53,0⟩:qB)] _ _ _ _ _ _ _ (Own.left (X:=[row qB.k 306 (.slice A14 l16.length c15) l16,row qB.k 306 (.slice A56 ([(⟨t53,0⟩:qB)].length) c57) [(⟨t53,0⟩:qB)]]) S.own) h61)) ?_
 rintro _ u59 a ⟨F62,A63,c64,rfl,hC⟩ E
 have hs:=hC.sub
 replace S:=S.called (X:=[row qB.k 306 (.slice A14 l16.length c15) l16,row qB.k 306 (.slice A56 ([(⟨t53,0⟩:qB)].length) c57) [(⟨t53,0⟩:qB)]]) hC
 replace g0_0:=g0_0.mono hs
 replace hp1c0_:=hs _ _ _ _ hp1c0_
 refine plc E (.r 8 1 .nil) (fun a E=>pld ?_)
 replace S:=S.front 1 rfl
 exact J75 _ (by omega) _ A63 c64 t60 F62 _ _ E .of S g0_0 hp1c0_ H
 refine wp_exit ?_
 refine hK26 _ _ (pl0 (plc E (.r 0 2 .nil) (fun a E=>pld ?_)))
 replace S:=S.tail
 exact qCM ⟨k21,by omega,_,A14,c15,l16,(w64 (x17+1)),F18,by omega,E,.of,S,g0_0,hp1c0_,H⟩
 refine wp_exit ?_
 refine hK11 _ _ (rr E fun a E=>(wp_ret ?_))
 obtain rfl:=si H
 exact rt1 E ⟨_,rfl,_,_,_,rfl,S⟩
 refine rr E fun a E=>(wp_ret (qCJ ?_))
 replace S:=S.nilrow qB.k 306
 obtain rfl:=si H
 exact rt1 E ⟨_,rfl,_,_,_,rfl,S⟩
def qBs.f(k:Nat)(x:List qA)(y:Int):Option (List qB):=(qR.f k x y).bind fun t8=>(some t8)
def qBs.Post(W F:World)(r:List qB)(v:Value)(w':World):Prop:=∃(F':World)(RA0_0:OA)(rc0_0:Nat),v = .slice RA0_0 r.length rc0_0∧Sm W F w' F' [row qB.k 306 (.slice RA0_0 r.length rc0_0) r]
theorem qBs.calls(k:Nat)(x:List qA)(y:Int)(A0_0:OA)(c0_0:Nat)(r:List qB)(W F:World)(hown:Sub F W)(g0_0:Rd qA.k F A0_0 c0_0 x)(H:qBs.f k x y=some r):
    Cr 299 #[.slice A0_0 x.length c0_0,iv y] W (qBs.Post W F r):=by
 have S:=sT hown
 unfold qBs.f at H
 refine ent 8 rfl rfl rfl (fun a E=>?_)
 refine sq fun K1 hK1=>pl0 (plx (t:=3) E S [iv y] fun b2 u3 hb2 S a E=>plc E (.r 1 1 .nil) (fun a E=>pld (hK1 _ _ (sq fun K4 hK4=>pl0 (plc E (.r 0 2 .nil) (fun a E=>?_))))))
 obtain ⟨F5,hs,g6,S⟩:=S.giveb
 replace g0_0:=g0_0.mono hs
 obtain ⟨t8,h9,H⟩:=bd H
 refine ple E (.cl en317 (qR.calls k x y _ _ _ _ _ _ S.own.sub g0_0 g6 h9)) ?_
 rintro _ u7 a ⟨F10,A11,c12,rfl,hC⟩ E
 have hs:=hC.sub
 replace S:=S.called (X:=[]) hC
 replace g0_0:=g0_0.mono hs
 replace g6:=hs _ _ _ _ g6
 refine plc E (.r 3 1 .nil) (fun a E=>pld (hK4 _ _ (wp_ret ?_)))
 obtain rfl:=si H
 exact rt1 E ⟨_,rfl,_,_,_,rfl,S⟩
def qBQ.f(x:qA)(xf0_:Int)(xf1_:Int):Option Bool:=if xf0_=0 then (if xf1_=0 then (some true) else (some (x.f2 == xf1_))) else (if x.f1=xf0_ then (if xf1_=0 then (some true) else (some (x.f2 == xf1_))) else (some false))
def qBQ.Post(W F:World)(r:Bool)(v:Value)(w':World):Prop:=∃(F':World),v = .bool r∧Sm W F w' F' []
theorem qBQ.calls(x:qA)(xf0_:Int)(xf1_:Int)(pf0_:Nat)(pf1_:Nat)(r:Bool)(W F:World)(hown:Sub F W)(hpf0_:F.heap[pf0_]? = some (.cells #[iv xf0_] 3 (0,0)))(hpf1_:F.heap[pf1_]? = some (.cells #[iv xf1_] 3 (0,0)))(H:qBQ.f x xf0_ xf1_=some r):
    Cr 322 #[.agg #[iv x.f0,iv x.f1,iv x.f2,iv x.f3,.bool x.f4,.bool x.f5],.pointer (pb pf0_),.pointer (pb pf1_)] W (qBQ.Post W F r):=by
 have S:=sT hown
 unfold qBQ.f at H
 refine ent 23 rfl rfl rfl (fun a E=>?_)
 refine sq fun K1 hK1=>pl0 (plx (t:=153) E S [iv x.f0,iv x.f1,iv x.f2,iv x.f3,.bool x.f4,.bool x.f5] fun b2 u3 hb2 S a E=>plc E (.r 1 1 .nil) (fun a E=>pld (hK1 _ _ (sq fun K4 hK4=>pl0 (plc E (.b 0 0 (S.own.sub _ _ _ _ hpf0_)<|.r 1 2<|.nil) (fun a E=>E.fk 7 H (fun c5 E H=>?_) fun c5 E H=>?_))))))
 refine plc E (.r 3 6<|.b 9 0 (S.own.sub _ _ _ _ hpf1_)<|.r 10 2<|.nil) (fun a E=>E.fk 16 H (fun c6 E H=>?_) fun c6 E H=>?_)
 refine plc E (.r 12 7 .nil) (fun a E=>pld (hK4 _ _ (wp_ret ?_)))
 replace S:=S.tail
 obtain rfl:=si H
 exact rt1 E ⟨_,rfl,_,rfl,S⟩
 refine plc E (.r 12 1<|.b 13 2 hb2<|.b 14 0 (S.own.sub _ _ _ _ hpf1_)<|.r 15 4<|.nil) (fun a E=>pld (hK4 _ _ (wp_ret ?_)))
 replace S:=S.tail
 obtain rfl:=si H
 exact rt1 E ⟨_,rfl,_,rfl,S⟩
 refine plc E (.r 3 1<|.b 4 1 hb2<|.b 5 0 (S.own.sub _ _ _ _ hpf0_)<|.r 6 3<|.nil) (fun a E=>E.fk 13 H (fun c7 E H=>?_) fun c7 E H=>?_)
 refine plc E (.b 9 0 (S.own.sub _ _ _ _ hpf1_)<|.r 10 2<|.nil) (fun a E=>E.fk 16 H (fun c8 E H=>?_) fun c8 E H=>?_)
 refine plc E (.r 12 7 .nil) (fun a E=>pld (hK4 _ _ (wp_ret ?_)))
 replace S:=S.tail
 obtain rfl:=si H
 exact rt1 E ⟨_,rfl,_,rfl,S⟩
 refine plc E (.r 12 1<|.b 13 2 hb2<|.b 14 0 (S.own.sub _ _ _ _ hpf1_)<|.r 15 4<|.nil) (fun a E=>pld (hK4 _ _ (wp_ret ?_)))
 replace S:=S.tail
 obtain rfl:=si H
 exact rt1 E ⟨_,rfl,_,rfl,S⟩
 refine plc E (.r 9 10 .nil) (fun a E=>pld (hK4 _ _ (wp_ret ?_)))
 replace S:=S.tail
 obtain rfl:=si H
 exact rt1 E ⟨_,rfl,_,rfl,S⟩
def qBR.f(x:qA):Option Int:=some x.f0
def qBR.Post(W F:World)(r:Int)(v:Value)(w':World):Prop:=∃(F':World),v=iv r∧Sm W F w' F' []
theorem qBR.calls(x:qA)(r:Int)(W F:World)(hown:Sub F W)(H:qBR.f x=some r):
    Cr 323 #[.agg #[iv x.f0,iv x.f1,iv x.f2,iv x.f3,.bool x.f4,.bool x.f5]] W (qBR.Post W F r):=by
 have S:=sT hown
 unfold qBR.f at H
 refine ent 5 rfl rfl rfl (fun a E=>?_)
 refine sq fun K1 hK1=>pl0 (plx (t:=153) E S [iv x.f0,iv x.f1,iv x.f2,iv x.f3,.bool x.f4,.bool x.f5] fun b2 u3 hb2 S a E=>plc E (.r 1 1 .nil) (fun a E=>pld (hK1 _ _ (rg E (.r 0 1<|.b 1 0 hb2<|.r 2 1<|.nil) fun a E=>(wp_ret ?_)))))
 replace S:=S.tail
 obtain rfl:=si H
 exact rt1 E ⟨_,rfl,_,rfl,S⟩
mutual
def qP.l19:Nat→List qA→Int→Int→List qB→Int→Option (List qB)
 | 0,_,_,_,_,_=>none
 | k+1,x,x1c0_,x1c1_,l16,x17=>if x17<(x.length:Int) then (if 0≤x17∧x17<(x.length:Int) then ((qBQ.f (nth qA.z x x17) x1c0_ x1c1_).bind fun t39=>(if t39=true then ((qBR.f (nth qA.z x x17)).bind fun t44=>((qG.f k l16 t44).bind fun t47=>(if t47.2=true then (qP.j72 k x x1c0_ x1c1_ x17 t47 l16) else ((qBR.f (nth qA.z x x17)).bind fun t53=>((qq.f l16 t47.1 [(⟨t53,0⟩:qB)]).bind fun t60=>(qP.j72 k x x1c0_ x1c1_ x17 t47 t60)))))) else (qP.l19 k x x1c0_ x1c1_ l16 (w64 (x17+1))))) else (none)) else (some l16)
def qP.j72:Nat→List qA→Int→Int→Int→Int × Bool→List qB→Option (List qB)
 | 0,_,_,_,_,_,_=>none
 | k+1,x,x1c0_,x1c1_,x17,t47,l70=>if ((nth qA.z x x17).f5)=true then (if 0≤t47.1∧t47.1<(l70.length:Int) then (qP.l19 k x x1c0_ x1c1_ (l70.set (t47.1).toNat (⟨(nth qB.z l70 t47.1).f0,(if (w64 ((nth qB.z l70 t47.1).f1+(nth qA.z x x17).f3))<65536 then (w64 ((nth qB.z l70 t47.1).f1+(nth qA.z x x17).f3)) else 65536)⟩:qB)) (w64 (x17+1))) else (none)) else (qP.l19 k x x1c0_ x1c1_ l70 (w64 (x17+1)))
end
theorem qP.l19_s k x x1c0_ x1c1_ l16 x17:type_of% (qP.l19.eq_2 x x1c0_ x1c1_ l16 x17 k):=qP.l19.eq_2 x x1c0_ x1c1_ l16 x17 k
theorem qP.j72_s k x x1c0_ x1c1_ x17 t47 l70:type_of% (qP.j72.eq_2 x x1c0_ x1c1_ x17 t47 l70 k):=qP.j72.eq_2 x x1c0_ x1c1_ x17 t47 l70 k
def qP.f(k:Nat)(x:List qA)(x1c0_:Int)(x1c1_:Int):Option (List qB):=(qAI.f k x).bind fun t6=>(if t6=0 then (qP.l19 k x x1c0_ x1c1_ [] 0) else (some []))
def qP.Post(W F:World)(r:List qB)(v:Value)(w':World):Prop:=∃(F':World)(RA0_0:OA)(rc0_0:Nat),v = .slice RA0_0 r.length rc0_0∧Sm W F w' F' [row qB.k 306 (.slice RA0_0 r.length rc0_0) r]
theorem qP.calls(k:Nat)(x:List qA)(x1c0_:Int)(x1c1_:Int)(A0_0:OA)(c0_0:Nat)(p1c0_:Nat)(p1c1_:Nat)(r:List qB)(W F:World)(hown:Sub F W)(g0_0:Rd qA.k F A0_0 c0_0 x)(hp1c0_:F.heap[p1c0_]? = some (.cells #[iv x1c0_] 3 (0,0)))(hp1c1_:F.heap[p1c1_]? = some (.cells #[iv x1c1_] 3 (0,0)))(H:qP.f k x x1c0_ x1c1_=some r):
    Cr 317 #[.slice A0_0 x.length c0_0,.func (.func 322) #[] #[.pointer (pb p1c0_),.pointer (pb p1c1_)],.func (.func 323) #[] #[]] W (qP.Post W F r):=by
 have S:=sT hown
 unfold qP.f at H
 refine ent 60 rfl rfl rfl (fun a E=>?_)
 refine rr E fun a E=>(rr E fun a E=>(sq fun K3 hK3=>sq fun K4 hK4=>pl0 (plc E (.r 0 1 .nil) (fun a E=>?_))))
 obtain ⟨t6,h7,H⟩:=bd H
 refine plq E S en95 (qAI.calls k x _ _ _ _ _ S.own.sub g0_0 h7) fun u5 S a E=>plc E (.r 2 1 .nil) (fun a E=>pld (hK4 _ _ (E.ikn 14 H (fun c8 E H=>?_) fun c8 E H=>?_)))
 refine wp_skip (hK3 _ _ (sq fun K11 hK11=>rr E fun a E=>(wp_block ?_)))
 replace S:=S.nilrow qB.k 306
 refine wp_loop_ghost (fun kq20 a w'=>∃(G:NV)(A14:OA)(c15:Nat)(l16:List qB)(x17:Int)(F18:World),kq20≤k∧Env 60 G a∧At G [(1,.func (.func 322) #[] #[.pointer (pb p1c0_),.pointer (pb p1c1_)]),(2,.func (.func 323) #[] #[]),(7,.slice A14 l16.length c15),(15,.slice A0_0 x.length c0_0),(16,iv (x.length:Int)),(17,iv x17)]∧Sm W F w' F18 [row qB.k 306 (.slice A14 l16.length c15) l16]∧Rd qA.k F18 A0_0 c0_0 x∧F18.heap[p1c0_]? = some (.cells #[iv x1c0_] 3 (0,0))∧F18.heap[p1c1_]? = some (.cells #[iv x1c1_] 3 (0,0))∧qP.l19 kq20 x x1c0_ x1c1_ l16 x17=some r) k ⟨_,none,0,[],0,F,Nat.le_refl _,E,.of,S,g0_0,hp1c0_,hp1c1_,H⟩ ?_
 rintro kq20 a u22 ⟨G,A14,c15,l16,x17,F18,hkq,E,A,S,g0_0,hp1c0_,hp1c1_,H⟩
 obtain _ | k21:=kq20
 exact zz H
 rw [qP.l19_s]at H
 obtain ⟨J,E⟩:=E.at A
 refine rr E fun a E=>(sq fun K24 hK24=>E.ik 18 H (fun c25 E H=>?_) fun c25 E H=>?_)
 refine wp_skip (hK24 _ _ (sq fun K26 hK26=>wp_block (sq fun K27 hK27=>pl0 ?_)))
 obtain ⟨c28,H⟩:=gd H
 have hE_:=E
 obtain ⟨ad29,rfl⟩:=g0_0.addr c28.1 c28.2
 replace E:=hE_
 obtain ⟨cs31,rfl,hc32⟩:=g0_0.el qA.z x17 c28.1 c28.2
 refine plc E (.x 0 c28<|.cs 1 (S.fcs hc32)<|.nil) (fun a E=>pla (t:=153) E S [iv 0,iv 0,iv 0,iv 0,.bool false,.bool false] fun b33 u34 hb33 S a E=>pls E S [iv ((nth qA.z x x17).f0),iv ((nth qA.z x x17).f1),iv ((nth qA.z x x17).f2),iv ((nth qA.z x x17).f3),.bool ((nth qA.z x x17).f4),.bool ((nth qA.z x x17).f5)] fun u35 hb33 S a E=>pld (hK27 _ _ (sq fun K36 hK36=>sq fun K37 hK37=>pl0 (plc E (.r 0 1<|.bn 1 0 6 hb33<|.nil) (fun a E=>?_)))))
 obtain ⟨t39,h40,H⟩:=bd H
 refine plq E S en322 (qBQ.calls (nth qA.z x x17) x1c0_ x1c1_ _ _ _ _ _ S.own.sub hp1c0_ hp1c1_ h40) fun u38 S a E=>plc E (.r 3 1 .nil) (fun a E=>pld (hK37 _ _ (E.ibn 24 H (fun c41 E H=>?_) fun c41 E H=>?_)))
 refine wp_skip (hK36 _ _ (sq fun K42 hK42=>pl0 ?_))
 have hb33:=S.ba 0
 refine plc E (.r 0 2<|.bn 2 0 6 hb33<|.nil) (fun a E=>?_)
 obtain ⟨t44,h45,H⟩:=bd H
 refine plq E S en323 (qBR.calls (nth qA.z x x17) _ _ _ S.own.sub h45) fun u43 S a E=>?_
 obtain ⟨t47,h48,H⟩:=bd H
 refine plq E S en336 (qG.calls k21 l16 t44 _ _ _ _ _ (Sub.refl _) (S.rd_at (i:=1) rfl) h48) fun u46 S a E=>plc E (.r 5 5 .nil) (fun a E=>pld (hK42 _ _ (sq fun K49 hK49=>?_)))
 have J75:∀ kq73,kq73≤k21→∀(G:NV)(A68:OA)(c69:Nat)(l70:List qB)(F71:World)(a:Act)(w':World),Env 60 G a→At G [(1,.func (.func 322) #[] #[.pointer (pb p1c0_),.pointer (pb p1c1_)]),(2,.func (.func 323) #[] #[]),(7,.slice A68 l70.length c69),(9,.pointer (pb b33)),(10,iv t47.1),(15,.slice (some ad29) x.length c0_0),(16,iv (x.length:Int)),(17,iv x17)]→Sm W F w' F71 [box b33 #[iv ((nth qA.z x x17).f0),iv ((nth qA.z x x17).f1),iv ((nth qA.z x x17).f2),iv ((nth qA.z x x17).f3),.bool ((nth qA.z x x17).f4),.bool ((nth qA.z x x17).f5)] 153,row qB.k 306 (.slice A68 l70.length c69) l70]→Rd qA.k F71 (some ad29) c0_0 x→F71.heap[p1c0_]? = some (.cells #[iv x1c0_] 3 (0,0))→F71.heap[p1c1_]? = some (.cells #[iv x1c1_] 3 (0,0))→qP.j72 kq73 x x1c0_ x1c1_ x17 t47 l70=some r→K49 a w':=by
  intro kq73 hkq G A68 c69 l70 F71 a u76 E A S g0_0 hp1c0_ hp1c1_ H
  obtain _ | k74:=kq73
  exact zz H
  rw [qP.j72_s]at H
  obtain ⟨J,E⟩:=E.at A
  refine hK49 _ _ (sq fun K77 hK77=>pl0 ?_)
  have hb33:=S.ba 0
  refine plc E (.r 0 1<|.b 1 5 hb33<|.nil) (fun a E=>pld (hK77 _ _ (E.ib 44 H (fun c78 E H=>?_) fun c78 E H=>?_)))
  refine drawn 14 ⟨[13],[],fun q=>False⟩ mixed rfl (by kernel_rfl) (fun hst=>?_)
  replace S:=S.drew
  obtain ⟨c79,H⟩:=gd H
  have hr80:=S.ra 1
  have hE_:=E
  obtain ⟨b81,rfl⟩:=qCP hr80 c79.1 c79.2
  replace E:=hE_
  have hr_:=S.ra 1
  obtain ⟨cs83,rfl,hc84⟩:=qCO hr_ qB.z t47.1 c79.1 c79.2
  have hb33:=S.ba 0
  have hr85:=S.ra 1
  refine mny 1 hst E (.r 0 4<|.x 4 c79<|.r 5 1<|.c 6 (hc84 1 _ rfl)<|.r 7 1<|.b 8 3 hb33<|.r 9 2<|.x 11 c79<|.r 12 1<|.nil) (fun a E=>?_)
  replace S:=S.front 1 rfl
  obtain ⟨cs90,rfl,hc91⟩:=qCO (S.row_at (i:=0) rfl) qB.z t47.1 c79.1 c79.2
  refine on1 13 E (.set (d:=qB.k) (n:=l70.length) (i:=t47.1) (⟨(nth qB.z l70 t47.1).f0,(if (w64 ((nth qB.z l70 t47.1).f1+(nth qA.z x x17).f3))<65536 then (w64 ((nth qB.z l70 t47.1).f1+(nth qA.z x x17).f3)) else 65536)⟩:qB) 1 (ea1 _ _ _) S c79 [iv ((nth qB.z l70 t47.1).f0),iv ((nth qB.z l70 t47.1).f1)] hc91 [iv ((nth qB.z l70 t47.1).f0),iv (if (w64 ((nth qB.z l70 t47.1).f1+(nth qA.z x x17).f3))<65536 then (w64 ((nth qB.z l70 t47.1).f1+(nth qA.z x x17).f3)) else 65536)] rfl) ?_
  rintro _ u89 a ⟨rfl,S,hz⟩ E
  refine ⟨.d,?_⟩
  refine dn ?_
  refine qCL ?_
  refine hK26 _ _ (pl0 (plc E (.r 0 2 .nil) (fun a E=>pld ?_)))
  have hn92:=(qCN (S.row_at (i:=0) rfl)).1
  replace E:=E.set (d:=7) (v:=.slice (pb b81) ((l70.set (t47.1).toNat (⟨(nth qB.z l70 t47.1).f0,(if (w64 ((nth qB.z l70 t47.1).f1+(nth qA.z x x17).f3))<65536 then (w64 ((nth qB.z l70 t47.1).f1+(nth qA.z x x17).f3)) else 65536)⟩:qB)).length) c69) (Eq.trans (b:=.slice (pb b81) l70.length c69) (by kernel_rfl) (by rw [← hn92]))
  replace S:Sm W F u89 F71 [row qB.k 306 (.slice (pb b81) ((l70.set (t47.1).toNat (⟨(nth qB.z l70 t47.1).f0,(if (w64 ((nth qB.z l70 t47.1).f1+(nth qA.z x x17).f3))<65536 then (w64 ((nth qB.z l70 t47.1).f1+(nth qA.z x x17).f3)) else 65536)⟩:qB)).length) c69) (l70.set (t47.1).toNat (⟨(nth qB.z l70 t47.1).f0,(if (w64 ((nth qB.z l70 t47.1).f1+(nth qA.z x x17).f3))<65536 then (w64 ((nth qB.z l70 t47.1).f1+(nth qA.z x x17).f3)) else 65536)⟩:qB)),box b33 #[iv ((nth qA.z x x17).f0),iv ((nth qA.z x x17).f1),iv ((nth qA.z x x17).f2),iv ((nth qA.z x x17).f3),.bool ((nth qA.z x x17).f4),.bool ((nth qA.z x x17).f5)] 153]:=by rw [← hn92]; exact S
  replace S:=S.pm [0] 2
  exact qCM ⟨k74,by omega,_,(pb b81),c69,(l70.set (t47.1).toNat (⟨(nth qB.z l70 t47.1).f0,(if (w64 ((nth qB.z l70 t47.1).f1+(nth qA.z x x17).f3))<65536 then (w64 ((nth qB.z l70 t47.1).f1+(nth qA.z x x17).f3)) else 65536)⟩:qB)),(w64 (x17+1)),F71,by omega,E,.of,S,g0_0,hp1c0_,hp1c1_,H⟩
  refine wp_skip ?_
  refine qCL ?_
  refine hK26 _ _ (pl0 (plc E (.r 0 2 .nil) (fun a E=>pld ?_)))
  replace S:=S.tail
  exact qCM ⟨k74,by omega,_,A68,c69,l70,(w64 (x17+1)),F71,by omega,E,.of,S,g0_0,hp1c0_,hp1c1_,H⟩
 refine rr E fun a E=>(E.ibn 34 H (fun c51 E H=>?_) fun c51 E H=>?_)
 refine wp_skip ?_
 exact J75 _ (by omega) _ A14 c15 l16 F18 _ _ E .of S g0_0 hp1c0_ hp1c1_ H
 refine pl0 (plc E (.r 0 3<|.bn 3 0 6 (S.ba 0)<|.nil) (fun a E=>?_))
 obtain ⟨t53,h54,H⟩:=bd H
 refine plq E S en323 (qBR.calls (nth qA.z x x17) _ _ _ S.own.sub h54) fun u52 S a E=>plc E (.r 5 1 .nil) (fun a E=>ple E (.lit (d:=qB.k) (e:=306) S [(⟨t53,0⟩:qB)] (.cons rfl .nil)) ?_)
 rintro _ u55 a ⟨A56,c57,rfl,S,hg⟩ E
 replace S:=S.front 2 rfl
 obtain ⟨t60,h61,H⟩:=bd H
 refine ple E (.cl en338 (qq.calls l16 t47.1 [(⟨t53,0⟩:qB)] _ _ _ _ _ _ _ (Own.left (X:=[row qB.k 306 (.slice A14 l16.length c15) l16,row qB.k 306 (.slice A56 ([(⟨t53,0⟩:qB)].length) c57) [(⟨t53,0⟩:qB)]]) S.own) h61)) ?_
 rintro _ u59 a ⟨F62,A63,c64,rfl,hC⟩ E
 have hs:=hC.sub
 replace S:=S.called (X:=[row qB.k 306 (.slice A14 l16.length c15) l16,row qB.k 306 (.slice A56 ([(⟨t53,0⟩:qB)].length) c57) [(⟨t53,0⟩:qB)]]) hC
 replace g0_0:=g0_0.mono hs
 replace hp1c0_:=hs _ _ _ _ hp1c0_
 replace hp1c1_:=hs _ _ _ _ hp1c1_
 refine plc E (.r 8 1 .nil) (fun a E=>pld ?_)
 replace S:=S.front 1 rfl
 exact J75 _ (by omega) _ A63 c64 t60 F62 _ _ E .of S g0_0 hp1c0_ hp1c1_ H
 refine wp_exit ?_
 refine hK26 _ _ (pl0 (plc E (.r 0 2 .nil) (fun a E=>pld ?_)))
 replace S:=S.tail
 exact qCM ⟨k21,by omega,_,A14,c15,l16,(w64 (x17+1)),F18,by omega,E,.of,S,g0_0,hp1c0_,hp1c1_,H⟩
 refine wp_exit ?_
 refine hK11 _ _ (rr E fun a E=>(wp_ret ?_))
 obtain rfl:=si H
 exact rt1 E ⟨_,rfl,_,_,_,rfl,S⟩
 refine rr E fun a E=>(wp_ret (qCJ ?_))
 replace S:=S.nilrow qB.k 306
 obtain rfl:=si H
 exact rt1 E ⟨_,rfl,_,_,_,rfl,S⟩
def qBk.f(k:Nat)(x:List qA)(y:Int)(z:Int):Option (List qB):=(qP.f k x y z).bind fun t12=>(some t12)
def qBk.Post(W F:World)(r:List qB)(v:Value)(w':World):Prop:=∃(F':World)(RA0_0:OA)(rc0_0:Nat),v = .slice RA0_0 r.length rc0_0∧Sm W F w' F' [row qB.k 306 (.slice RA0_0 r.length rc0_0) r]
theorem qBk.calls(k:Nat)(x:List qA)(y:Int)(z:Int)(A0_0:OA)(c0_0:Nat)(r:List qB)(W F:World)(hown:Sub F W)(g0_0:Rd qA.k F A0_0 c0_0 x)(H:qBk.f k x y z=some r):
    Cr 300 #[.slice A0_0 x.length c0_0,iv y,iv z] W (qBk.Post W F r):=by
 have S:=sT hown
 unfold qBk.f at H
 refine ent 10 rfl rfl rfl (fun a E=>?_)
 refine sq fun K1 hK1=>pl0 (plx (t:=3) E S [iv y] fun b2 u3 hb2 S a E=>plx (t:=3) E S [iv z] fun b4 u5 hb4 S a E=>plc E (.r 2 1 .nil) (fun a E=>pld (hK1 _ _ (sq fun K6 hK6=>pl0 (plc E (.r 0 2 .nil) (fun a E=>?_))))))
 replace S:=S.front 1 rfl
 obtain ⟨F7,hs,g8,S⟩:=S.giveb
 replace g0_0:=g0_0.mono hs
 obtain ⟨F9,hs,g10,S⟩:=S.giveb
 replace g0_0:=g0_0.mono hs
 replace g8:=hs _ _ _ _ g8
 obtain ⟨t12,h13,H⟩:=bd H
 refine ple E (.cl en317 (qP.calls k x y z _ _ _ _ _ _ _ S.own.sub g0_0 g8 g10 h13)) ?_
 rintro _ u11 a ⟨F14,A15,c16,rfl,hC⟩ E
 have hs:=hC.sub
 replace S:=S.called (X:=[]) hC
 replace g0_0:=g0_0.mono hs
 replace g8:=hs _ _ _ _ g8
 replace g10:=hs _ _ _ _ g10
 refine plc E (.r 3 1 .nil) (fun a E=>pld (hK6 _ _ (wp_ret ?_)))
 obtain rfl:=si H
 exact rt1 E ⟨_,rfl,_,_,_,rfl,S⟩
def qBb.l6:Nat→Int→Int→Option Int
 | 0,_,_=>none
 | k+1,x4,x5=>if x5<2 then (qBb.l6 k (IntKind.u64.wrap ((IntKind.u64.wrap (((BitVec.ofInt 64 x4 ^^^ BitVec.ofInt 64 (x4.fdiv 4294967296)).toNat:Int))) * 15485907386658061715)) (w64 (x5+1))) else (some (IntKind.u64.wrap (((BitVec.ofInt 64 x4 ^^^ BitVec.ofInt 64 (x4.fdiv 4294967296)).toNat:Int))))
theorem qBb.l6_s k x4 x5:type_of% (qBb.l6.eq_2 x4 x5 k):=qBb.l6.eq_2 x4 x5 k
def qBb.f(k:Nat)(x:Int):Option Int:=qBb.l6 k x 0
def qBb.Post(W F:World)(r:Int)(v:Value)(w':World):Prop:=∃(F':World),v = .int .u64 r∧Sm W F w' F' []
theorem qBb.calls(k:Nat)(x:Int)(r:Int)(W F:World)(hown:Sub F W)(H:qBb.f k x=some r):
    Cr 165 #[.int .u64 x] W (qBb.Post W F r):=by
 have S:=sT hown
 unfold qBb.f at H
 refine ent 16 rfl rfl rfl (fun a E=>?_)
 refine rr E fun a E=>(sq fun K2 hK2=>rr E fun a E=>(wp_block ?_))
 refine wp_loop_ghost (fun kq7 a w'=>∃(G:NV)(x4:Int)(x5:Int),kq7≤k∧Env 16 G a∧At G [(0,.int .u64 x4),(3,iv x5)]∧Sm W F w' F []∧qBb.l6 kq7 x4 x5=some r) k ⟨_,x,0,Nat.le_refl _,E,.of,S,H⟩ ?_
 rintro kq7 a u9 ⟨G,x4,x5,hkq,E,A,S,H⟩
 obtain _ | k8:=kq7
 exact zz H
 rw [qBb.l6_s]at H
 obtain ⟨J,E⟩:=E.at A
 refine rr E fun a E=>(sq fun K11 hK11=>E.ik 4 H (fun c12 E H=>?_) fun c12 E H=>?_)
 refine wp_skip (hK11 _ _ (sq fun K13 hK13=>wp_block (rr E fun a E=>(pl0 (plc E (.r 0 3 .nil) (fun a E=>pld ?_))))))
 refine qCL ?_
 refine hK13 _ _ (pl0 (plc E (.r 0 2 .nil) (fun a E=>pld ?_)))
 exact qCM ⟨k8,by omega,_,(IntKind.u64.wrap ((IntKind.u64.wrap (((BitVec.ofInt 64 x4 ^^^ BitVec.ofInt 64 (x4.fdiv 4294967296)).toNat:Int))) * 15485907386658061715)),(w64 (x5+1)),by omega,E,.of,S,H⟩
 refine wp_exit ?_
 refine hK2 _ _ (rr E fun a E=>(wp_ret ?_))
 obtain rfl:=si H
 exact rt1 E ⟨_,rfl,_,rfl,S⟩
def qBI.l10:Nat→List Int→Int→Int→Option Int
 | 0,_,_,_=>none
 | k+1,y,x8,x9=>if x9<(y.length:Int) then (if 0≤x9∧x9<(y.length:Int) then ((qBb.f k (IntKind.u64.wrap ((IntKind.u64.wrap (((BitVec.ofInt 64 x8 ^^^ BitVec.ofInt 64 (nth 0 y x9)).toNat:Int)))+11400714819323198485))).bind fun t25=>(qBI.l10 k y t25 (w64 (x9+1)))) else (none)) else (some x8)
theorem qBI.l10_s k y x8 x9:type_of% (qBI.l10.eq_2 y x8 x9 k):=qBI.l10.eq_2 y x8 x9 k
def qBI.f(k:Nat)(x:Int)(y:List Int):Option Int:=(qBb.f k x).bind fun t4=>(qBI.l10 k y t4 0)
def qBI.Post(W F:World)(r:Int)(v:Value)(w':World):Prop:=∃(F':World),v = .int .u64 r∧Sm W F w' F' []
theorem qBI.calls(k:Nat)(x:Int)(y:List Int)(A1_0:OA)(c1_0:Nat)(r:Int)(W F:World)(hown:Sub F W)(g1_0:Rd (Kn.int .u64) F A1_0 c1_0 y)(H:qBI.f k x y=some r):
    Cr 121 #[.int .u64 x,.slice A1_0 y.length c1_0] W (qBI.Post W F r):=by
 have S:=sT hown
 unfold qBI.f at H
 refine ent 23 rfl rfl rfl (fun a E=>?_)
 refine rr E fun a E=>(sq fun K2 hK2=>pl0 (plc E (.r 0 1 .nil) (fun a E=>?_)))
 obtain ⟨t4,h5,H⟩:=bd H
 refine plq E S en165 (qBb.calls k x _ _ _ S.own.sub h5) fun u3 S a E=>plc E (.r 2 1 .nil) (fun a E=>pld (hK2 _ _ (sq fun K6 hK6=>rr E fun a E=>(wp_block ?_))))
 refine wp_loop_ghost (fun kq11 a w'=>∃(G:NV)(x8:Int)(x9:Int),kq11≤k∧Env 23 G a∧At G [(5,.int .u64 x8),(10,.slice A1_0 y.length c1_0),(11,iv (y.length:Int)),(12,iv x9)]∧Sm W F w' F []∧qBI.l10 kq11 y x8 x9=some r) k ⟨_,t4,0,Nat.le_refl _,E,.of,S,H⟩ ?_
 rintro kq11 a u13 ⟨G,x8,x9,hkq,E,A,S,H⟩
 obtain _ | k12:=kq11
 exact zz H
 rw [qBI.l10_s]at H
 obtain ⟨J,E⟩:=E.at A
 refine rr E fun a E=>(sq fun K15 hK15=>E.ik 13 H (fun c16 E H=>?_) fun c16 E H=>?_)
 refine wp_skip (hK15 _ _ (sq fun K17 hK17=>wp_block (sq fun K18 hK18=>pl0 ?_)))
 obtain ⟨c19,H⟩:=gd H
 have hE_:=E
 obtain ⟨ad20,rfl⟩:=g1_0.addr c19.1 c19.2
 replace E:=hE_
 obtain ⟨cs22,rfl,hc23⟩:=g1_0.el 0 x9 c19.1 c19.2
 refine plc E (.x 0 c19<|.c 1 (S.fc hc23 0)<|.r 2 1<|.nil) (fun a E=>pld (hK18 _ _ (pl0 (plc E (.r 0 4 .nil) (fun a E=>?_)))))
 obtain ⟨t25,h26,H⟩:=bd H
 refine plq E S en165 (qBb.calls k12 (IntKind.u64.wrap ((IntKind.u64.wrap (((BitVec.ofInt 64 x8 ^^^ BitVec.ofInt 64 (nth 0 y x9)).toNat:Int)))+11400714819323198485)) _ _ _ S.own.sub h26) fun u24 S a E=>plc E (.r 5 1 .nil) (fun a E=>pld ?_)
 refine qCL ?_
 refine hK17 _ _ (pl0 (plc E (.r 0 2 .nil) (fun a E=>pld ?_)))
 exact qCM ⟨k12,by omega,_,t25,(w64 (x9+1)),by omega,E,.of,S,H⟩
 refine wp_exit ?_
 refine hK6 _ _ (rr E fun a E=>(wp_ret ?_))
 obtain rfl:=si H
 exact rt1 E ⟨_,rfl,_,rfl,S⟩
mutual
def qAg.l9:Nat→List qB→Int→Option Int
 | 0,_,_=>none
 | k+1,x,x8=>if x8<(x.length:Int) then (if 0≤x8∧x8<(x.length:Int) then (if (nth qB.z x x8).f0<0 then (qAg.j37 k x x8 true) else (if (nth qB.z x x8).f0>2147483647 then (qAg.j37 k x x8 true) else (if (nth qB.z x x8).f1<0 then (qAg.j37 k x x8 true) else (if (nth qB.z x x8).f1>65536 then (qAg.j37 k x x8 true) else (if x8>0 then (if 0≤(w64 (x8 - 1))∧(w64 (x8 - 1))<(x.length:Int) then (qAg.j37 k x x8 (decide ((nth qB.z x x8).f0≤(nth qB.z x (w64 (x8 - 1))).f0))) else (none)) else (qAg.j37 k x x8 false)))))) else (none)) else (some 0)
def qAg.j37:Nat→List qB→Int→Bool→Option Int
 | 0,_,_,_=>none
 | k+1,x,x8,y36=>if y36=true then (some 1) else (qAg.l9 k x (w64 (x8+1)))
end
theorem qAg.l9_s k x x8:type_of% (qAg.l9.eq_2 x x8 k):=qAg.l9.eq_2 x x8 k
theorem qAg.j37_s k x x8 y36:type_of% (qAg.j37.eq_2 x x8 y36 k):=qAg.j37.eq_2 x x8 y36 k
def qAg.f(k:Nat)(x:List qB):Option Int:=if (x.length:Int)>64 then (some 1) else (qAg.l9 k x 0)
def qAg.Post(W F:World)(r:Int)(v:Value)(w':World):Prop:=∃(F':World),v=iv r∧Sm W F w' F' []
theorem qAg.calls(k:Nat)(x:List qB)(A0_0:OA)(c0_0:Nat)(r:Int)(W F:World)(hown:Sub F W)(g0_0:Rd qB.k F A0_0 c0_0 x)(H:qAg.f k x=some r):
    Cr 324 #[.slice A0_0 x.length c0_0] W (qAg.Post W F r):=by
 have S:=sT hown
 unfold qAg.f at H
 refine ent 49 rfl rfl rfl (fun a E=>?_)
 refine rr E fun a E=>(sq fun K2 hK2=>rr E fun a E=>(E.ik 7 H (fun c4 E H=>?_) fun c4 E H=>?_))
 refine rr E fun a E=>(wp_ret (qCJ ?_))
 obtain rfl:=si H
 exact rt1 E ⟨_,rfl,_,rfl,S⟩
 refine wp_skip (hK2 _ _ (sq fun K6 hK6=>rr E fun a E=>(wp_block ?_)))
 refine wp_loop_ghost (fun kq10 a w'=>∃(G:NV)(x8:Int),kq10≤k∧Env 49 G a∧At G [(0,.slice A0_0 x.length c0_0),(8,.slice A0_0 x.length c0_0),(9,iv (x.length:Int)),(10,iv x8)]∧Sm W F w' F []∧qAg.l9 kq10 x x8=some r) k ⟨_,0,Nat.le_refl _,E,.of,S,H⟩ ?_
 rintro kq10 a u12 ⟨G,x8,hkq,E,A,S,H⟩
 obtain _ | k11:=kq10
 exact zz H
 rw [qAg.l9_s]at H
 obtain ⟨J,E⟩:=E.at A
 refine rr E fun a E=>(sq fun K14 hK14=>E.ik 11 H (fun c15 E H=>?_) fun c15 E H=>?_)
 refine wp_skip (hK14 _ _ (sq fun K16 hK16=>wp_block (sq fun K17 hK17=>pl0 ?_)))
 obtain ⟨c18,H⟩:=gd H
 have hE_:=E
 obtain ⟨ad19,rfl⟩:=g0_0.addr c18.1 c18.2
 replace E:=hE_
 obtain ⟨cs21,rfl,hc22⟩:=g0_0.el qB.z x8 c18.1 c18.2
 refine plc E (.r 0 1<|.x 1 c18<|.cs 2 (S.fcs hc22)<|.nil) (fun a E=>pla (t:=306) E S [iv 0,iv 0] fun b23 u24 hb23 S a E=>plc E (.r 4 1 .nil) (fun a E=>pls E S [iv ((nth qB.z x x8).f0),iv ((nth qB.z x x8).f1)] fun u25 hb23 S a E=>pld (hK17 _ _ (sq fun K26 hK26=>?_))))
 have J40:∀ kq38,kq38≤k11→∀(G:NV)(y36:Bool)(a:Act)(w':World),Env 49 G a→At G [(0,.slice (some ad19) x.length c0_0),(8,.slice (some ad19) x.length c0_0),(9,iv (x.length:Int)),(10,iv x8),(47,.bool y36)]→Sm W F w' F [box b23 #[iv ((nth qB.z x x8).f0),iv ((nth qB.z x x8).f1)] 306]→qAg.j37 kq38 x x8 y36=some r→K26 a w':=by
  intro kq38 hkq G y36 a u41 E A S H
  obtain _ | k39:=kq38
  exact zz H
  rw [qAg.j37_s]at H
  obtain ⟨J,E⟩:=E.at A
  refine hK26 _ _ (E.ib 47 H (fun c42 E H=>?_) fun c42 E H=>?_)
  refine rr E fun a E=>(wp_ret (qCK (qCJ (qCJ (qCK (qCJ ?_))))))
  replace S:=S.tail
  obtain rfl:=si H
  exact rt1 E ⟨_,rfl,_,rfl,S⟩
  refine wp_skip ?_
  refine qCL ?_
  refine hK16 _ _ (pl0 (plc E (.r 0 2 .nil) (fun a E=>pld ?_)))
  replace S:=S.tail
  exact qCM ⟨k39,by omega,_,(w64 (x8+1)),by omega,E,.of,S,H⟩
 refine drawn 33 ⟨[],[],fun q=>False⟩ mixed rfl (by kernel_rfl) (fun hst=>?_)
 replace S:=S.drew
 have hb23:=S.ba 0
 refine mny 29 hst E (.r 0 1<|.b 1 0 hb23<|.r 2 2<|.nil) (fun a E=>?_)
 refine E.fk 18 H (fun c27 E H=>?_) fun c27 E H=>?_
 refine mny 0 hst E (.r 4 29 .nil) (fun a E=>?_)
 refine dn ?_
 exact J40 _ (by omega) _ true _ _ E .of S H
 refine mny 24 hst E (.r 4 1<|.b 5 0 hb23<|.r 6 3<|.nil) (fun a E=>?_)
 refine E.fk 23 H (fun c28 E H=>?_) fun c28 E H=>?_
 refine mny 0 hst E (.r 9 24 .nil) (fun a E=>?_)
 refine dn ?_
 exact J40 _ (by omega) _ true _ _ E .of S H
 refine mny 19 hst E (.r 9 1<|.b 10 1 hb23<|.r 11 3<|.nil) (fun a E=>?_)
 refine E.fk 28 H (fun c29 E H=>?_) fun c29 E H=>?_
 refine mny 0 hst E (.r 14 19 .nil) (fun a E=>?_)
 refine dn ?_
 exact J40 _ (by omega) _ true _ _ E .of S H
 refine mny 14 hst E (.r 14 1<|.b 15 1 hb23<|.r 16 3<|.nil) (fun a E=>?_)
 refine E.fk 33 H (fun c30 E H=>?_) fun c30 E H=>?_
 refine mny 0 hst E (.r 19 14 .nil) (fun a E=>?_)
 refine dn ?_
 exact J40 _ (by omega) _ true _ _ E .of S H
 refine mny 11 hst E (.r 19 3 .nil) (fun a E=>?_)
 refine E.fk 36 H (fun c31 E H=>?_) fun c31 E H=>?_
 obtain ⟨c32,H⟩:=gd H
 obtain ⟨cs34,rfl,hc35⟩:=g0_0.el qB.z (w64 (x8 - 1)) c32.1 c32.2
 refine mny 0 hst E (.r 22 1<|.b 23 0 hb23<|.r 24 3<|.x 27 c32<|.r 28 1<|.c 29 (S.fc hc35 0)<|.r 30 3<|.nil) (fun a E=>?_)
 refine dn ?_
 exact J40 _ (by omega) _ (decide ((nth qB.z x x8).f0≤(nth qB.z x (w64 (x8 - 1))).f0)) _ _ E .of S H
 refine mny 0 hst E (.r 22 11 .nil) (fun a E=>?_)
 refine dn ?_
 exact J40 _ (by omega) _ false _ _ E .of S H
 refine wp_exit ?_
 refine hK6 _ _ (rr E fun a E=>(wp_ret ?_))
 obtain rfl:=si H
 exact rt1 E ⟨_,rfl,_,rfl,S⟩
def qAV.f(x:List qB):Option (List qB):=if ((([]:List qB).length:Int)+(x.length:Int)) * 16≤140737488355328 then (some (([]:List qB)++x)) else (none)
def qAV.Post(W F:World)(r:List qB)(v:Value)(w':World):Prop:=∃(F':World)(RA0_0:OA)(rc0_0:Nat),v = .slice RA0_0 r.length rc0_0∧Sm W F w' F' [row qB.k 306 (.slice RA0_0 r.length rc0_0) r]
theorem qAV.calls(x:List qB)(A0_0:OA)(c0_0:Nat)(r:List qB)(W F:World)(hown:Sub F W)(g0_0:Rd qB.k F A0_0 c0_0 x)(H:qAV.f x=some r):
    Cr 326 #[.slice A0_0 x.length c0_0] W (qAV.Post W F r):=by
 have S:=sT hown
 unfold qAV.f at H
 refine ent 8 rfl rfl rfl (fun a E=>?_)
 rcases A0_0 with _ | ad1
 have hnil:=g0_0.none_nil
 replace H:(some [])=some r:=by simpa [hnil] using H
 refine rr E fun a E=>(sq fun K3 hK3=>rr E fun a E=>(ct E (rr E fun a E=>(wp_ret (qCJ ?_)))))
 replace S:=S.nilrow qB.k 306
 obtain rfl:=si H
 exact rt1 E ⟨_,rfl,_,_,_,rfl,S⟩
 refine rr E fun a E=>(sq fun K8 hK8=>rr E fun a E=>(cf E (wp_skip (hK8 _ _ (sq fun K10 hK10=>pl0 (ple E (.lit (d:=qB.k) (e:=306) S ([]:List qB) (.nil)) ?_))))))
 rintro _ u11 a ⟨A12,c13,rfl,S,hg⟩ E
 refine plc E (.r 1 1 .nil) (fun a E=>?_)
 obtain ⟨c15,H⟩:=gd H
 refine ple E (.ap (d:=qB.k) 16 S (g0_0.src S.own.sub) c15 c0_0) ?_
 rintro _ u18 a ⟨A16,c17,rfl,S,hz⟩ E
 refine plc E (.r 3 1 .nil) (fun a E=>pld (hK10 _ _ (wp_ret ?_)))
 obtain rfl:=si H
 exact rt1 E ⟨_,rfl,_,_,_,rfl,S⟩
def qBc.f(x:qB):Option Bool:=some (x.f1 == 0)
def qBc.Post(W F:World)(r:Bool)(v:Value)(w':World):Prop:=∃(F':World),v = .bool r∧Sm W F w' F' []
theorem qBc.calls(x:qB)(r:Bool)(W F:World)(hown:Sub F W)(H:qBc.f x=some r):
    Cr 327 #[.agg #[iv x.f0,iv x.f1]] W (qBc.Post W F r):=by
 have S:=sT hown
 unfold qBc.f at H
 refine ent 6 rfl rfl rfl (fun a E=>?_)
 refine sq fun K1 hK1=>pl0 (plx (t:=306) E S [iv x.f0,iv x.f1] fun b2 u3 hb2 S a E=>plc E (.r 1 1 .nil) (fun a E=>pld (hK1 _ _ (rg E (.r 0 1<|.b 1 1 hb2<|.r 2 2<|.nil) fun a E=>(wp_ret ?_)))))
 replace S:=S.tail
 obtain rfl:=si H
 exact rt1 E ⟨_,rfl,_,rfl,S⟩
def qJ.l5:Nat→List qB→Int→Option Int
 | 0,_,_=>none
 | k+1,x,x4=>if x4<(x.length:Int) then (if 0≤x4∧x4<(x.length:Int) then ((qBc.f (nth qB.z x x4)).bind fun t21=>(if t21=true then (some x4) else (qJ.l5 k x (w64 (x4+1))))) else (none)) else (some (-1))
theorem qJ.l5_s k x x4:type_of% (qJ.l5.eq_2 x x4 k):=qJ.l5.eq_2 x x4 k
def qJ.f(k:Nat)(x:List qB):Option Int:=qJ.l5 k x 0
def qJ.Post(W F:World)(r:Int)(v:Value)(w':World):Prop:=∃(F':World),v=iv r∧Sm W F w' F' []
theorem qJ.calls(k:Nat)(x:List qB)(A0_0:OA)(c0_0:Nat)(r:Int)(W F:World)(hown:Sub F W)(g0_0:Rd qB.k F A0_0 c0_0 x)(H:qJ.f k x=some r):
    Cr 339 #[.slice A0_0 x.length c0_0,.func (.func 327) #[] #[]] W (qJ.Post W F r):=by
 have S:=sT hown
 unfold qJ.f at H
 refine ent 19 rfl rfl rfl (fun a E=>?_)
 refine rr E fun a E=>(sq fun K2 hK2=>rr E fun a E=>(wp_block ?_))
 refine wp_loop_ghost (fun kq6 a w'=>∃(G:NV)(x4:Int),kq6≤k∧Env 19 G a∧At G [(0,.slice A0_0 x.length c0_0),(1,.func (.func 327) #[] #[]),(7,iv (x.length:Int)),(8,iv x4)]∧Sm W F w' F []∧qJ.l5 kq6 x x4=some r) k ⟨_,0,Nat.le_refl _,E,.of,S,H⟩ ?_
 rintro kq6 a u8 ⟨G,x4,hkq,E,A,S,H⟩
 obtain _ | k7:=kq6
 exact zz H
 rw [qJ.l5_s]at H
 obtain ⟨J,E⟩:=E.at A
 refine rr E fun a E=>(sq fun K10 hK10=>E.ik 9 H (fun c11 E H=>?_) fun c11 E H=>?_)
 refine wp_skip (hK10 _ _ (sq fun K12 hK12=>wp_block (rr E fun a E=>(sq fun K14 hK14=>pl0 ?_))))
 obtain ⟨c15,H⟩:=gd H
 have hE_:=E
 obtain ⟨ad16,rfl⟩:=g0_0.addr c15.1 c15.2
 replace E:=hE_
 obtain ⟨cs18,rfl,hc19⟩:=g0_0.el qB.z x4 c15.1 c15.2
 refine plc E (.r 0 3<|.x 3 c15<|.cs 4 (S.fcs hc19)<|.nil) (fun a E=>?_)
 obtain ⟨t21,h22,H⟩:=bd H
 refine plq E S en327 (qBc.calls (nth qB.z x x4) _ _ _ S.own.sub h22) fun u20 S a E=>pld (hK14 _ _ (E.ib 16 H (fun c23 E H=>?_) fun c23 E H=>?_))
 refine rr E fun a E=>(wp_ret (qCK (qCJ (qCJ (qCK (qCJ ?_))))))
 obtain rfl:=si H
 exact rt1 E ⟨_,rfl,_,rfl,S⟩
 refine wp_skip ?_
 refine qCL ?_
 refine hK12 _ _ (pl0 (plc E (.r 0 2 .nil) (fun a E=>pld ?_)))
 exact qCM ⟨k7,by omega,_,(w64 (x4+1)),by omega,E,.of,S,H⟩
 refine wp_exit ?_
 refine hK2 _ _ (rr E fun a E=>(wp_ret ?_))
 obtain rfl:=si H
 exact rt1 E ⟨_,rfl,_,rfl,S⟩
def qM.l15:Nat→List qB→List qB→Int→Int→Option (List qB)
 | 0,_,_,_,_=>none
 | k+1,x,l12,x13,x14=>if x14<(x.length:Int) then (if 0≤x14∧x14<(x.length:Int) then ((qBc.f (nth qB.z l12 x14)).bind fun t36=>(if t36=true then (qM.l15 k x l12 x13 (w64 (x14+1))) else (if 0≤x13∧x13<(x.length:Int) then (qM.l15 k x (l12.set (x13).toNat (nth qB.z l12 x14)) (w64 (x13+1)) (w64 (x14+1))) else (none)))) else (none)) else (if 0≤x13∧x13≤(x.length:Int) then (some (cutl (l12.take (x13).toNat++List.replicate (x.length - (x13).toNat) qB.z) 0 x13)) else (none))
theorem qM.l15_s k x l12 x13 x14:type_of% (qM.l15.eq_2 x l12 x13 x14 k):=qM.l15.eq_2 x l12 x13 x14 k
def qM.f(k:Nat)(x:List qB):Option (List qB):=(qJ.f k x).bind fun t4=>(if t4=(-1) then (some x) else (qM.l15 k x x t4 (w64 (t4+1))))
def qM.Post(x:List qB)(A0_0:OA)(c0_0:Nat)(W F:World)(r:List qB)(v:Value)(w':World):Prop:=∃(F':World)(RA0_0:OA)(rc0_0:Nat),v = .slice RA0_0 r.length rc0_0∧St W (mine W [row qB.k 306 (.slice A0_0 x.length c0_0) x]) F w' F' [row qB.k 306 (.slice RA0_0 r.length rc0_0) r]
theorem qM.calls(k:Nat)(x:List qB)(A0_0:OA)(c0_0:Nat)(r:List qB)(W F:World)(hown:Own W F [row qB.k 306 (.slice A0_0 x.length c0_0) x])(H:qM.f k x=some r):
    Cr 325 #[.slice A0_0 x.length c0_0,.func (.func 327) #[] #[]] W (qM.Post x A0_0 c0_0 W F r):=by
 have S:=St.start hown
 obtain ⟨N,hN⟩:∃ N,N=mine W [row qB.k 306 (.slice A0_0 x.length c0_0) x]:=⟨_,rfl⟩
 rw [← hN]at S
 unfold qM.f at H
 refine ent 42 rfl rfl rfl (fun a E=>?_)
 refine rr E fun a E=>(sq fun K2 hK2=>pl0 (plc E (.r 0 2 .nil) (fun a E=>?_)))
 obtain ⟨t4,h5,H⟩:=bd H
 refine plq E S en339 (qJ.calls k x _ _ _ _ _ (Sub.refl _) (S.rd_at (i:=0) rfl) h5) fun u3 S a E=>plc E (.r 3 1 .nil) (fun a E=>pld (hK2 _ _ (sq fun K6 hK6=>rr E fun a E=>(E.ik 12 H (fun c8 E H=>?_) fun c8 E H=>?_))))
 refine rr E fun a E=>(wp_ret (qCJ ?_))
 rw [hN]at S
 obtain rfl:=si H
 exact rt1 E ⟨_,rfl,_,_,_,rfl,S⟩
 refine wp_skip (hK6 _ _ (sq fun K10 hK10=>rr E fun a E=>(wp_block ?_)))
 refine wp_loop_ghost (fun kq16 a w'=>∃(G:NV)(l12:List qB)(x13:Int)(x14:Int),kq16≤k∧Env 42 G a∧At G [(0,.slice A0_0 x.length c0_0),(1,.func (.func 327) #[] #[]),(5,iv x13),(6,iv x14)]∧St W N F w' F [row qB.k 306 (.slice A0_0 x.length c0_0) l12]∧qM.l15 kq16 x l12 x13 x14=some r) k ⟨_,x,t4,(w64 (t4+1)),Nat.le_refl _,E,.of,S,H⟩ ?_
 rintro kq16 a u18 ⟨G,l12,x13,x14,hkq,E,A,S,H⟩
 obtain _ | k17:=kq16
 exact zz H
 rw [qM.l15_s]at H
 obtain ⟨J,E⟩:=E.at A
 refine sq fun K19 hK19=>rr E fun a E=>(E.ik 19 H (fun c21 E H=>?_) fun c21 E H=>?_)
 refine wp_skip (hK19 _ _ (sq fun K22 hK22=>wp_block (sq fun K23 hK23=>pl0 ?_)))
 obtain ⟨c24,H⟩:=gd H
 have hr25:=S.ra 0
 have c26:0≤x14∧x14<(l12.length:Int):=by rw [← (qCN hr25).1]; exact c24
 have hE_:=E
 obtain ⟨b27,rfl⟩:=qCP hr25 c26.1 c26.2
 replace E:=hE_
 have hr_:=S.ra 0
 obtain ⟨cs29,rfl,hc30⟩:=qCO hr_ qB.z x14 c26.1 c26.2
 refine plc E (.r 0 2<|.x 2 c24<|.cs 3 hc30<|.nil) (fun a E=>pla (t:=306) E S [iv 0,iv 0] fun b31 u32 hb31 S a E=>pls E S [iv ((nth qB.z l12 x14).f0),iv ((nth qB.z l12 x14).f1)] fun u33 hb31 S a E=>pld (hK23 _ _ (sq fun K34 hK34=>pl0 (plc E (.r 0 1<|.bn 1 0 2 hb31<|.nil) (fun a E=>?_)))))
 obtain ⟨t36,h37,H⟩:=bd H
 refine plq E S en327 (qBc.calls (nth qB.z l12 x14) _ _ _ S.own.sub h37) fun u35 S a E=>plc E (.r 3 1 .nil) (fun a E=>pld (hK34 _ _ (E.ibn 29 H (fun c38 E H=>?_) fun c38 E H=>?_)))
 refine wp_skip ?_
 refine qCL ?_
 refine hK22 _ _ (pl0 (plc E (.r 0 3 .nil) (fun a E=>pld ?_)))
 replace S:=S.tail
 exact qCM ⟨k17,by omega,_,l12,x13,(w64 (x14+1)),by omega,E,.of,S,H⟩
 refine sq fun K39 hK39=>pl0 ?_
 have hb31:=S.ba 0
 obtain ⟨c40,H⟩:=gd H
 have hr41:=S.ra 1
 have c42:0≤x13∧x13<(l12.length:Int):=by rw [← (qCN hr41).1]; exact c40
 have hr_:=S.ra 1
 obtain ⟨cs44,rfl,hc45⟩:=qCO hr_ qB.z x13 c42.1 c42.2
 refine plc E (.r 0 2<|.bn 2 0 2 hb31<|.x 3 c40<|.nil) (fun a E=>?_)
 replace S:=S.front 1 rfl
 obtain ⟨cs47,rfl,hc48⟩:=qCO (S.row_at (i:=0) rfl) qB.z x13 c42.1 c42.2
 refine ple E (.set (d:=qB.k) (n:=x.length) (i:=x13) (nth qB.z l12 x14) (0) (ea0 _ _) S c42 [iv ((nth qB.z l12 x13).f0),iv ((nth qB.z l12 x13).f1)] hc48 [iv ((nth qB.z l12 x14).f0),iv ((nth qB.z l12 x14).f1)] rfl) ?_
 rintro _ u46 a ⟨rfl,S,hz⟩ E
 refine pld (hK39 _ _ (pl0 (plc E (.r 0 3 .nil) (fun a E=>pld ?_))))
 refine qCL ?_
 refine hK22 _ _ (pl0 (plc E (.r 0 3 .nil) (fun a E=>pld ?_)))
 replace S:=S.pm [0] 2
 exact qCM ⟨k17,by omega,_,(l12.set (x13).toNat (nth qB.z l12 x14)),(w64 (x13+1)),(w64 (x14+1)),by omega,E,.of,S,H⟩
 refine wp_exit ?_
 refine hK10 _ _ (sq fun K49 hK49=>pl0 ?_)
 obtain ⟨c50,H⟩:=gd H
 obtain ⟨A51,c52,hA53,hv54⟩:=y_suf (P:=Tryz.prog) (k:=.i64) (S.row_at (i:=0) rfl) c50
 refine plc E (.r 0 2<|.y 2 (hv54 (by kernel_rfl))<|.nil) (fun a E=>ple E (.clr (d:=qB.k) (n:=x.length) (c':=c52) (lo:=x13) 16 qB.z S c50 hA53 (by rw [zr306]; exact rfl)) ?_)
 rintro _ u55 a ⟨rfl,S,hz⟩ E
 refine pld (hK49 _ _ (sq fun K56 hK56=>pl0 ?_))
 have hv57:=S.ra 0
 replace S:=S.shrink c50
 refine plc E (.r 0 2<|.y 2 (y_pre (k:=.i64) hv57 c50)<|.r 3 1<|.nil) (fun a E=>pld (hK56 _ _ (wp_ret ?_)))
 rw [hN]at S
 obtain rfl:=si H
 exact rt1 E ⟨_,rfl,_,_,_,rfl,S⟩
mutual
def qAG.j6:Nat→Int→Bool→Option Int
 | 0,_,_=>none
 | k+1,x,y5=>if y5=true then (some 0) else (qAG.l17 k x 0)
def qAG.l17:Nat→Int→Int→Option Int
 | 0,_,_=>none
 | k+1,x15,x16=>if x15≤32768 then (qAG.l17 k (w64 (x15 * 2)) (w64 (x16+1))) else (qAG.l31 k x16 (IntKind.u64.wrap ((IntKind.u64.wrap x15) * 32768)) 0 0)
def qAG.l31:Nat→Int→Int→Int→Int→Option Int
 | 0,_,_,_,_=>none
 | k+1,x16,x28,x29,x30=>if x30<16 then (if (IntKind.u64.wrap ((IntKind.u64.wrap (x28 * x28)).tdiv 2147483648))≤1073741824 then (qAG.l31 k x16 (IntKind.u64.wrap ((IntKind.u64.wrap ((IntKind.u64.wrap (x28 * x28)).tdiv 2147483648)) * 2)) (w64 ((w64 (x29 * 2))+1)) (w64 (x30+1))) else (qAG.l31 k x16 (IntKind.u64.wrap ((IntKind.u64.wrap (x28 * x28)).tdiv 2147483648)) (w64 (x29 * 2)) (w64 (x30+1)))) else (some (w64 ((w64 (x16 * 65536))+x29)))
end
theorem qAG.j6_s k x y5:type_of% (qAG.j6.eq_2 x y5 k):=qAG.j6.eq_2 x y5 k
theorem qAG.l17_s k x15 x16:type_of% (qAG.l17.eq_2 x15 x16 k):=qAG.l17.eq_2 x15 x16 k
theorem qAG.l31_s k x16 x28 x29 x30:type_of% (qAG.l31.eq_2 x16 x28 x29 x30 k):=qAG.l31.eq_2 x16 x28 x29 x30 k
def qAG.f(k:Nat)(x:Int):Option Int:=if x<1 then (qAG.j6 k x true) else (qAG.j6 k x (decide (x>65536)))
def qAG.Post(W F:World)(r:Int)(v:Value)(w':World):Prop:=∃(F':World),v=iv r∧Sm W F w' F' []
theorem qAG.calls(k:Nat)(x:Int)(r:Int)(W F:World)(hown:Sub F W)(H:qAG.f k x=some r):
    Cr 353 #[iv x] W (qAG.Post W F r):=by
 have S:=sT hown
 unfold qAG.f at H
 refine ent 40 rfl rfl rfl (fun a E=>?_)
 refine rr E fun a E=>(sq fun K2 hK2=>sq fun K3 hK3=>?_)
 have J9:∀ kq7,kq7≤k→∀(G:NV)(y5:Bool)(a:Act)(w':World),Env 40 G a→At G [(0,iv x),(11,.bool y5)]→Sm W F w' F []→qAG.j6 kq7 x y5=some r→K3 a w':=by
  intro kq7 hkq G y5 a u10 E A S H
  obtain _ | k8:=kq7
  exact zz H
  rw [qAG.j6_s]at H
  obtain ⟨J,E⟩:=E.at A
  refine hK3 _ _ (E.ib 11 H (fun c11 E H=>?_) fun c11 E H=>?_)
  refine rr E fun a E=>(wp_ret (qCJ ?_))
  obtain rfl:=si H
  exact rt1 E ⟨_,rfl,_,rfl,S⟩
  refine wp_skip (hK2 _ _ (rr E fun a E=>(sq fun K14 hK14=>wp_block ?_)))
  refine wp_loop_ghost (fun kq18 a w'=>∃(G:NV)(x15:Int)(x16:Int),kq18≤k8∧Env 40 G a∧At G [(0,iv x15),(3,iv x16)]∧Sm W F w' F []∧qAG.l17 kq18 x15 x16=some r) k8 ⟨_,x,0,Nat.le_refl _,E,.of,S,H⟩ ?_
  rintro kq18 a u20 ⟨G,x15,x16,hkq,E,A,S,H⟩
  obtain _ | k19:=kq18
  exact zz H
  rw [qAG.l17_s]at H
  obtain ⟨J,E⟩:=E.at A
  refine sq fun K21 hK21=>rr E fun a E=>(E.ik 13 H (fun c23 E H=>?_) fun c23 E H=>?_)
  refine wp_skip (hK21 _ _ (sq fun K24 hK24=>wp_block (pl0 (plc E (.r 0 3 .nil) (fun a E=>pld ?_)))))
  refine qCL ?_
  refine hK24 _ _ (pl0 (plc E (.r 0 3 .nil) (fun a E=>pld ?_)))
  exact qCM ⟨k19,by omega,_,(w64 (x15 * 2)),(w64 (x16+1)),by omega,E,.of,S,H⟩
  refine wp_exit ?_
  refine hK14 _ _ (rr E fun a E=>(sq fun K26 hK26=>rr E fun a E=>(wp_block ?_)))
  refine wp_loop_ghost (fun kq32 a w'=>∃(G:NV)(x28:Int)(x29:Int)(x30:Int),kq32≤k19∧Env 40 G a∧At G [(3,iv x16),(4,.int .u64 x28),(5,iv x29),(21,iv x30)]∧Sm W F w' F []∧qAG.l31 kq32 x16 x28 x29 x30=some r) k19 ⟨_,(IntKind.u64.wrap ((IntKind.u64.wrap x15) * 32768)),0,0,Nat.le_refl _,E,.of,S,H⟩ ?_
  rintro kq32 a u34 ⟨G,x28,x29,x30,hkq,E,A,S,H⟩
  obtain _ | k33:=kq32
  exact zz H
  rw [qAG.l31_s]at H
  obtain ⟨J,E⟩:=E.at A
  refine rr E fun a E=>(sq fun K36 hK36=>E.ik 22 H (fun c37 E H=>?_) fun c37 E H=>?_)
  refine wp_skip (hK36 _ _ (sq fun K38 hK38=>wp_block (rr E fun a E=>(rr E fun a E=>(rr E fun a E=>(E.ik 30 H (fun c42 E H=>?_) fun c42 E H=>?_))))))
  refine rr E fun a E=>(pl0 (plc E (.r 0 3 .nil) (fun a E=>pld ?_)))
  refine qCL ?_
  refine hK38 _ _ (pl0 (plc E (.r 0 2 .nil) (fun a E=>pld ?_)))
  exact qCM ⟨k33,by omega,_,(IntKind.u64.wrap ((IntKind.u64.wrap ((IntKind.u64.wrap (x28 * x28)).tdiv 2147483648)) * 2)),(w64 ((w64 (x29 * 2))+1)),(w64 (x30+1)),by omega,E,.of,S,H⟩
  refine wp_skip ?_
  refine qCL ?_
  refine hK38 _ _ (pl0 (plc E (.r 0 2 .nil) (fun a E=>pld ?_)))
  exact qCM ⟨k33,by omega,_,(IntKind.u64.wrap ((IntKind.u64.wrap (x28 * x28)).tdiv 2147483648)),(w64 (x29 * 2)),(w64 (x30+1)),by omega,E,.of,S,H⟩
  refine wp_exit ?_
  refine hK26 _ _ (rr E fun a E=>(wp_ret ?_))
  obtain rfl:=si H
  exact rt1 E ⟨_,rfl,_,rfl,S⟩
 refine pl0 (plc E (.r 0 3 .nil) (fun a E=>E.fk 8 H (fun c4 E H=>?_) fun c4 E H=>?_))
 refine plc E (.r 3 3 .nil) (fun a E=>pld ?_)
 exact J9 _ (by omega) _ true _ _ E .of S H
 refine plc E (.r 3 3 .nil) (fun a E=>pld ?_)
 exact J9 _ (by omega) _ (decide (x>65536)) _ _ E .of S H
def qBp.f(k:Nat)(x:Int)(y:Int):Option Int:=(qBI.f k x [(IntKind.u64.wrap y)]).bind fun t8=>((qAG.f k (w64 (1+(w64 (t8.fdiv 281474976710656))))).bind fun t11=>(some t11))
def qBp.Post(W F:World)(r:Int)(v:Value)(w':World):Prop:=∃(F':World),v=iv r∧Sm W F w' F' []
theorem qBp.calls(k:Nat)(x:Int)(y:Int)(r:Int)(W F:World)(hown:Sub F W)(H:qBp.f k x y=some r):
    Cr 341 #[.int .u64 x,iv y] W (qBp.Post W F r):=by
 have S:=sT hown
 unfold qBp.f at H
 refine ent 14 rfl rfl rfl (fun a E=>?_)
 refine rr E fun a E=>(sq fun K2 hK2=>pl0 (plc E (.r 0 3 .nil) (fun a E=>ple E (.lit (d:=(Kn.int .u64)) (e:=117) S [(IntKind.u64.wrap y)] (.cons rfl .nil)) ?_)))
 rintro _ u3 a ⟨A4,c5,rfl,S,hg⟩ E
 obtain ⟨t8,h9,H⟩:=bd H
 refine plq E S en121 (qBI.calls k x [(IntKind.u64.wrap y)] _ _ _ _ _ (Sub.refl _) (S.rd_at (i:=0) rfl) h9) fun u7 S a E=>plc E (.r 5 3 .nil) (fun a E=>?_)
 obtain ⟨t11,h12,H⟩:=bd H
 refine plq E S en353 (qAG.calls k (w64 (1+(w64 (t8.fdiv 281474976710656)))) _ _ _ S.own.sub h12) fun u10 S a E=>plc E (.r 9 1 .nil) (fun a E=>pld (hK2 _ _ (wp_ret ?_)))
 replace S:=S.tail
 obtain rfl:=si H
 exact rt1 E ⟨_,rfl,_,rfl,S⟩
def qBY.f(x:Int):Option Bool:=if x≥0 then (some (decide (x≤2147483647))) else (some false)
def qBY.Post(W F:World)(r:Bool)(v:Value)(w':World):Prop:=∃(F':World),v = .bool r∧Sm W F w' F' []
theorem qBY.calls(x:Int)(r:Bool)(W F:World)(hown:Sub F W)(H:qBY.f x=some r):
    Cr 354 #[iv x] W (qBY.Post W F r):=by
 have S:=sT hown
 unfold qBY.f at H
 refine ent 9 rfl rfl rfl (fun a E=>?_)
 refine rr E fun a E=>(sq fun K2 hK2=>pl0 (plc E (.r 0 3 .nil) (fun a E=>E.fk 5 H (fun c3 E H=>?_) fun c3 E H=>?_)))
 refine plc E (.r 3 4 .nil) (fun a E=>pld (hK2 _ _ (wp_ret ?_)))
 obtain rfl:=si H
 exact rt1 E ⟨_,rfl,_,rfl,S⟩
 refine plc E (.r 3 4 .nil) (fun a E=>pld (hK2 _ _ (wp_ret ?_)))
 obtain rfl:=si H
 exact rt1 E ⟨_,rfl,_,rfl,S⟩
def qBM.f(x:Int)(y:Int)(z:Int)(p:Int):Option Bool:=(qBY.f x).bind fun t4=>(if t4=true then ((qBY.f y).bind fun t8=>(if t8=true then ((qBY.f z).bind fun t12=>(if t12=true then ((qBY.f p).bind fun t16=>(if t16=true then (if y>0 then (if p>0 then (some (decide ((w64 (x * p))<(w64 (z * y))))) else (some false)) else (some false)) else (some false))) else (some false))) else (some false))) else (some false))
def qBM.Post(W F:World)(r:Bool)(v:Value)(w':World):Prop:=∃(F':World),v = .bool r∧Sm W F w' F' []
theorem qBM.calls(x:Int)(y:Int)(z:Int)(p:Int)(r:Bool)(W F:World)(hown:Sub F W)(H:qBM.f x y z p=some r):
    Cr 342 #[iv x,iv y,iv z,iv p] W (qBM.Post W F r):=by
 have S:=sT hown
 unfold qBM.f at H
 refine ent 40 rfl rfl rfl (fun a E=>?_)
 refine rr E fun a E=>(sq fun K2 hK2=>pl0 (plc E (.r 0 1 .nil) (fun a E=>?_)))
 obtain ⟨t4,h5,H⟩:=bd H
 refine plq E S en354 (qBY.calls x _ _ _ S.own.sub h5) fun u3 S a E=>plc E (.r 2 1 .nil) (fun a E=>E.fb 11 H (fun c6 E H=>?_) fun c6 E H=>?_)
 refine plc E (.r 3 1 .nil) (fun a E=>?_)
 obtain ⟨t8,h9,H⟩:=bd H
 refine plq E S en354 (qBY.calls y _ _ _ S.own.sub h9) fun u7 S a E=>plc E (.r 5 2 .nil) (fun a E=>E.fb 15 H (fun c10 E H=>?_) fun c10 E H=>?_)
 refine plc E (.r 7 1 .nil) (fun a E=>?_)
 obtain ⟨t12,h13,H⟩:=bd H
 refine plq E S en354 (qBY.calls z _ _ _ S.own.sub h13) fun u11 S a E=>plc E (.r 9 2 .nil) (fun a E=>E.fb 19 H (fun c14 E H=>?_) fun c14 E H=>?_)
 refine plc E (.r 11 1 .nil) (fun a E=>?_)
 obtain ⟨t16,h17,H⟩:=bd H
 refine plq E S en354 (qBY.calls p _ _ _ S.own.sub h17) fun u15 S a E=>plc E (.r 13 2 .nil) (fun a E=>E.fb 23 H (fun c18 E H=>?_) fun c18 E H=>?_)
 refine plc E (.r 15 4 .nil) (fun a E=>E.fk 27 H (fun c19 E H=>?_) fun c19 E H=>?_)
 refine plc E (.r 19 4 .nil) (fun a E=>E.fk 31 H (fun c20 E H=>?_) fun c20 E H=>?_)
 refine plc E (.r 23 9 .nil) (fun a E=>pld (hK2 _ _ (wp_ret ?_)))
 obtain rfl:=si H
 exact rt1 E ⟨_,rfl,_,rfl,S⟩
 refine plc E (.r 23 9 .nil) (fun a E=>pld (hK2 _ _ (wp_ret ?_)))
 obtain rfl:=si H
 exact rt1 E ⟨_,rfl,_,rfl,S⟩
 refine plc E (.r 19 13 .nil) (fun a E=>pld (hK2 _ _ (wp_ret ?_)))
 obtain rfl:=si H
 exact rt1 E ⟨_,rfl,_,rfl,S⟩
 refine plc E (.r 15 17 .nil) (fun a E=>pld (hK2 _ _ (wp_ret ?_)))
 obtain rfl:=si H
 exact rt1 E ⟨_,rfl,_,rfl,S⟩
 refine plc E (.r 11 21 .nil) (fun a E=>pld (hK2 _ _ (wp_ret ?_)))
 obtain rfl:=si H
 exact rt1 E ⟨_,rfl,_,rfl,S⟩
 refine plc E (.r 7 25 .nil) (fun a E=>pld (hK2 _ _ (wp_ret ?_)))
 obtain rfl:=si H
 exact rt1 E ⟨_,rfl,_,rfl,S⟩
 refine plc E (.r 3 29 .nil) (fun a E=>pld (hK2 _ _ (wp_ret ?_)))
 obtain rfl:=si H
 exact rt1 E ⟨_,rfl,_,rfl,S⟩
def qBd.f(k:Nat)(x:Int)(y:qB)(z:qB):Option Int:=(qBp.f k x y.f0).bind fun t8=>((qBp.f k x z.f0).bind fun t11=>((qBM.f t8 y.f1 t11 z.f1).bind fun t16=>(if t16=true then (some (-1)) else ((qBM.f t11 z.f1 t8 y.f1).bind fun t22=>(if t22=true then (some 1) else (some (w64 (y.f0 - z.f0))))))))
def qBd.Post(W F:World)(r:Int)(v:Value)(w':World):Prop:=∃(F':World),v=iv r∧Sm W F w' F' []
theorem qBd.calls(k:Nat)(x:Int)(y:qB)(z:qB)(r:Int)(W F:World)(hown:Sub F W)(H:qBd.f k x y z=some r):
    Cr 330 #[.int .u64 x,.agg #[iv y.f0,iv y.f1],.agg #[iv z.f0,iv z.f1]] W (qBd.Post W F r):=by
 have S:=sT hown
 unfold qBd.f at H
 refine ent 38 rfl rfl rfl (fun a E=>?_)
 refine sq fun K1 hK1=>pl0 (plx (t:=306) E S [iv y.f0,iv y.f1] fun b2 u3 hb2 S a E=>plx (t:=306) E S [iv z.f0,iv z.f1] fun b4 u5 hb4 S a E=>plc E (.r 2 1 .nil) (fun a E=>pld (hK1 _ _ (sq fun K6 hK6=>?_))))
 refine drawn 10 ⟨[],[],fun q=>False⟩ mixed rfl (by kernel_rfl) (fun hst=>?_)
 replace S:=S.drew
 have hb2:=S.ba 1
 have hb4:=S.ba 0
 refine mny 4 hst E (.r 0 2<|.b 2 0 hb2<|.r 4 2<|.b 6 0 hb4<|.nil) (fun a E=>?_)
 obtain ⟨t8,h9,H⟩:=bd H
 refine on1 3 E (.cl en341 (qBp.calls k x y.f0 _ _ _ S.own.sub h9)) ?_
 rintro _ u7 a ⟨_,rfl,hC⟩ E
 refine ⟨.of hC.agr,?_⟩
 replace S:=S.lent hC
 obtain ⟨t11,h12,H⟩:=bd H
 refine on1 7 E (.cl en341 (qBp.calls k x z.f0 _ _ _ S.own.sub h12)) ?_
 rintro _ u10 a ⟨_,rfl,hC⟩ E
 refine ⟨.of hC.agr,?_⟩
 replace S:=S.lent hC
 refine mny 0 hst E (.r 8 2 .nil) (fun a E=>?_)
 refine dn ?_
 refine hK6 _ _ (sq fun K13 hK13=>wp_block (sq fun K14 hK14=>pl0 (plc E (.r 0 2<|.b 2 1 (S.ba 1)<|.r 3 2<|.b 5 1 (S.ba 0)<|.nil) (fun a E=>?_))))
 obtain ⟨t16,h17,H⟩:=bd H
 refine plq E S en342 (qBM.calls t8 y.f1 t11 z.f1 _ _ _ S.own.sub h17) fun u15 S a E=>plc E (.r 7 1 .nil) (fun a E=>pld (hK14 _ _ (E.ib 17 H (fun c18 E H=>?_) fun c18 E H=>?_)))
 refine rr E fun a E=>(wp_ret (qCK (qCJ ?_)))
 replace S:=S.pm [] 2
 obtain rfl:=si H
 exact rt1 E ⟨_,rfl,_,rfl,S⟩
 refine sq fun K20 hK20=>pl0 (plc E (.r 0 2<|.b 2 1 (S.ba 0)<|.r 3 2<|.b 5 1 (S.ba 1)<|.nil) (fun a E=>?_))
 obtain ⟨t22,h23,H⟩:=bd H
 refine plq E S en342 (qBM.calls t11 z.f1 t8 y.f1 _ _ _ S.own.sub h23) fun u21 S a E=>plc E (.r 7 1 .nil) (fun a E=>pld (hK20 _ _ (E.ib 25 H (fun c24 E H=>?_) fun c24 E H=>?_)))
 refine rr E fun a E=>(wp_ret (qCK (qCJ ?_)))
 replace S:=S.pm [] 2
 obtain rfl:=si H
 exact rt1 E ⟨_,rfl,_,rfl,S⟩
 refine wp_skip ?_
 refine qCL ?_
 refine hK13 _ _ (rg E (.r 0 1<|.b 1 0 (S.ba 1)<|.r 2 1<|.b 3 0 (S.ba 0)<|.r 4 2<|.nil) fun a E=>(wp_ret ?_))
 replace S:=S.pm [] 2
 obtain rfl:=si H
 exact rt1 E ⟨_,rfl,_,rfl,S⟩
def qBi.f(k:Nat)(x:qB)(y:qB)(xf0_:Int):Option Int:=(qBd.f k xf0_ x y).bind fun t8=>(some t8)
def qBi.Post(W F:World)(r:Int)(v:Value)(w':World):Prop:=∃(F':World),v=iv r∧Sm W F w' F' []
theorem qBi.calls(k:Nat)(x:qB)(y:qB)(xf0_:Int)(pf0_:Nat)(r:Int)(W F:World)(hown:Sub F W)(hpf0_:F.heap[pf0_]? = some (.cells #[.int .u64 xf0_] 117 (0,0)))(H:qBi.f k x y xf0_=some r):
    Cr 329 #[.agg #[iv x.f0,iv x.f1],.agg #[iv y.f0,iv y.f1],.pointer (pb pf0_)] W (qBi.Post W F r):=by
 have S:=sT hown
 unfold qBi.f at H
 refine ent 10 rfl rfl rfl (fun a E=>?_)
 refine sq fun K1 hK1=>pl0 (plx (t:=306) E S [iv x.f0,iv x.f1] fun b2 u3 hb2 S a E=>plx (t:=306) E S [iv y.f0,iv y.f1] fun b4 u5 hb4 S a E=>plc E (.r 2 1 .nil) (fun a E=>pld (hK1 _ _ (sq fun K6 hK6=>pl0 (plc E (.b 0 0 (S.own.sub _ _ _ _ hpf0_)<|.bn 1 0 2 (S.ba 1)<|.bn 2 0 2 hb4<|.nil) (fun a E=>?_))))))
 obtain ⟨t8,h9,H⟩:=bd H
 refine plq E S en330 (qBd.calls k xf0_ x y _ _ _ S.own.sub h9) fun u7 S a E=>plc E (.r 4 1 .nil) (fun a E=>pld (hK6 _ _ (wp_ret ?_)))
 replace S:=S.pm [] 2
 obtain rfl:=si H
 exact rt1 E ⟨_,rfl,_,rfl,S⟩
def qB.enc(x:qB):List Value:=[iv x.f0,iv x.f1]
instance:Inhabited qB:=⟨qB.z⟩
def qV.cmp(k:Nat)(x1c0_:Int)(a b:qB):Option Int:=qBi.f k a b x1c0_
def qV.f(k:Nat)(x0_:List qB)(x1c0_:Int):Option (List qB):=sortO (qV.cmp k x1c0_) x0_
def qV.Post(x0_:List qB)(x1c0_:Int)(A0_0:Option Addr)(c0_0:Nat)(p1c0_:Nat)(W F:World)(r:List qB)(v:Value)(w':World):Prop:=∃(F':World),v = .tuple #[]∧St W (mine W [row qB.k 306 (.slice A0_0 x0_.length c0_0) x0_]) F w' F' [row qB.k 306 (.slice A0_0 x0_.length c0_0) r]
set_option maxRecDepth 100000 in
theorem qV.calls(k:Nat)(x0_:List qB)(x1c0_:Int)(A0_0:Option Addr)(c0_0:Nat)(p1c0_:Nat)(r:List qB)(W F:World)(hown:Own W F [row qB.k 306 (.slice A0_0 x0_.length c0_0) x0_])(hp1c0_:F.heap[p1c0_]? = some (.cells #[.int .u64 x1c0_] 117 (0,0)))(H:qV.f k x0_ x1c0_=some r):
  Calls Tryz.prog 328 #[.slice A0_0 x0_.length c0_0,.func (.func 329) #[] #[.pointer (pb p1c0_)]] W fun e w'=>∃ v,e = .returned v∧qV.Post x0_ x1c0_ A0_0 c0_0 p1c0_ W F r v w' :=
 qDl Tryz.sort328 2 rfl (fun w=>qCy ag306 w) (fun w=>qCb sz306 w) qB.enc (fun x=>rfl) (fun x v hv=>by simp only [qB.enc,List.mem_cons,List.not_mem_nil,or_false]at hv; rcases hv with rfl | rfl <;> rfl) (fun F x cs=>Iff.rfl) (qV.cmp k x1c0_) 329 #[.pointer (pb p1c0_)] en329 hown (fun x y v W' hs hc=>(qBi.calls k x y x1c0_ _ v W' F hs hp1c0_ hc).mono fun en w' ⟨u,h1,F',h2,h3⟩=>⟨u,h1,F',h2,h3⟩) H
def qBA.l44:Nat→List qB→List qB→List Int→Int→Option (List Int)
 | 0,_,_,_,_=>none
 | k+1,t22,t33,l42,x43=>if x43<(t22.length:Int) then (if 0≤x43∧x43<(t22.length:Int) then (if ((l42.length:Int)+((1:Nat):Int)) * 8≤140737488355328 then (qBA.l44 k t22 t33 (l42++[(nth qB.z t33 x43).f0]) (w64 (x43+1))) else (none)) else (none)) else (some l42)
theorem qBA.l44_s k t22 t33 l42 x43:type_of% (qBA.l44.eq_2 t22 t33 l42 x43 k):=qBA.l44.eq_2 t22 t33 l42 x43 k
def qBA.f(k:Nat)(x:Int)(y:List qB):Option (List Int):=(qAg.f k y).bind fun t7=>(if t7=0 then ((qAV.f y).bind fun t14=>((qM.f k t14).bind fun t22=>((qV.f k t22 x).bind fun t33=>(qBA.l44 k t22 t33 [] 0)))) else (some []))
def qBA.Post(W F:World)(r:List Int)(v:Value)(w':World):Prop:=∃(F':World)(RA0_0:OA)(rc0_0:Nat),v = .slice RA0_0 r.length rc0_0∧Sm W F w' F' [row ki 3 (.slice RA0_0 r.length rc0_0) r]
theorem qBA.calls(k:Nat)(x:Int)(y:List qB)(A1_0:OA)(c1_0:Nat)(r:List Int)(W F:World)(hown:Sub F W)(g1_0:Rd qB.k F A1_0 c1_0 y)(H:qBA.f k x y=some r):
    Cr 301 #[.int .u64 x,.slice A1_0 y.length c1_0] W (qBA.Post W F r):=by
 have S:=sT hown
 unfold qBA.f at H
 refine ent 30 rfl rfl rfl (fun a E=>?_)
 refine sq fun K1 hK1=>pl0 (plx (t:=117) E S [.int .u64 x] fun b2 u3 hb2 S a E=>plc E (.r 1 1 .nil) (fun a E=>pld (hK1 _ _ (sq fun K4 hK4=>sq fun K5 hK5=>pl0 (plc E (.r 0 1 .nil) (fun a E=>?_))))))
 obtain ⟨t7,h8,H⟩:=bd H
 refine plq E S en324 (qAg.calls k y _ _ _ _ _ S.own.sub g1_0 h8) fun u6 S a E=>plc E (.r 2 1 .nil) (fun a E=>pld (hK5 _ _ (E.ikn 10 H (fun c9 E H=>?_) fun c9 E H=>?_)))
 refine wp_skip (hK4 _ _ (sq fun K12 hK12=>pl0 (plc E (.r 0 1 .nil) (fun a E=>?_))))
 obtain ⟨t14,h15,H⟩:=bd H
 refine ple E (.cl en326 (qAV.calls y _ _ _ _ _ S.own.sub g1_0 h15)) ?_
 rintro _ u13 a ⟨F16,A17,c18,rfl,hC⟩ E
 have hs:=hC.sub
 replace S:=S.called (X:=[]) hC
 replace g1_0:=g1_0.mono hs
 obtain ⟨t22,h23,H⟩:=bd H
 refine ple E (.cl en325 (qM.calls k t14 _ _ _ _ _ (Own.left (X:=[row qB.k 306 (.slice A17 t14.length c18) t14]) S.own) h23)) ?_
 rintro _ u21 a ⟨F24,A25,c26,rfl,hC⟩ E
 have hs:=hC.sub
 replace S:=S.called (X:=[row qB.k 306 (.slice A17 t14.length c18) t14]) hC
 replace g1_0:=g1_0.mono hs
 refine plc E (.r 3 1 .nil) (fun a E=>pld (hK12 _ _ (sq fun K29 hK29=>pl0 (plc E (.r 0 2 .nil) (fun a E=>?_)))))
 replace S:=S.front 1 rfl
 obtain ⟨F30,hs,g31,S⟩:=S.giveb
 replace g1_0:=g1_0.mono hs
 obtain ⟨t33,h34,H⟩:=bd H
 refine ple E (.cl en328 (qV.calls k t22 x _ _ _ _ _ _ (Own.left (X:=[row qB.k 306 (.slice A25 t22.length c26) t22]) S.own) g31 h34)) ?_
 rintro _ u32 a ⟨F35,rfl,hC⟩ E
 have hs:=hC.sub
 replace S:=S.called (X:=[row qB.k 306 (.slice A25 t22.length c26) t22]) hC
 replace g1_0:=g1_0.mono hs
 replace g31:=hs _ _ _ _ g31
 refine pld (hK29 _ _ (rr E fun a E=>(sq fun K37 hK37=>rr E fun a E=>(wp_block ?_))))
 replace S:=S.nilrow ki 3
 replace S:=S.front 1 rfl
 refine wp_loop_ghost (fun kq45 a w'=>∃(G:NV)(A40:OA)(c41:Nat)(l42:List Int)(x43:Int),kq45≤k∧Env 30 G a∧At G [(5,.slice A40 l42.length c41),(17,.slice A25 t22.length c26),(18,iv (t22.length:Int)),(19,iv x43)]∧Sm W F w' F35 [row qB.k 306 (.slice A25 t22.length c26) t33,row ki 3 (.slice A40 l42.length c41) l42]∧qBA.l44 kq45 t22 t33 l42 x43=some r) k ⟨_,none,0,[],0,Nat.le_refl _,E,.of,S,H⟩ ?_
 rintro kq45 a u47 ⟨G,A40,c41,l42,x43,hkq,E,A,S,H⟩
 obtain _ | k46:=kq45
 exact zz H
 rw [qBA.l44_s]at H
 obtain ⟨J,E⟩:=E.at A
 refine rr E fun a E=>(sq fun K49 hK49=>E.ik 20 H (fun c50 E H=>?_) fun c50 E H=>?_)
 refine wp_skip (hK49 _ _ (sq fun K51 hK51=>wp_block (sq fun K52 hK52=>pl0 ?_)))
 obtain ⟨c53,H⟩:=gd H
 have hr54:=S.ra 0
 have c55:0≤x43∧x43<(t33.length:Int):=by rw [← (qCN hr54).1]; exact c53
 have hE_:=E
 obtain ⟨b56,rfl⟩:=qCP hr54 c55.1 c55.2
 replace E:=hE_
 have hr_:=S.ra 0
 obtain ⟨cs58,rfl,hc59⟩:=qCO hr_ qB.z x43 c55.1 c55.2
 refine plc E (.x 0 c53<|.cs 1 hc59<|.nil) (fun a E=>pla (t:=306) E S [iv 0,iv 0] fun b60 u61 hb60 S a E=>pls E S [iv ((nth qB.z t33 x43).f0),iv ((nth qB.z t33 x43).f1)] fun u62 hb60 S a E=>pld (hK52 _ _ (pl0 (plc E (.r 0 2<|.b 2 0 hb60<|.nil) (fun a E=>ple E (.lit (d:=ki) (e:=3) S [(nth qB.z t33 x43).f0] (.cons rfl .nil)) ?_)))))
 rintro _ u63 a ⟨A64,c65,rfl,S,hg⟩ E
 obtain ⟨c67,H⟩:=gd H
 replace S:=S.front 3 rfl
 refine ple E (.ap (d:=ki) 8 S (qCX (S.row_at (i:=1) rfl)) c67 c65) ?_
 rintro _ u70 a ⟨A68,c69,rfl,S,hz⟩ E
 refine plc E (.r 5 1 .nil) (fun a E=>pld ?_)
 refine qCL ?_
 refine hK51 _ _ (pl0 (plc E (.r 0 2 .nil) (fun a E=>pld ?_)))
 replace S:=S.pm [3,0] 4
 exact qCM ⟨k46,by omega,_,A68,c69,(l42++[(nth qB.z t33 x43).f0]),(w64 (x43+1)),by omega,E,.of,S,H⟩
 refine wp_exit ?_
 refine hK37 _ _ (rr E fun a E=>(wp_ret ?_))
 have hn73:=(qCN (S.row_at (i:=0) rfl)).1
 replace S:Sm W F u47 F35 [row qB.k 306 (.slice A25 t33.length c26) t33,row ki 3 (.slice A40 l42.length c41) l42]:=by rw [← hn73]; exact S
 replace S:=S.tail
 obtain rfl:=si H
 exact rt1 E ⟨_,rfl,_,_,_,rfl,S⟩
 refine rr E fun a E=>(wp_ret (qCJ ?_))
 replace S:=S.nilrow ki 3
 replace S:=S.pm [0] 2
 obtain rfl:=si H
 exact rt1 E ⟨_,rfl,_,_,_,rfl,S⟩
mutual
def qy.j42:Nat→qX→qK→Int→List qB→Option (List qX)
 | 0,_,_,_,_=>none
 | k+1,y,z,p,l40=>(qBI.f k (IntKind.u64.wrap p) [(IntKind.u64.wrap z.f1),(IntKind.u64.wrap y.f0),(IntKind.u64.wrap y.f1)]).bind fun t53=>((qBA.f k t53 l40).bind fun t58=>(if 0≤(if (t58.length:Int)<z.f2 then (t58.length:Int) else z.f2)∧(if (t58.length:Int)<z.f2 then (t58.length:Int) else z.f2)≤(t58.length:Int) then (qy.l80 k y z t58 [] 0) else (none)))
def qy.l80:Nat→qX→qK→List Int→List qX→Int→Option (List qX)
 | 0,_,_,_,_,_=>none
 | k+1,y,z,t58,l78,x79=>if x79<((cutl t58 0 (if (t58.length:Int)<z.f2 then (t58.length:Int) else z.f2)).length:Int) then (if 0≤x79∧x79<((cutl t58 0 (if (t58.length:Int)<z.f2 then (t58.length:Int) else z.f2)).length:Int) then (if z.f1=1 then (qy.j110 k y z t58 l78 x79 (nth 0 (cutl t58 0 (if (t58.length:Int)<z.f2 then (t58.length:Int) else z.f2)) x79) y.f1 y.f2) else (if z.f1=2 then (qy.j110 k y z t58 l78 x79 y.f0 (nth 0 (cutl t58 0 (if (t58.length:Int)<z.f2 then (t58.length:Int) else z.f2)) x79) y.f2) else (qy.j110 k y z t58 l78 x79 y.f0 y.f1 (nth 0 (cutl t58 0 (if (t58.length:Int)<z.f2 then (t58.length:Int) else z.f2)) x79)))) else (none)) else (some l78)
def qy.j110:Nat→qX→qK→List Int→List qX→Int→Int→Int→Int→Option (List qX)
 | 0,_,_,_,_,_,_,_,_=>none
 | k+1,y,z,t58,l78,x79,x107,x108,x109=>if ((l78.length:Int)+((1:Nat):Int)) * 24≤140737488355328 then (qy.l80 k y z t58 (l78++[(⟨x107,x108,x109⟩:qX)]) (w64 (x79+1))) else (none)
end
theorem qy.j42_s k y z p l40:type_of% (qy.j42.eq_2 y z p l40 k):=qy.j42.eq_2 y z p l40 k
theorem qy.l80_s k y z t58 l78 x79:type_of% (qy.l80.eq_2 y z t58 l78 x79 k):=qy.l80.eq_2 y z t58 l78 x79 k
theorem qy.j110_s(k:Nat)(y:qX)(z:qK)(t58:List Int)(l78:List qX)(x79:Int)(x107:Int)(x108:Int)(x109:Int):qy.j110 (k+1) y z t58 l78 x79 x107 x108 x109=(if ((l78.length:Int)+((1:Nat):Int)) * 24≤140737488355328 then (qy.l80 k y z t58 (l78++[(⟨x107,x108,x109⟩:qX)]) (w64 (x79+1))) else (none)):=by kernel_rfl
def qy.f(k:Nat)(x:List qA)(y:qX)(z:qK)(p:Int):Option (List qX):=if z.f1=1 then ((qBr.f k x).bind fun t12=>(qy.j42 k y z p t12)) else (if z.f1=2 then ((qBs.f k x y.f0).bind fun t22=>(qy.j42 k y z p t22)) else ((qBk.f k x y.f0 y.f1).bind fun t30=>(qy.j42 k y z p t30)))
def qy.Post(W F:World)(r:List qX)(v:Value)(w':World):Prop:=∃(F':World)(RA0_0:OA)(rc0_0:Nat),v = .slice RA0_0 r.length rc0_0∧Sm W F w' F' [row qX.k 302 (.slice RA0_0 r.length rc0_0) r]
theorem qy.calls(k:Nat)(x:List qA)(y:qX)(z:qK)(p:Int)(A0_0:OA)(c0_0:Nat)(r:List qX)(W F:World)(hown:Sub F W)(g0_0:Rd qA.k F A0_0 c0_0 x)(H:qy.f k x y z p=some r):
    Cr 263 #[.slice A0_0 x.length c0_0,.agg #[iv y.f0,iv y.f1,iv y.f2],.agg #[iv z.f0,iv z.f1,iv z.f2],iv p] W (qy.Post W F r):=by
 have S:=sT hown
 unfold qy.f at H
 refine ent 79 rfl rfl rfl (fun a E=>?_)
 refine sq fun K1 hK1=>pl0 (plx (t:=302) E S [iv y.f0,iv y.f1,iv y.f2] fun b2 u3 hb2 S a E=>plx (t:=279) E S [iv z.f0,iv z.f1,iv z.f2] fun b4 u5 hb4 S a E=>plc E (.r 2 1 .nil) (fun a E=>pld (hK1 _ _ (rr E fun a E=>(sq fun K7 hK7=>?_)))))
 have J45:∀ kq43,kq43≤k→∀(G:NV)(A38:OA)(c39:Nat)(l40:List qB)(F41:World)(a:Act)(w':World),Env 79 G a→At G [(3,iv p),(5,.pointer (pb b2)),(6,.pointer (pb b4)),(9,.slice A38 l40.length c39)]→Sm W F w' F41 [box b4 #[iv z.f0,iv z.f1,iv z.f2] 279,box b2 #[iv y.f0,iv y.f1,iv y.f2] 302,row qB.k 306 (.slice A38 l40.length c39) l40]→qy.j42 kq43 y z p l40=some r→K7 a w':=by
  intro kq43 hkq G A38 c39 l40 F41 a u46 E A S H
  obtain _ | k44:=kq43
  exact zz H
  rw [qy.j42_s]at H
  obtain ⟨J,E⟩:=E.at A
  refine hK7 _ _ (sq fun K47 hK47=>pl0 ?_)
  have hb2:=S.ba 1
  refine plc E (.r 0 3<|.b 3 1 (S.ba 0)<|.r 4 2<|.b 6 0 hb2<|.r 7 2<|.b 9 1 hb2<|.r 10 1<|.nil) (fun a E=>ple E (.lit (d:=(Kn.int .u64)) (e:=117) S [(IntKind.u64.wrap z.f1),(IntKind.u64.wrap y.f0),(IntKind.u64.wrap y.f1)] (.cons rfl<|.cons rfl<|.cons rfl .nil)) ?_)
  rintro _ u48 a ⟨A49,c50,rfl,S,hg⟩ E
  obtain ⟨t53,h54,H⟩:=bd H
  refine plq E S en121 (qBI.calls k44 (IntKind.u64.wrap p) [(IntKind.u64.wrap z.f1),(IntKind.u64.wrap y.f0),(IntKind.u64.wrap y.f1)] _ _ _ _ _ (Sub.refl _) (S.rd_at (i:=0) rfl) h54) fun u52 S a E=>plc E (.r 13 1 .nil) (fun a E=>?_)
  replace S:=S.front 3 rfl
  obtain ⟨F55,hs,g56,S⟩:=S.give
  obtain ⟨t58,h59,H⟩:=bd H
  refine ple E (.cl en301 (qBA.calls k44 t53 l40 _ _ _ _ _ S.own.sub g56 h59)) ?_
  rintro _ u57 a ⟨F60,A61,c62,rfl,hC⟩ E
  have hs:=hC.sub
  replace S:=S.called (X:=[]) hC
  replace g56:=g56.mono hs
  refine plc E (.r 15 1 .nil) (fun a E=>pld (hK47 _ _ (rr E fun a E=>(sq fun K66 hK66=>sq fun K67 hK67=>pl0 ?_))))
  have hb4:=S.ba 2
  obtain ⟨F68,hs,g69,S⟩:=S.give
  replace g56:=g56.mono hs
  obtain ⟨c70,H⟩:=gd H
  obtain ⟨A71,c72,g73,hv74⟩:=qFl (P:=Tryz.prog) g69 ⟨Int.le_refl _,c70.1,c70.2⟩ sz3
  refine plc E (.r 0 2<|.b 2 2 hb4<|.r 3 3<|.y 6 (hv74 (by kernel_rfl))<|.r 7 2<|.nil) (fun a E=>pld (hK67 _ _ (wp_block ?_)))
  replace S:=S.nilrow qX.k 302
  replace S:=S.pm [2,3,0] 4
  refine wp_loop_ghost (fun kq81 a w'=>∃(G:NV)(A76:OA)(c77:Nat)(l78:List qX)(x79:Int),kq81≤k44∧Env 79 G a∧At G [(5,.pointer (pb b2)),(6,.pointer (pb b4)),(11,.slice A76 l78.length c77),(54,.slice A71 ((cutl t58 0 (if (t58.length:Int)<z.f2 then (t58.length:Int) else z.f2)).length) c72),(55,iv ((cutl t58 0 (if (t58.length:Int)<z.f2 then (t58.length:Int) else z.f2)).length:Int)),(56,iv x79)]∧Sm W F w' F68 [box b4 #[iv z.f0,iv z.f1,iv z.f2] 279,box b2 #[iv y.f0,iv y.f1,iv y.f2] 302,row qX.k 302 (.slice A76 l78.length c77) l78]∧qy.l80 kq81 y z t58 l78 x79=some r) k44 ⟨_,none,0,[],0,Nat.le_refl _,E,.of,S,H⟩ ?_
  rintro kq81 a u83 ⟨G,A76,c77,l78,x79,hkq,E,A,S,H⟩
  obtain _ | k82:=kq81
  exact zz H
  rw [qy.l80_s]at H
  obtain ⟨J,E⟩:=E.at A
  refine rr E fun a E=>(sq fun K85 hK85=>E.ik 57 H (fun c86 E H=>?_) fun c86 E H=>?_)
  refine wp_skip (hK85 _ _ (sq fun K87 hK87=>wp_block (sq fun K88 hK88=>pl0 ?_)))
  obtain ⟨c89,H⟩:=gd H
  have hE_:=E
  obtain ⟨ad90,rfl⟩:=g73.addr c89.1 c89.2
  replace E:=hE_
  obtain ⟨cs92,rfl,hc93⟩:=g73.el 0 x79 c89.1 c89.2
  refine plc E (.x 0 c89<|.c 1 (S.fc hc93 0)<|.r 2 1<|.nil) (fun a E=>pld (hK88 _ _ (sq fun K94 hK94=>pl0 (plc E (.bn 0 0 3 (S.ba 1) .nil) (fun a E=>pla (t:=302) E S [iv 0,iv 0,iv 0] fun b95 u96 hb95 S a E=>pls E S [iv y.f0,iv y.f1,iv y.f2] fun u97 hb95 S a E=>pld (hK94 _ _ (sq fun K98 hK98=>?_)))))))
  have J113:∀ kq111,kq111≤k82→∀(G:NV)(x107:Int)(x108:Int)(x109:Int)(a:Act)(w':World),Env 79 G a→At G [(5,.pointer (pb b2)),(6,.pointer (pb b4)),(11,.slice A76 l78.length c77),(14,.pointer (pb b95)),(54,.slice (some ad90) ((cutl t58 0 (if (t58.length:Int)<z.f2 then (t58.length:Int) else z.f2)).length) c72),(55,iv ((cutl t58 0 (if (t58.length:Int)<z.f2 then (t58.length:Int) else z.f2)).length:Int)),(56,iv x79)]→Sm W F w' F68 [box b95 #[iv x107,iv x108,iv x109] 302,box b4 #[iv z.f0,iv z.f1,iv z.f2] 279,box b2 #[iv y.f0,iv y.f1,iv y.f2] 302,row qX.k 302 (.slice A76 l78.length c77) l78]→qy.j110 kq111 y z t58 l78 x79 x107 x108 x109=some r→K98 a w':=by
   intro kq111 hkq G x107 x108 x109 a u114 E A S H
   obtain _ | k112:=kq111
   exact zz H
   rw [qy.j110_s]at H
   obtain ⟨J,E⟩:=E.at A
   refine hK98 _ _ (pl0 (plc E (.r 0 1<|.bn 1 0 3 (S.ba 0)<|.nil) (fun a E=>ple E (.lit (d:=qX.k) (e:=302) S [(⟨x107,x108,x109⟩:qX)] (.cons rfl .nil)) ?_)))
   rintro _ u115 a ⟨A116,c117,rfl,S,hg⟩ E
   obtain ⟨c119,H⟩:=gd H
   replace S:=S.front 4 rfl
   refine ple E (.ap (d:=qX.k) 24 S (qCX (S.row_at (i:=1) rfl)) c119 c117) ?_
   rintro _ u122 a ⟨A120,c121,rfl,S,hz⟩ E
   refine plc E (.r 4 1 .nil) (fun a E=>pld ?_)
   refine qCL ?_
   refine hK87 _ _ (pl0 (plc E (.r 0 2 .nil) (fun a E=>pld ?_)))
   replace S:=S.pm [3,4,0] 5
   exact qCM ⟨k112,by omega,_,A120,c121,(l78++[(⟨x107,x108,x109⟩:qX)]),(w64 (x79+1)),by omega,E,.of,S,H⟩
  refine rg E (.r 0 1<|.b 1 1 (S.ba 1)<|.nil) fun a E=>(wp_block (rr E fun a E=>(E.ik 65 H (fun c101 E H=>?_) fun c101 E H=>?_)))
  refine pl0 (plc E (.r 0 2 .nil) (fun a E=>pls E S [iv (nth 0 (cutl t58 0 (if (t58.length:Int)<z.f2 then (t58.length:Int) else z.f2)) x79),iv y.f1,iv y.f2] fun u102 hb95 S a E=>pld ?_))
  refine qCL ?_
  exact J113 _ (by omega) _ (nth 0 (cutl t58 0 (if (t58.length:Int)<z.f2 then (t58.length:Int) else z.f2)) x79) y.f1 y.f2 _ _ E .of S H
  refine rr E fun a E=>(E.ik 69 H (fun c104 E H=>?_) fun c104 E H=>?_)
  refine pl0 (plc E (.r 0 2 .nil) (fun a E=>pls E S [iv y.f0,iv (nth 0 (cutl t58 0 (if (t58.length:Int)<z.f2 then (t58.length:Int) else z.f2)) x79),iv y.f2] fun u105 hb95 S a E=>pld ?_))
  refine qCL ?_
  exact J113 _ (by omega) _ y.f0 (nth 0 (cutl t58 0 (if (t58.length:Int)<z.f2 then (t58.length:Int) else z.f2)) x79) y.f2 _ _ E .of S H
  refine pl0 (plc E (.r 0 2 .nil) (fun a E=>pls E S [iv y.f0,iv y.f1,iv (nth 0 (cutl t58 0 (if (t58.length:Int)<z.f2 then (t58.length:Int) else z.f2)) x79)] fun u106 hb95 S a E=>pld ?_))
  refine qCL ?_
  exact J113 _ (by omega) _ y.f0 y.f1 (nth 0 (cutl t58 0 (if (t58.length:Int)<z.f2 then (t58.length:Int) else z.f2)) x79) _ _ E .of S H
  refine wp_exit ?_
  refine hK66 _ _ (rr E fun a E=>(wp_ret ?_))
  replace S:=S.pm [] 2
  obtain rfl:=si H
  exact rt1 E ⟨_,rfl,_,_,_,rfl,S⟩
 refine rg E (.r 0 1<|.b 1 1 hb4<|.nil) fun a E=>(wp_block (rr E fun a E=>(E.ik 23 H (fun c10 E H=>?_) fun c10 E H=>?_)))
 refine pl0 (plc E (.r 0 1 .nil) (fun a E=>?_))
 obtain ⟨t12,h13,H⟩:=bd H
 refine ple E (.cl en298 (qBr.calls k x _ _ _ _ _ S.own.sub g0_0 h13)) ?_
 rintro _ u11 a ⟨F14,A15,c16,rfl,hC⟩ E
 have hs:=hC.sub
 replace S:=S.called (X:=[]) hC
 replace g0_0:=g0_0.mono hs
 refine plc E (.r 2 1 .nil) (fun a E=>pld ?_)
 refine qCL ?_
 replace S:=S.pm [1,2,0] 3
 exact J45 _ (by omega) _ A15 c16 t12 F14 _ _ E .of S H
 refine rr E fun a E=>(E.ik 27 H (fun c20 E H=>?_) fun c20 E H=>?_)
 refine pl0 (plc E (.r 0 2<|.b 2 0 (S.ba 1)<|.nil) (fun a E=>?_))
 obtain ⟨t22,h23,H⟩:=bd H
 refine ple E (.cl en299 (qBs.calls k x y.f0 _ _ _ _ _ S.own.sub g0_0 h23)) ?_
 rintro _ u21 a ⟨F24,A25,c26,rfl,hC⟩ E
 have hs:=hC.sub
 replace S:=S.called (X:=[]) hC
 replace g0_0:=g0_0.mono hs
 refine plc E (.r 4 1 .nil) (fun a E=>pld ?_)
 refine qCL ?_
 replace S:=S.pm [1,2,0] 3
 exact J45 _ (by omega) _ A25 c26 t22 F24 _ _ E .of S H
 refine pl0 ?_
 have hb2:=S.ba 1
 refine plc E (.r 0 2<|.b 2 0 hb2<|.r 3 1<|.b 4 1 hb2<|.nil) (fun a E=>?_)
 obtain ⟨t30,h31,H⟩:=bd H
 refine ple E (.cl en300 (qBk.calls k x y.f0 y.f1 _ _ _ _ _ S.own.sub g0_0 h31)) ?_
 rintro _ u29 a ⟨F32,A33,c34,rfl,hC⟩ E
 have hs:=hC.sub
 replace S:=S.called (X:=[]) hC
 replace g0_0:=g0_0.mono hs
 refine plc E (.r 6 1 .nil) (fun a E=>pld ?_)
 refine qCL ?_
 replace S:=S.pm [1,2,0] 3
 exact J45 _ (by omega) _ A33 c34 t30 F32 _ _ E .of S H
end Go.Proofs.YtpabbpebefdafaaGreat.CN
