import Derived.Test.YtpohepinmjmbkaaGreatQD5
namespace Go.Proofs.YtpohepinmjmbkaaGreat.QD
open Go Go.RowKit Go.Proofs.YtpohepinmjmbkaaGreat.Sl
set_option linter.unusedVariables false
set_option linter.unusedSimpArgs false
set_option maxHeartbeats 4000000
set_option maxRecDepth 100000
mutual
def qh.j45:Nat→qJ→Int→List qC→List Int→Bool→Option (qAF × Int)
 | 0,_,_,_,_,_=>none
 | k+1,x0_,x1_,x2_,t20,y44=>(qAk.f k x0_ x1_ x2_).bind fun t54=>(qh.l71 k x0_ x2_ t54 t20 0 y44 [])
def qh.l71:Nat→qJ→List qC→List qE→List Int→Int→Bool→List Int→Option (qAF × Int)
 | 0,_,_,_,_,_,_,_=>none
 | k+1,x0_,x2_,t54,l65,x66,y67,l70=>if x66<(t54.length:Int) then (if 0≤x66∧x66<(t54.length:Int) then (if ((l65.length:Int)+(((nth qE.z t54 x66).f1).length:Int)) * 8≤140737488355328 then ((qx.f k ((nth qE.z t54 x66).f1) x2_).bind fun t100=>(if t100=true then (qh.l71 k x0_ x2_ t54 (l65++(nth qE.z t54 x66).f1) (w64 (x66+1)) y67 l70) else ((qy.f k ((nth qE.z t54 x66).f1) x0_).bind fun t107=>(if t107=true then (qh.l71 k x0_ x2_ t54 (l65++(nth qE.z t54 x66).f1) (w64 (x66+1)) false l70) else (if ((l70.length:Int)+((1:Nat):Int)) * 8≤140737488355328 then (qh.l71 k x0_ x2_ t54 (l65++(nth qE.z t54 x66).f1) (w64 (x66+1)) false (l70++[(nth qE.z t54 x66).f0])) else (none)))))) else (none)) else (none)) else ((qAy.f l65).bind fun t122=>((qAo.f t122).bind fun t129=>(qh.l141 k x0_ x2_ y67 l70 t129 0 [])))
def qh.l141:Nat→qJ→List qC→Bool→List Int→List Int→Int→List Int→Option (qAF × Int)
 | 0,_,_,_,_,_,_,_=>none
 | k+1,x0_,x2_,y67,l70,t129,x137,l140=>if x137<(t129.length:Int) then (if 0≤x137∧x137<(t129.length:Int) then ((qAv.f k (nth 0 t129 x137) x2_).bind fun t158=>(if t158=true then ((qBn.f k x0_ (nth 0 t129 x137)).bind fun t162=>(qh.j165 k x0_ x2_ y67 l70 t129 x137 l140 t162)) else (qh.j165 k x0_ x2_ y67 l70 t129 x137 l140 false))) else (none)) else (if y67=true then ((qAq.f k x2_).bind fun t186=>(qh.j193 k y67 l70 l140 t186.1.f0)) else (qh.j193 k y67 l70 l140 0))
def qh.j165:Nat→qJ→List qC→Bool→List Int→List Int→Int→List Int→Bool→Option (qAF × Int)
 | 0,_,_,_,_,_,_,_,_=>none
 | k+1,x0_,x2_,y67,l70,t129,x137,l140,y164=>if y164=true then (if ((l140.length:Int)+((1:Nat):Int)) * 8≤140737488355328 then (qh.l141 k x0_ x2_ y67 l70 t129 (w64 (x137+1)) (l140++[(nth 0 t129 x137)])) else (none)) else (qh.l141 k x0_ x2_ y67 l70 t129 (w64 (x137+1)) l140)
def qh.j193:Nat→Bool→List Int→List Int→Int→Option (qAF × Int)
 | 0,_,_,_,_=>none
 | k+1,y67,l70,l140,x192=>some ((⟨y67,x192,l140,l70⟩:qAF),0)
end
theorem qh.j45_s k x0_ x1_ x2_ t20 y44:type_of% (qh.j45.eq_2 x0_ x1_ x2_ t20 y44 k):=qh.j45.eq_2 x0_ x1_ x2_ t20 y44 k
theorem qh.l71_s k x0_ x2_ t54 l65 x66 y67 l70:type_of% (qh.l71.eq_2 x0_ x2_ t54 l65 x66 y67 l70 k):=qh.l71.eq_2 x0_ x2_ t54 l65 x66 y67 l70 k
theorem qh.l141_s k x0_ x2_ y67 l70 t129 x137 l140:type_of% (qh.l141.eq_2 x0_ x2_ y67 l70 t129 x137 l140 k):=qh.l141.eq_2 x0_ x2_ y67 l70 t129 x137 l140 k
theorem qh.j165_s k x0_ x2_ y67 l70 t129 x137 l140 y164:type_of% (qh.j165.eq_2 x0_ x2_ y67 l70 t129 x137 l140 y164 k):=qh.j165.eq_2 x0_ x2_ y67 l70 t129 x137 l140 y164 k
theorem qh.j193_s k y67 l70 l140 x192:type_of% (qh.j193.eq_2 y67 l70 l140 x192 k):=qh.j193.eq_2 y67 l70 l140 x192 k
def qh.f(k:Nat)(x0_:qJ)(x1_:Int)(x2_:List qC):Option (qAF × Int):=(qBS.f k x0_ x1_ x2_).bind fun t11=>(if t11=true then ((qBj.f k x0_ x1_).bind fun t20=>(if (t20.length:Int)≥x0_.f2 then ((qw.f k t20 x2_).bind fun t35=>(qh.j45 k x0_ x1_ x2_ t20 (!t35))) else (qh.j45 k x0_ x1_ x2_ t20 false))) else (some ((⟨false,0,[],[]⟩:qAF),1)))
def qh.Post(W F:World)(r:qAF × Int)(v:Value)(w':World):Prop:=∃(F':World)(RA0_2:Option Addr)(rc0_2:Nat)(RA0_3:Option Addr)(rc0_3:Nat),v = .tuple #[.agg #[.bool r.1.f0,iv r.1.f1,.slice RA0_2 r.1.f2.length rc0_2,.slice RA0_3 r.1.f3.length rc0_3],iv r.2]∧St W (mine W []) F w' F' [row ki 3 (.slice RA0_2 r.1.f2.length rc0_2) r.1.f2,row ki 3 (.slice RA0_3 r.1.f3.length rc0_3) r.1.f3]
theorem qh.calls(k:Nat)(x0_:qJ)(x1_:Int)(x2_:List qC)(A0_4:Option Addr)(c0_4:Nat)(A0_5:Option Addr)(c0_5:Nat)(A0_6:Option Addr)(c0_6:Nat)(A2_0:Option Addr)(c2_0:Nat)(r:qAF × Int)(W F:World)(hown:Sub F W)(g0_4:Rd qA.k F A0_4 c0_4 x0_.f4)(g0_5:Rd qM.k F A0_5 c0_5 x0_.f5)(g0_6:Rd qF.k F A0_6 c0_6 x0_.f6)(g2_0:Rd qC.k F A2_0 c2_0 x2_)(H:qh.f k x0_ x1_ x2_=some r):
    Calls Tryz.prog 50 #[.agg #[iv x0_.f0,iv x0_.f1,iv x0_.f2,iv x0_.f3,.slice A0_4 x0_.f4.length c0_4,.slice A0_5 x0_.f5.length c0_5,.slice A0_6 x0_.f6.length c0_6],iv x1_,.slice A2_0 x2_.length c2_0] W fun e w'=>∃ v,e = .returned v∧qh.Post W F r v w':=by
 have hS:=St.start (Own.nil hown)
 unfold qh.f at H
 refine enter (n:=109) rfl rfl rfl (Nat.le_of_ble_eq_true rfl) (fun a hE=>?_)
 refine sq fun K1 hK1=>pl0 (ple hE (.bx (t:=26) hS [iv x0_.f0,iv x0_.f1,iv x0_.f2,iv x0_.f3,.slice A0_4 x0_.f4.length c0_4,.slice A0_5 x0_.f5.length c0_5,.slice A0_6 x0_.f6.length c0_6]) ?_)
 rintro _ u3 a ⟨b2,rfl,hb2,hS,hg⟩ hE
 refine ple hE (.bx (t:=72) hS [.slice A2_0 x2_.length c2_0]) ?_
 rintro _ u5 a ⟨b4,rfl,hb4,hS,hg⟩ hE
 refine ple hE (.al (t:=74) hS [.bool false,iv 0,.slice none 0 0,.slice none 0 0]) ?_
 rintro _ u7 a ⟨b6,rfl,hb6,hS,hg⟩ hE
 refine plc hE (.r 3 1 .nil) (fun a hE=>pld (hK1 _ _ (sq fun K8 hK8=>sq fun K9 hK9=>pl0 ?_)))
 have hb2:=hS.ba 2
 have hb4:=hS.ba 1
 refine plc hE (.bn 0 0 7 hb2<|.r 1 1<|.b 2 0 hb4<|.nil) (fun a hE=>?_)
 obtain ⟨t11,h12,H⟩:=bd H
 refine ple hE (.cl en103 (qBS.calls k x0_ x1_ x2_ _ _ _ _ _ _ _ _ _ _ _ hS.own.sub g0_4 g0_5 g0_6 g2_0 h12)) ?_
 rintro _ u10 a ⟨_,rfl,hC⟩ hE
 replace hS:=hS.lent hC
 refine plc hE (.r 4 1 .nil) (fun a hE=>pld (hK9 _ _ ?_))
 refine hE.ibn 23 H (fun c13 hE H=>?_) fun c13 hE H=>?_
 ·
  refine wp_skip (hK8 _ _ (sq fun K18 hK18=>pl0 ?_))
  have hb2:=hS.ba 2
  refine plc hE (.bn 0 0 7 hb2<|.r 1 1<|.nil) (fun a hE=>?_)
  obtain ⟨t20,h21,H⟩:=bd H
  refine ple hE (.cl en24 (qBj.calls k x0_ x1_ _ _ _ _ _ _ _ _ _ hS.own.sub g0_4 g0_5 g0_6 h21)) ?_
  rintro _ u19 a ⟨F22,A23,c24,rfl,hC⟩ hE
  have hs:=hC.sub
  replace hS:=hS.called (X:=[]) hC
  replace g0_4:=g0_4.mono hs
  replace g0_5:=g0_5.mono hs
  replace g0_6:=g0_6.mono hs
  replace g2_0:=g2_0.mono hs
  refine plc hE (.r 3 1 .nil) (fun a hE=>pld (hK18 _ _ (sq fun K27 hK27=>pl0 (plc hE (.r 0 1 .nil) (fun a hE=>ple hE (.al (t:=129) hS [.nilFunc]) ?_)))))
  rintro _ u29 a ⟨b28,rfl,hb28,hS,hg⟩ hE
  refine ple hE (.sto hS [.func (.func 104) #[] #[.pointer (pb b4)]]) ?_
  rintro _ u30 a ⟨rfl,hb28,hS,hz⟩ hE
  refine pld (hK27 _ _ (rr hE fun a hE=>(sq fun K32 hK32=>?_)))
  have J48:∀ kq46,kq46≤k→∀(G:Nat→Value)(b43:Nat)(y44:Bool)(a:Act)(w':World),Env 109 G a→At G [(1,iv x1_),(3,.pointer (pb b2)),(5,.pointer (pb b4)),(6,.pointer (pb b6)),(8,.slice A23 t20.length c24),(9,.pointer (pb b28)),(10,.func (.func 106) #[] #[.pointer (pb b28)]),(11,.pointer (pb b43))]→St W (mine W []) F w' F22 [box b28 #[.func (.func 104) #[] #[.pointer (pb b4)]] 129,box b6 #[.bool false,iv 0,.slice none 0 0,.slice none 0 0] 74,box b4 #[.slice A2_0 x2_.length c2_0] 72,box b2 #[iv x0_.f0,iv x0_.f1,iv x0_.f2,iv x0_.f3,.slice A0_4 x0_.f4.length c0_4,.slice A0_5 x0_.f5.length c0_5,.slice A0_6 x0_.f6.length c0_6] 26,box b43 #[.bool y44,iv 0,.slice none 0 0,.slice none 0 0] 74,row ki 3 (.slice A23 t20.length c24) t20]→qh.j45 kq46 x0_ x1_ x2_ t20 y44=some r→K32 a w':=by
   intro kq46 hkq G b43 y44 a u49 hE hA hS H
   obtain _ | k47:=kq46
   ·
    exact zz H
   rw [qh.j45_s]at H
   obtain ⟨J,hE⟩:=hE.at hA
   refine hK32 _ _ (rr hE fun a hE=>(sq fun K51 hK51=>sq fun K52 hK52=>pl0 ?_))
   have hb2:=hS.ba 3
   have hb4:=hS.ba 2
   refine plc hE (.bn 0 0 7 hb2<|.r 1 1<|.b 2 0 hb4<|.nil) (fun a hE=>?_)
   obtain ⟨t54,h55,H⟩:=bd H
   refine ple hE (.cl en51 (qAk.calls k47 x0_ x1_ x2_ _ _ _ _ _ _ _ _ _ _ _ hS.own.sub g0_4 g0_5 g0_6 g2_0 h55)) ?_
   rintro _ u53 a ⟨F56,A57,c58,rfl,hC⟩ hE
   have hs:=hC.sub
   replace hS:=hS.called (X:=[]) hC
   replace g0_4:=g0_4.mono hs
   replace g0_5:=g0_5.mono hs
   replace g0_6:=g0_6.mono hs
   replace g2_0:=g2_0.mono hs
   refine plc hE (.r 4 2 .nil) (fun a hE=>pld (hK52 _ _ (wp_block ?_)))
   replace hS:=hS.nilrow ki 3
   replace hS:=hS.pm [2,3,4,5,6,1,7,0] 8
   refine wp_loop_ghost (fun kq72 a w'=>∃(G:Nat→Value)(A63:Option Addr)(c64:Nat)(l65:List Int)(x66:Int)(y67:Bool)(A68:Option Addr)(c69:Nat)(l70:List Int),kq72≤k47∧Env 109 G a∧At G [(3,.pointer (pb b2)),(5,.pointer (pb b4)),(6,.pointer (pb b6)),(9,.pointer (pb b28)),(10,.func (.func 106) #[] #[.pointer (pb b28)]),(11,.pointer (pb b43)),(12,.slice A63 l65.length c64),(46,.slice A57 t54.length c58),(47,iv (t54.length:Int)),(48,iv x66)]∧St W (mine W []) F w' F56 [box b28 #[.func (.func 104) #[] #[.pointer (pb b4)]] 129,box b6 #[.bool false,iv 0,.slice none 0 0,.slice none 0 0] 74,box b4 #[.slice A2_0 x2_.length c2_0] 72,box b2 #[iv x0_.f0,iv x0_.f1,iv x0_.f2,iv x0_.f3,.slice A0_4 x0_.f4.length c0_4,.slice A0_5 x0_.f5.length c0_5,.slice A0_6 x0_.f6.length c0_6] 26,box b43 #[.bool y67,iv 0,.slice none 0 0,.slice A68 l70.length c69] 74,row qE.k 51 (.slice A57 t54.length c58) t54,row ki 3 (.slice A63 l65.length c64) l65,row ki 3 (.slice A68 l70.length c69) l70]∧qh.l71 kq72 x0_ x2_ t54 l65 x66 y67 l70=some r) k47 ⟨_,A23,c24,t20,0,y44,none,0,[],Nat.le_refl _,hE,.of,hS,H⟩ ?_
   rintro kq72 a u74 ⟨G,A63,c64,l65,x66,y67,A68,c69,l70,hkq,hE,hA,hS,H⟩
   obtain _ | k73:=kq72
   ·
    exact zz H
   rw [qh.l71_s]at H
   obtain ⟨J,hE⟩:=hE.at hA
   refine rr hE fun a hE=>(sq fun K76 hK76=>?_)
   refine hE.ik 49 H (fun c77 hE H=>?_) fun c77 hE H=>?_
   ·
    refine wp_skip (hK76 _ _ (sq fun K78 hK78=>wp_block (sq fun K79 hK79=>pl0 ?_)))
    obtain ⟨c80,H⟩:=gd H
    have hr81:=hS.ra 5
    have hE_:=hE
    obtain ⟨b82,rfl⟩:=qCK hr81 c80.1 c80.2
    replace hE:=hE_
    have hr_:=hS.ra 5
    obtain ⟨cs84,⟨A86,c87,rfl,g88⟩,hc85⟩:=qCI hr_ qE.z x66 c80.1 c80.2
    refine plc hE (.x 0 c80<|.cs 1 hc85<|.nil) (fun a hE=>ple hE (.al (t:=51) hS [iv 0,.slice none 0 0]) ?_)
    rintro _ u90 a ⟨b89,rfl,hb89,hS,hg⟩ hE
    refine ple hE (.sto hS [iv ((nth qE.z t54 x66).f0),.slice A86 (((nth qE.z t54 x66).f1).length) c87]) ?_
    rintro _ u91 a ⟨rfl,hb89,hS,hz⟩ hE
    refine pld (hK79 _ _ (sq fun K92 hK92=>pl0 (plc hE (.r 0 2<|.b 2 1 hb89<|.nil) (fun a hE=>?_))))
    obtain ⟨c93,H⟩:=gd H
    replace hS:=hS.front 7 rfl
    refine ple hE (.ap (d:=ki) 8 hS (g88.src hS.own.sub) c93 c87) ?_
    rintro _ u96 a ⟨A94,c95,rfl,hS,hz⟩ hE
    refine plc hE (.r 4 1 .nil) (fun a hE=>pld (hK92 _ _ (sq fun K97 hK97=>sq fun K98 hK98=>pl0 ?_)))
    have hb89:=hS.ba 1
    have hb28:=hS.ba 2
    refine plc hE (.r 0 1<|.b 1 1 hb89<|.b 2 0 hb28<|.nil) (fun a hE=>?_)
    obtain ⟨t100,h101,H⟩:=bd H
    refine ple hE (.cl en107 (qx.calls k73 ((nth qE.z t54 x66).f1) x2_ _ _ _ _ _ _ _ _ (Sub.refl _) (g88.mono hS.own.sub) (g2_0.mono hS.own.sub) (hS.ba 4) h101)) ?_
    rintro _ u99 a ⟨_,rfl,hC⟩ hE
    replace hS:=hS.lent hC
    refine pld (hK98 _ _ ?_)
    refine hE.ib 59 H (fun c102 hE H=>?_) fun c102 hE H=>?_
    ·
     refine wp_exit ?_
     refine hK78 _ _ (pl0 (plc hE (.r 0 2 .nil) (fun a hE=>pld ?_)))
     replace hS:=hS.pm [2,3,4,5,6,7,0] 8
     exact qCG ⟨k73,by omega,_,A94,c95,(l65++(nth qE.z t54 x66).f1),(w64 (x66+1)),y67,A68,c69,l70,by omega,hE,.of,hS,H⟩
    refine wp_skip (hK97 _ _ (sq fun K103 hK103=>pl0 (plc hE (.r 0 1 .nil) (fun a hE=>?_))))
    replace hS:=hS.front 6 rfl
    refine ple hE (.sto hS [.bool false,iv 0,.slice none 0 0,.slice A68 l70.length c69]) ?_
    rintro _ u104 a ⟨rfl,hb43,hS,hz⟩ hE
    refine pld (hK103 _ _ (sq fun K105 hK105=>pl0 ?_))
    have hb89:=hS.ba 2
    refine plc hE (.r 0 1<|.b 1 1 hb89<|.r 2 1<|.nil) (fun a hE=>?_)
    obtain ⟨t107,h108,H⟩:=bd H
    refine ple hE (.cl en107 (qy.calls k73 ((nth qE.z t54 x66).f1) x0_ _ _ _ _ _ _ _ _ _ _ _ _ (Sub.refl _) (g88.mono hS.own.sub) (g0_4.mono hS.own.sub) (g0_5.mono hS.own.sub) (g0_6.mono hS.own.sub) (hS.ba 6) h108)) ?_
    rintro _ u106 a ⟨_,rfl,hC⟩ hE
    replace hS:=hS.lent hC
    refine plc hE (.r 4 1 .nil) (fun a hE=>pld (hK105 _ _ ?_))
    refine hE.ibn 65 H (fun c109 hE H=>?_) fun c109 hE H=>?_
    ·
     refine wp_skip ?_
     refine qCF ?_
     refine hK78 _ _ (pl0 (plc hE (.r 0 2 .nil) (fun a hE=>pld ?_)))
     replace hS:=hS.pm [3,4,5,6,0,7,1] 8
     exact qCG ⟨k73,by omega,_,A94,c95,(l65++(nth qE.z t54 x66).f1),(w64 (x66+1)),false,A68,c69,l70,by omega,hE,.of,hS,H⟩
    refine pl0 ?_
    have hb43:=hS.ba 0
    have hb89:=hS.ba 2
    refine plc hE (.r 0 1<|.b 1 3 hb43<|.r 2 1<|.b 3 0 hb89<|.nil) (fun a hE=>ple hE (.lit (d:=ki) (e:=3) hS [(nth qE.z t54 x66).f0] (.cons rfl .nil)) ?_)
    rintro _ u110 a ⟨A111,c112,rfl,hS,hg⟩ hE
    obtain ⟨c114,H⟩:=gd H
    replace hS:=hS.front 9 rfl
    refine ple hE (.ap (d:=ki) 8 hS (qCO (hS.row_at (i:=1) rfl)) c114 c112) ?_
    rintro _ u117 a ⟨A115,c116,rfl,hS,hz⟩ hE
    refine plc hE (.r 6 1 .nil) (fun a hE=>?_)
    replace hS:=hS.front 2 rfl
    refine ple hE (.sto hS [.bool false,iv 0,.slice none 0 0,.slice A115 ((l70++[(nth qE.z t54 x66).f0]).length) c116]) ?_
    rintro _ u118 a ⟨rfl,hb43,hS,hz⟩ hE
    refine pld ?_
    refine qCF ?_
    refine hK78 _ _ (pl0 (plc hE (.r 0 2 .nil) (fun a hE=>pld ?_)))
    replace hS:=hS.pm [5,6,7,8,0,9,3,1] 10
    exact qCG ⟨k73,by omega,_,A94,c95,(l65++(nth qE.z t54 x66).f1),(w64 (x66+1)),false,A115,c116,(l70++[(nth qE.z t54 x66).f0]),by omega,hE,.of,hS,H⟩
   refine wp_exit ?_
   refine hK51 _ _ (sq fun K120 hK120=>pl0 (plc hE (.r 0 1 .nil) (fun a hE=>?_)))
   replace hS:=hS.front 6 rfl
   obtain ⟨t122,h123,H⟩:=bd H
   refine ple hE (.cl en110 (qAy.calls l65 _ _ _ _ _ (Own.left (X:=[row ki 3 (.slice A63 l65.length c64) l65]) hS.own) h123)) ?_
   rintro _ u121 a ⟨F124,rfl,hC⟩ hE
   have hs:=hC.sub
   replace hS:=hS.called (X:=[row ki 3 (.slice A63 l65.length c64) l65]) hC
   replace g2_0:=g2_0.mono hs
   replace g0_4:=g0_4.mono hs
   replace g0_5:=g0_5.mono hs
   replace g0_6:=g0_6.mono hs
   refine pld (hK120 _ _ (sq fun K125 hK125=>sq fun K126 hK126=>pl0 (plc hE (.r 0 1 .nil) (fun a hE=>?_))))
   have hn127:=(qCH (hS.row_at (i:=0) rfl)).1
   replace hE:=hE.set (d:=12) (v:=.slice A63 t122.length c64) (Eq.trans (b:=.slice A63 l65.length c64) (by kernel_rfl) (by rw [← hn127]))
   replace hE:=hE.set (d:=74) (v:=.slice A63 t122.length c64) (Eq.trans (b:=.slice A63 l65.length c64) (by kernel_rfl) (by rw [← hn127]))
   replace hE:=hE.set (d:=76) (v:=.slice A63 t122.length c64) (Eq.trans (b:=.slice A63 l65.length c64) (by kernel_rfl) (by rw [← hn127]))
   replace hS:St W (mine W []) F u121 F124 [row ki 3 (.slice A63 t122.length c64) t122,box b28 #[.func (.func 104) #[] #[.pointer (pb b4)]] 129,box b6 #[.bool false,iv 0,.slice none 0 0,.slice none 0 0] 74,box b4 #[.slice A2_0 x2_.length c2_0] 72,box b2 #[iv x0_.f0,iv x0_.f1,iv x0_.f2,iv x0_.f3,.slice A0_4 x0_.f4.length c0_4,.slice A0_5 x0_.f5.length c0_5,.slice A0_6 x0_.f6.length c0_6] 26,box b43 #[.bool y67,iv 0,.slice none 0 0,.slice A68 l70.length c69] 74,row qE.k 51 (.slice A57 t54.length c58) t54,row ki 3 (.slice A68 l70.length c69) l70]:=by rw [← hn127]; exact hS
   obtain ⟨t129,h130,H⟩:=bd H
   refine ple hE (.cl en111 (qAo.calls t122 _ _ _ _ _ (Own.left (X:=[row ki 3 (.slice A63 t122.length c64) t122]) hS.own) h130)) ?_
   rintro _ u128 a ⟨F131,A132,c133,rfl,hC⟩ hE
   have hs:=hC.sub
   replace hS:=hS.called (X:=[row ki 3 (.slice A63 t122.length c64) t122]) hC
   replace g2_0:=g2_0.mono hs
   replace g0_4:=g0_4.mono hs
   replace g0_5:=g0_5.mono hs
   replace g0_6:=g0_6.mono hs
   refine plc hE (.r 2 2 .nil) (fun a hE=>pld (hK126 _ _ (wp_block ?_)))
   replace hS:=hS.nilrow ki 3
   replace hS:=hS.pm [2,3,4,5,6,1,8,0] 9
   refine wp_loop_ghost (fun kq142 a w'=>∃(G:Nat→Value)(x137:Int)(A138:Option Addr)(c139:Nat)(l140:List Int),kq142≤k73∧Env 109 G a∧At G [(3,.pointer (pb b2)),(5,.pointer (pb b4)),(6,.pointer (pb b6)),(10,.func (.func 106) #[] #[.pointer (pb b28)]),(11,.pointer (pb b43)),(77,.slice A132 t129.length c133),(78,iv (t129.length:Int)),(79,iv x137)]∧St W (mine W []) F w' F131 [box b28 #[.func (.func 104) #[] #[.pointer (pb b4)]] 129,box b6 #[.bool false,iv 0,.slice none 0 0,.slice none 0 0] 74,box b4 #[.slice A2_0 x2_.length c2_0] 72,box b2 #[iv x0_.f0,iv x0_.f1,iv x0_.f2,iv x0_.f3,.slice A0_4 x0_.f4.length c0_4,.slice A0_5 x0_.f5.length c0_5,.slice A0_6 x0_.f6.length c0_6] 26,box b43 #[.bool y67,iv 0,.slice A138 l140.length c139,.slice A68 l70.length c69] 74,row ki 3 (.slice A132 t129.length c133) t129,row ki 3 (.slice A68 l70.length c69) l70,row ki 3 (.slice A138 l140.length c139) l140]∧qh.l141 kq142 x0_ x2_ y67 l70 t129 x137 l140=some r) k73 ⟨_,0,none,0,[],Nat.le_refl _,hE,.of,hS,H⟩ ?_
   rintro kq142 a u144 ⟨G,x137,A138,c139,l140,hkq,hE,hA,hS,H⟩
   obtain _ | k143:=kq142
   ·
    exact zz H
   rw [qh.l141_s]at H
   obtain ⟨J,hE⟩:=hE.at hA
   refine rr hE fun a hE=>(sq fun K146 hK146=>?_)
   refine hE.ik 80 H (fun c147 hE H=>?_) fun c147 hE H=>?_
   ·
    refine wp_skip (hK146 _ _ (sq fun K148 hK148=>wp_block (sq fun K149 hK149=>pl0 ?_)))
    obtain ⟨c150,H⟩:=gd H
    have hr151:=hS.ra 5
    have hE_:=hE
    obtain ⟨b152,rfl⟩:=qCK hr151 c150.1 c150.2
    replace hE:=hE_
    have hr_:=hS.ra 5
    obtain ⟨cs154,rfl,hc155⟩:=qCI hr_ 0 x137 c150.1 c150.2
    refine plc hE (.x 0 c150<|.c 1 (hc155 0 _ rfl)<|.r 2 1<|.nil) (fun a hE=>pld (hK149 _ _ (sq fun K156 hK156=>?_)))
    have J168:∀ kq166,kq166≤k143→∀(G:Nat→Value)(y164:Bool)(a:Act)(w':World),Env 109 G a→At G [(3,.pointer (pb b2)),(5,.pointer (pb b4)),(6,.pointer (pb b6)),(10,.func (.func 106) #[] #[.pointer (pb b28)]),(11,.pointer (pb b43)),(16,iv (nth 0 t129 x137)),(77,.slice (pb b152) t129.length c133),(78,iv (t129.length:Int)),(79,iv x137),(90,.bool y164)]→St W (mine W []) F w' F131 [box b28 #[.func (.func 104) #[] #[.pointer (pb b4)]] 129,box b6 #[.bool false,iv 0,.slice none 0 0,.slice none 0 0] 74,box b4 #[.slice A2_0 x2_.length c2_0] 72,box b2 #[iv x0_.f0,iv x0_.f1,iv x0_.f2,iv x0_.f3,.slice A0_4 x0_.f4.length c0_4,.slice A0_5 x0_.f5.length c0_5,.slice A0_6 x0_.f6.length c0_6] 26,box b43 #[.bool y67,iv 0,.slice A138 l140.length c139,.slice A68 l70.length c69] 74,row ki 3 (.slice (pb b152) t129.length c133) t129,row ki 3 (.slice A68 l70.length c69) l70,row ki 3 (.slice A138 l140.length c139) l140]→qh.j165 kq166 x0_ x2_ y67 l70 t129 x137 l140 y164=some r→K156 a w':=by
     intro kq166 hkq G y164 a u169 hE hA hS H
     obtain _ | k167:=kq166
     ·
      exact zz H
     rw [qh.j165_s]at H
     obtain ⟨J,hE⟩:=hE.at hA
     refine hK156 _ _ ?_
     refine hE.ib 90 H (fun c170 hE H=>?_) fun c170 hE H=>?_
     ·
      refine pl0 ?_
      have hb43:=hS.ba 4
      refine plc hE (.r 0 1<|.b 1 2 hb43<|.r 2 1<|.nil) (fun a hE=>ple hE (.lit (d:=ki) (e:=3) hS [(nth 0 t129 x137)] (.cons rfl .nil)) ?_)
      rintro _ u171 a ⟨A172,c173,rfl,hS,hg⟩ hE
      obtain ⟨c175,H⟩:=gd H
      replace hS:=hS.front 8 rfl
      refine ple hE (.ap (d:=ki) 8 hS (qCO (hS.row_at (i:=1) rfl)) c175 c173) ?_
      rintro _ u178 a ⟨A176,c177,rfl,hS,hz⟩ hE
      refine plc hE (.r 5 1 .nil) (fun a hE=>?_)
      replace hS:=hS.front 6 rfl
      refine ple hE (.sto hS [.bool y67,iv 0,.slice A176 ((l140++[(nth 0 t129 x137)]).length) c177,.slice A68 l70.length c69]) ?_
      rintro _ u179 a ⟨rfl,hb43,hS,hz⟩ hE
      refine pld ?_
      refine qCF ?_
      refine hK148 _ _ (pl0 (plc hE (.r 0 2 .nil) (fun a hE=>pld ?_)))
      replace hS:=hS.pm [3,4,5,6,0,7,8,1] 9
      exact qCG ⟨k167,by omega,_,(w64 (x137+1)),A176,c177,(l140++[(nth 0 t129 x137)]),by omega,hE,.of,hS,H⟩
     refine wp_skip ?_
     refine qCF ?_
     refine hK148 _ _ (pl0 (plc hE (.r 0 2 .nil) (fun a hE=>pld ?_)))
     exact qCG ⟨k167,by omega,_,(w64 (x137+1)),A138,c139,l140,by omega,hE,.of,hS,H⟩
    refine pl0 (plc hE (.r 0 2 .nil) (fun a hE=>?_))
    obtain ⟨t158,h159,H⟩:=bd H
    refine ple hE (.cl en106 (qAv.calls k143 (nth 0 t129 x137) x2_ _ _ _ _ _ _ _ (Sub.refl _) (g2_0.mono hS.own.sub) (hS.ba 2) (hS.ba 0) h159)) ?_
    rintro _ u157 a ⟨_,rfl,hC⟩ hE
    replace hS:=hS.lent hC
    refine plc hE (.r 3 1 .nil) (fun a hE=>?_)
    rcases sp H with ⟨c160,H⟩ | ⟨c160,H⟩
    ·
     replace hE:=hE.bt 86 c160
     have hb2:=hS.ba 3
     refine plc hE (.bn 4 0 7 hb2<|.r 5 1<|.nil) (fun a hE=>?_)
     obtain ⟨t162,h163,H⟩:=bd H
     refine ple hE (.cl en109 (qBn.calls k143 x0_ (nth 0 t129 x137) _ _ _ _ _ _ _ _ _ hS.own.sub g0_4 g0_5 g0_6 h163)) ?_
     rintro _ u161 a ⟨_,rfl,hC⟩ hE
     replace hS:=hS.lent hC
     refine plc hE (.r 7 1 .nil) (fun a hE=>pld ?_)
     exact J168 _ (by omega) _ t162 _ _ hE .of hS H
    replace hE:=hE.bf 86 c160
    refine plc hE (.r 4 4 .nil) (fun a hE=>pld ?_)
    exact J168 _ (by omega) _ false _ _ hE .of hS H
   refine wp_exit ?_
   refine hK125 _ _ (sq fun K181 hK181=>?_)
   have J196:∀ kq194,kq194≤k143→∀(G:Nat→Value)(x192:Int)(a:Act)(w':World),Env 109 G a→At G [(6,.pointer (pb b6)),(11,.pointer (pb b43))]→St W (mine W []) F w' F131 [box b43 #[.bool y67,iv x192,.slice A138 l140.length c139,.slice A68 l70.length c69] 74,box b28 #[.func (.func 104) #[] #[.pointer (pb b4)]] 129,box b6 #[.bool false,iv 0,.slice none 0 0,.slice none 0 0] 74,box b4 #[.slice A2_0 x2_.length c2_0] 72,box b2 #[iv x0_.f0,iv x0_.f1,iv x0_.f2,iv x0_.f3,.slice A0_4 x0_.f4.length c0_4,.slice A0_5 x0_.f5.length c0_5,.slice A0_6 x0_.f6.length c0_6] 26,row ki 3 (.slice A68 l70.length c69) l70,row ki 3 (.slice A138 l140.length c139) l140]→qh.j193 kq194 y67 l70 l140 x192=some r→K181 a w':=by
    intro kq194 hkq G x192 a u197 hE hA hS H
    obtain _ | k195:=kq194
    ·
     exact zz H
    rw [qh.j193_s]at H
    obtain ⟨J,hE⟩:=hE.at hA
    refine hK181 _ _ (sq fun K198 hK198=>pl0 ?_)
    have hb43:=hS.ba 0
    refine plc hE (.bn 0 0 4 hb43 .nil) (fun a hE=>?_)
    replace hS:=hS.front 2 rfl
    refine ple hE (.sto hS [.bool y67,iv x192,.slice A138 l140.length c139,.slice A68 l70.length c69]) ?_
    rintro _ u199 a ⟨rfl,hb6,hS,hz⟩ hE
    refine plc hE (.r 2 1 .nil) (fun a hE=>pld (hK198 _ _ (wp_ret ?_)))
    replace hS:=hS.pm [6,5] 7
    obtain rfl:=si H
    exact retN hE rfl (of_decide_eq_true rfl) (.cell (by kernel_rfl) (qCJ [.bool y67,iv x192,.slice A138 l140.length c139,.slice A68 l70.length c69] ag74 sz74 hb6 rfl) (.tmp (by kernel_rfl) .nil)) ⟨_,rfl,_,_,_,_,_,rfl,hS⟩
   refine sq fun K182 hK182=>pl0 ?_
   have hb43:=hS.ba 4
   refine plc hE (.r 0 1<|.b 1 0 hb43<|.nil) (fun a hE=>pld (hK182 _ _ ?_))
   refine hE.ib 99 H (fun c183 hE H=>?_) fun c183 hE H=>?_
   ·
    refine sq fun K184 hK184=>pl0 ?_
    have hb4:=hS.ba 2
    refine plc hE (.b 0 0 hb4 .nil) (fun a hE=>?_)
    obtain ⟨t186,h187,H⟩:=bd H
    refine ple hE (.cl en57 (qAq.calls k143 x2_ _ _ _ _ _ hS.own.sub g2_0 h187)) ?_
    rintro _ u185 a ⟨_,rfl,hC⟩ hE
    replace hS:=hS.lent hC
    refine plc hE (.r 2 3 .nil) (fun a hE=>ple hE (.al (t:=86) hS [iv 0,iv 0,iv 0,iv 0,iv 0]) ?_)
    rintro _ u189 a ⟨b188,rfl,hb188,hS,hg⟩ hE
    refine ple hE (.sto hS [iv t186.1.f0,iv t186.1.f1,iv t186.1.f2,iv t186.1.f3,iv t186.1.f4]) ?_
    rintro _ u190 a ⟨rfl,hb188,hS,hz⟩ hE
    refine plc hE (.r 7 1 .nil) (fun a hE=>pld (hK184 _ _ (pl0 (plc hE (.r 0 1<|.b 1 0 hb188<|.r 2 1<|.nil) (fun a hE=>?_)))))
    replace hS:=hS.front 5 rfl
    refine ple hE (.sto hS [.bool y67,iv t186.1.f0,.slice A138 l140.length c139,.slice A68 l70.length c69]) ?_
    rintro _ u191 a ⟨rfl,hb43,hS,hz⟩ hE
    refine pld ?_
    replace hS:=hS.pm [0,2,3,4,5] 7
    exact J196 _ (by omega) _ t186.1.f0 _ _ hE .of hS H
   refine wp_skip ?_
   replace hS:=hS.pm [4,0,1,2,3] 6
   exact J196 _ (by omega) _ 0 _ _ hE .of hS H
  refine pl0 ?_
  have hb2:=hS.ba 4
  refine plc hE (.r 0 3<|.b 3 2 hb2<|.r 4 2<|.nil) (fun a hE=>?_)
  rcases sp H with ⟨c33,H⟩ | ⟨c33,H⟩
  ·
   replace hE:=hE.kt 35 c33
   refine plc hE (.r 6 2 .nil) (fun a hE=>?_)
   obtain ⟨t35,h36,H⟩:=bd H
   refine ple hE (.cl en107 (qw.calls k t20 x2_ _ _ _ _ _ _ _ _ _ (Sub.refl _) (hS.rd_at (i:=1) rfl) (g2_0.mono hS.own.sub) (hS.ba 3) (hS.ba 0) h36)) ?_
   rintro _ u34 a ⟨_,rfl,hC⟩ hE
   replace hS:=hS.lent hC
   refine plc hE (.r 9 3 .nil) (fun a hE=>ple hE (.al (t:=74) hS [.bool false,iv 0,.slice none 0 0,.slice none 0 0]) ?_)
   rintro _ u38 a ⟨b37,rfl,hb37,hS,hg⟩ hE
   refine ple hE (.sto hS [.bool (!t35),iv 0,.slice none 0 0,.slice none 0 0]) ?_
   rintro _ u39 a ⟨rfl,hb37,hS,hz⟩ hE
   refine pld ?_
   replace hS:=hS.pm [1,3,4,5,0,2] 6
   exact J48 _ (by omega) _ b37 (!t35) _ _ hE .of hS H
  replace hE:=hE.kf 35 c33
  refine plc hE (.r 6 6 .nil) (fun a hE=>ple hE (.al (t:=74) hS [.bool false,iv 0,.slice none 0 0,.slice none 0 0]) ?_)
  rintro _ u41 a ⟨b40,rfl,hb40,hS,hg⟩ hE
  refine ple hE (.sto hS [.bool false,iv 0,.slice none 0 0,.slice none 0 0]) ?_
  rintro _ u42 a ⟨rfl,hb40,hS,hz⟩ hE
  refine pld ?_
  replace hS:=hS.pm [1,3,4,5,0,2] 6
  exact J48 _ (by omega) _ b40 false _ _ hE .of hS H
 refine sq fun K14 hK14=>pl0 (plc hE (.r 0 1 .nil) (fun a hE=>ple hE (.sto hS [.bool false,iv 0,.slice none 0 0,.slice none 0 0]) ?_))
 rintro _ u15 a ⟨rfl,hb6,hS,hz⟩ hE
 refine plc hE (.r 2 1 .nil) (fun a hE=>pld (hK14 _ _ (wp_ret (qCD ?_))))
 replace hS:=hS.nilrow ki 3
 replace hS:=hS.nilrow ki 3
 replace hS:=hS.pm [1,0] 5
 obtain rfl:=si H
 exact retN hE rfl (of_decide_eq_true rfl) (.cell (by kernel_rfl) (qCJ [.bool false,iv 0,.slice none 0 0,.slice none 0 0] ag74 sz74 hb6 rfl) (.tmp (by kernel_rfl) .nil)) ⟨_,rfl,_,_,_,_,_,rfl,hS⟩
def qz.l9:Nat→List Int→List Int→Int→Option Bool
 | 0,_,_,_=>none
 | k+1,x0_,x1_,x8=>if x8<(x0_.length:Int) then (if 0≤x8∧x8<(x0_.length:Int) then (if 0≤x8∧x8<(x1_.length:Int) then (if (nth 0 x0_ x8)=(nth 0 x1_ x8) then (qz.l9 k x0_ x1_ (w64 (x8+1))) else (some false)) else (none)) else (none)) else (some true)
theorem qz.l9_s k x0_ x1_ x8:type_of% (qz.l9.eq_2 x0_ x1_ x8 k):=qz.l9.eq_2 x0_ x1_ x8 k
def qz.f(k:Nat)(x0_:List Int)(x1_:List Int):Option Bool:=if (x0_.length:Int)=(x1_.length:Int) then (qz.l9 k x0_ x1_ 0) else (some false)
def qz.Post(W F:World)(r:Bool)(v:Value)(w':World):Prop:=∃(F':World),v = .bool r∧St W (mine W []) F w' F' []
theorem qz.calls(k:Nat)(x0_:List Int)(x1_:List Int)(A0_0:Option Addr)(c0_0:Nat)(A1_0:Option Addr)(c1_0:Nat)(r:Bool)(W F:World)(hown:Sub F W)(g0_0:Rd ki F A0_0 c0_0 x0_)(g1_0:Rd ki F A1_0 c1_0 x1_)(H:qz.f k x0_ x1_=some r):
    Calls Tryz.prog 21 #[.slice A0_0 x0_.length c0_0,.slice A1_0 x1_.length c1_0] W fun e w'=>∃ v,e = .returned v∧qz.Post W F r v w':=by
 have hS:=St.start (Own.nil hown)
 unfold qz.f at H
 refine enter (n:=26) rfl rfl rfl (Nat.le_of_ble_eq_true rfl) (fun a hE=>?_)
 refine rr hE fun a hE=>(sq fun K2 hK2=>rr hE fun a hE=>?_)
 refine hE.ikn 10 H (fun c4 hE H=>?_) fun c4 hE H=>?_
 ·
  refine wp_skip (hK2 _ _ (sq fun K6 hK6=>rr hE fun a hE=>(wp_block ?_)))
  refine wp_loop_ghost (fun kq10 a w'=>∃(G:Nat→Value)(x8:Int),kq10≤k∧Env 26 G a∧At G [(0,.slice A0_0 x0_.length c0_0),(1,.slice A1_0 x1_.length c1_0),(5,iv x8)]∧St W (mine W []) F w' F []∧qz.l9 kq10 x0_ x1_ x8=some r) k ⟨_,0,Nat.le_refl _,hE,.of,hS,H⟩ ?_
  rintro kq10 a u12 ⟨G,x8,hkq,hE,hA,hS,H⟩
  obtain _ | k11:=kq10
  ·
   exact zz H
  rw [qz.l9_s]at H
  obtain ⟨J,hE⟩:=hE.at hA
  refine sq fun K13 hK13=>rr hE fun a hE=>?_
  refine hE.ik 14 H (fun c15 hE H=>?_) fun c15 hE H=>?_
  ·
   refine wp_skip (hK13 _ _ (sq fun K16 hK16=>wp_block (sq fun K17 hK17=>?_)))
   refine drawn 9 ⟨[],[],fun q=>False⟩ mixed rfl (by kernel_rfl) (fun hst=>?_)
   replace hS:=hS.drew
   obtain ⟨c18,H⟩:=gd H
   have hE_:=hE
   obtain ⟨ad19,rfl⟩:=g0_0.addr c18.1 c18.2
   replace hE:=hE_
   obtain ⟨cs21,rfl,hc22⟩:=g0_0.el 0 x8 c18.1 c18.2
   obtain ⟨c23,H⟩:=gd H
   have hE_:=hE
   obtain ⟨ad24,rfl⟩:=g1_0.addr c23.1 c23.2
   replace hE:=hE_
   obtain ⟨cs26,rfl,hc27⟩:=g1_0.el 0 x8 c23.1 c23.2
   refine mny 0 hst hE (.r 0 2<|.x 2 c18<|.c 3 (hS.fc hc22 0)<|.r 4 2<|.x 6 c23<|.c 7 (hS.fc hc27 0)<|.r 8 1<|.nil) (fun a hE=>?_)
   refine dn ?_
   refine hK17 _ _ ?_
   refine hE.ikn 25 H (fun c28 hE H=>?_) fun c28 hE H=>?_
   ·
    refine wp_skip ?_
    refine qCF ?_
    refine hK16 _ _ (pl0 (plc hE (.r 0 3 .nil) (fun a hE=>pld ?_)))
    exact qCG ⟨k11,by omega,_,(w64 (x8+1)),by omega,hE,.of,hS,H⟩
   refine rr hE fun a hE=>(wp_ret (qCE (qCD (qCD (qCE (qCD ?_))))))
   obtain rfl:=si H
   exact rt1 hE ⟨_,rfl,_,rfl,hS⟩
  refine wp_exit ?_
  refine hK6 _ _ (rr hE fun a hE=>(wp_ret ?_))
  obtain rfl:=si H
  exact rt1 hE ⟨_,rfl,_,rfl,hS⟩
 refine rr hE fun a hE=>(wp_ret (qCD ?_))
 obtain rfl:=si H
 exact rt1 hE ⟨_,rfl,_,rfl,hS⟩
def qAe.f(k:Nat):Option Bool:=(qBx.f k 2 1 1).bind fun t4=>((qBF.f k t4.1 (⟨1,5,1,1,3,0,[]⟩:qAm)).bind fun t24=>((qBF.f k t24.1 (⟨3,5,0,0,0,0,[]⟩:qAm)).bind fun t42=>((qh.f k t42.1 0 []).bind fun t60=>((qh.f k t42.1 0 [(⟨5,0,0,0,0⟩:qC)]).bind fun t82=>(if t60.2=0 then (if t82.2=0 then (if t60.1.f0=true then (some false) else ((qz.f k t60.1.f2 [5]).bind fun t105=>(if t105=true then (if t82.1.f0=true then (some (t82.1.f1 == 5)) else (some false)) else (some false)))) else (some false)) else (some false))))))
def qAe.Post(W F:World)(r:Bool)(v:Value)(w':World):Prop:=∃(F':World),v = .bool r∧St W (mine W []) F w' F' []
theorem qAe.calls(k:Nat)(r:Bool)(W F:World)(hown:Sub F W)(H:qAe.f k=some r):
    Calls Tryz.prog 49 #[] W fun e w'=>∃ v,e = .returned v∧qAe.Post W F r v w':=by
 have hS:=St.start (Own.nil hown)
 unfold qAe.f at H
 refine enter (n:=61) rfl rfl rfl (Nat.le_of_ble_eq_true rfl) (fun a hE=>?_)
 refine rr hE fun a hE=>(sq fun K2 hK2=>pl0 ?_)
 obtain ⟨t4,h5,H⟩:=bd H
 refine ple hE (.cl en15 (qBx.calls k 2 1 1 _ _ _ hS.own.sub h5)) ?_
 rintro _ u3 a ⟨F6,A7,c8,A10,c11,A13,c14,rfl,hC,g9,g12⟩ hE
 have hs:=hC.sub
 replace hS:=hS.called (X:=[]) hC
 refine plc hE (.r 1 3 .nil) (fun a hE=>ple hE (.al (t:=26) hS [iv 0,iv 0,iv 0,iv 0,.slice none 0 0,.slice none 0 0,.slice none 0 0]) ?_)
 rintro _ u18 a ⟨b17,rfl,hb17,hS,hg⟩ hE
 refine ple hE (.sto hS [iv t4.1.f0,iv t4.1.f1,iv t4.1.f2,iv t4.1.f3,.slice A7 t4.1.f4.length c8,.slice A10 t4.1.f5.length c11,.slice A13 t4.1.f6.length c14]) ?_
 rintro _ u19 a ⟨rfl,hb17,hS,hz⟩ hE
 refine plc hE (.r 6 1 .nil) (fun a hE=>pld (hK2 _ _ (sq fun K20 hK20=>pl0 (plc hE (.bn 0 0 7 hb17<|.r 1 1<|.nil) (fun a hE=>?_)))))
 replace hS:=hS.front 1 rfl
 obtain ⟨F21,hs,g22,hS⟩:=hS.give
 replace g9:=g9.mono hs
 replace g12:=g12.mono hs
 obtain ⟨t24,h25,H⟩:=bd H
 refine ple hE (.cl en26 (qBF.calls k t4.1 (⟨1,5,1,1,3,0,[]⟩:qAm) _ _ _ _ _ _ _ _ _ _ _ hS.own.sub g9 g12 g22 (Rd.nil _ _) h25)) ?_
 rintro _ u23 a ⟨F26,A27,c28,A30,c31,A33,c34,rfl,hC,g29,g32⟩ hE
 have hs:=hC.sub
 replace hS:=hS.called (X:=[]) hC
 replace g9:=g9.mono hs
 replace g12:=g12.mono hs
 replace g22:=g22.mono hs
 refine plc hE (.r 3 3 .nil) (fun a hE=>?_)
 replace hS:=hS.front 1 rfl
 refine ple hE (.sto hS [iv t24.1.f0,iv t24.1.f1,iv t24.1.f2,iv t24.1.f3,.slice A27 t24.1.f4.length c28,.slice A30 t24.1.f5.length c31,.slice A33 t24.1.f6.length c34]) ?_
 rintro _ u37 a ⟨rfl,hb17,hS,hz⟩ hE
 refine pld (hK20 _ _ (sq fun K38 hK38=>pl0 (plc hE (.bn 0 0 7 hb17<|.r 1 1<|.nil) (fun a hE=>?_))))
 replace hS:=hS.front 1 rfl
 obtain ⟨F39,hs,g40,hS⟩:=hS.give
 replace g9:=g9.mono hs
 replace g12:=g12.mono hs
 replace g22:=g22.mono hs
 replace g29:=g29.mono hs
 replace g32:=g32.mono hs
 obtain ⟨t42,h43,H⟩:=bd H
 refine ple hE (.cl en26 (qBF.calls k t24.1 (⟨3,5,0,0,0,0,[]⟩:qAm) _ _ _ _ _ _ _ _ _ _ _ hS.own.sub g29 g32 g40 (Rd.nil _ _) h43)) ?_
 rintro _ u41 a ⟨F44,A45,c46,A48,c49,A51,c52,rfl,hC,g47,g50⟩ hE
 have hs:=hC.sub
 replace hS:=hS.called (X:=[]) hC
 replace g9:=g9.mono hs
 replace g12:=g12.mono hs
 replace g22:=g22.mono hs
 replace g29:=g29.mono hs
 replace g32:=g32.mono hs
 replace g40:=g40.mono hs
 refine plc hE (.r 3 3 .nil) (fun a hE=>?_)
 replace hS:=hS.front 1 rfl
 refine ple hE (.sto hS [iv t42.1.f0,iv t42.1.f1,iv t42.1.f2,iv t42.1.f3,.slice A45 t42.1.f4.length c46,.slice A48 t42.1.f5.length c49,.slice A51 t42.1.f6.length c52]) ?_
 rintro _ u55 a ⟨rfl,hb17,hS,hz⟩ hE
 refine pld (hK38 _ _ (sq fun K56 hK56=>pl0 (plc hE (.bn 0 0 7 hb17 .nil) (fun a hE=>?_))))
 replace hS:=hS.front 1 rfl
 obtain ⟨F57,hs,g58,hS⟩:=hS.give
 replace g9:=g9.mono hs
 replace g12:=g12.mono hs
 replace g22:=g22.mono hs
 replace g29:=g29.mono hs
 replace g32:=g32.mono hs
 replace g40:=g40.mono hs
 replace g47:=g47.mono hs
 replace g50:=g50.mono hs
 obtain ⟨t60,h61,H⟩:=bd H
 refine ple hE (.cl en50 (qh.calls k t42.1 0 [] _ _ _ _ _ _ _ _ _ _ _ hS.own.sub g47 g50 g58 (Rd.nil _ _) h61)) ?_
 rintro _ u59 a ⟨F62,A63,c64,A67,c68,rfl,hC⟩ hE
 have hs:=hC.sub
 replace hS:=hS.called (X:=[]) hC
 replace g9:=g9.mono hs
 replace g12:=g12.mono hs
 replace g22:=g22.mono hs
 replace g29:=g29.mono hs
 replace g32:=g32.mono hs
 replace g40:=g40.mono hs
 replace g47:=g47.mono hs
 replace g50:=g50.mono hs
 replace g58:=g58.mono hs
 refine plc hE (.r 2 3 .nil) (fun a hE=>ple hE (.al (t:=74) hS [.bool false,iv 0,.slice none 0 0,.slice none 0 0]) ?_)
 rintro _ u72 a ⟨b71,rfl,hb71,hS,hg⟩ hE
 refine ple hE (.sto hS [.bool t60.1.f0,iv t60.1.f1,.slice A63 t60.1.f2.length c64,.slice A67 t60.1.f3.length c68]) ?_
 rintro _ u73 a ⟨rfl,hb71,hS,hz⟩ hE
 refine plc hE (.r 7 1 .nil) (fun a hE=>pld (hK56 _ _ (sq fun K74 hK74=>pl0 ?_)))
 have hb17:=hS.ba 3
 refine plc hE (.bn 0 0 7 hb17<|.r 1 1<|.nil) (fun a hE=>ple hE (.lit (d:=qC.k) (e:=86) hS [(⟨5,0,0,0,0⟩:qC)] (.cons rfl .nil)) ?_)
 rintro _ u75 a ⟨A76,c77,rfl,hS,hg⟩ hE
 obtain ⟨F79,hs,g80,hS⟩:=hS.give
 replace g9:=g9.mono hs
 replace g12:=g12.mono hs
 replace g22:=g22.mono hs
 replace g29:=g29.mono hs
 replace g32:=g32.mono hs
 replace g40:=g40.mono hs
 replace g47:=g47.mono hs
 replace g50:=g50.mono hs
 replace g58:=g58.mono hs
 obtain ⟨t82,h83,H⟩:=bd H
 refine ple hE (.cl en50 (qh.calls k t42.1 0 [(⟨5,0,0,0,0⟩:qC)] _ _ _ _ _ _ _ _ _ _ _ hS.own.sub g47 g50 g58 g80 h83)) ?_
 rintro _ u81 a ⟨F84,A85,c86,A89,c90,rfl,hC⟩ hE
 have hs:=hC.sub
 replace hS:=hS.called (X:=[]) hC
 replace g9:=g9.mono hs
 replace g12:=g12.mono hs
 replace g22:=g22.mono hs
 replace g29:=g29.mono hs
 replace g32:=g32.mono hs
 replace g40:=g40.mono hs
 replace g47:=g47.mono hs
 replace g50:=g50.mono hs
 replace g58:=g58.mono hs
 replace g80:=g80.mono hs
 refine plc hE (.r 4 3 .nil) (fun a hE=>ple hE (.al (t:=74) hS [.bool false,iv 0,.slice none 0 0,.slice none 0 0]) ?_)
 rintro _ u94 a ⟨b93,rfl,hb93,hS,hg⟩ hE
 refine ple hE (.sto hS [.bool t82.1.f0,iv t82.1.f1,.slice A85 t82.1.f2.length c86,.slice A89 t82.1.f3.length c90]) ?_
 rintro _ u95 a ⟨rfl,hb93,hS,hz⟩ hE
 refine plc hE (.r 9 1 .nil) (fun a hE=>pld (hK74 _ _ (sq fun K96 hK96=>pl0 (plc hE (.r 0 3 .nil) (fun a hE=>?_)))))
 rcases sp H with ⟨c97,H⟩ | ⟨c97,H⟩
 ·
  replace hE:=hE.kt 37 c97
  refine plc hE (.r 3 4 .nil) (fun a hE=>?_)
  rcases sp H with ⟨c98,H⟩ | ⟨c98,H⟩
  ·
   replace hE:=hE.kt 41 c98
   have hb71:=hS.ba 3
   refine plc hE (.r 7 1<|.b 8 0 hb71<|.r 9 3<|.nil) (fun a hE=>?_)
   rcases sp H with ⟨c99,H⟩ | ⟨c99,H⟩
   ·
    replace hE:=hE.btn 46 c99
    refine plc hE (.r 12 15 .nil) (fun a hE=>pld (hK96 _ _ (wp_ret ?_)))
    replace hS:=hS.pm [] 7
    obtain rfl:=si H
    exact rt1 hE ⟨_,rfl,_,rfl,hS⟩
   replace hE:=hE.bfn 46 c99
   refine plc hE (.r 12 1<|.b 13 2 hb71<|.nil) (fun a hE=>ple hE (.lit (d:=ki) (e:=3) hS [5] (.cons rfl .nil)) ?_)
   rintro _ u100 a ⟨A101,c102,rfl,hS,hg⟩ hE
   obtain ⟨t105,h106,H⟩:=bd H
   refine ple hE (.cl en21 (qz.calls k t60.1.f2 [5] _ _ _ _ _ _ _ (Sub.refl _) (hS.rd_at (i:=5) rfl) (hS.rd_at (i:=0) rfl) h106)) ?_
   rintro _ u104 a ⟨_,rfl,hC⟩ hE
   replace hS:=hS.lent hC
   refine plc hE (.r 16 2 .nil) (fun a hE=>?_)
   rcases sp H with ⟨c107,H⟩ | ⟨c107,H⟩
   ·
    replace hE:=hE.bt 52 c107
    have hb93:=hS.ba 1
    refine plc hE (.r 18 1<|.b 19 0 hb93<|.r 20 2<|.nil) (fun a hE=>?_)
    rcases sp H with ⟨c108,H⟩ | ⟨c108,H⟩
    ·
     replace hE:=hE.bt 56 c108
     refine plc hE (.r 22 1<|.b 23 1 hb93<|.r 24 3<|.nil) (fun a hE=>pld (hK96 _ _ (wp_ret ?_)))
     replace hS:=hS.pm [] 8
     obtain rfl:=si H
     exact rt1 hE ⟨_,rfl,_,rfl,hS⟩
    replace hE:=hE.bf 56 c108
    refine plc hE (.r 22 5 .nil) (fun a hE=>pld (hK96 _ _ (wp_ret ?_)))
    replace hS:=hS.pm [] 8
    obtain rfl:=si H
    exact rt1 hE ⟨_,rfl,_,rfl,hS⟩
   replace hE:=hE.bf 52 c107
   refine plc hE (.r 18 9 .nil) (fun a hE=>pld (hK96 _ _ (wp_ret ?_)))
   replace hS:=hS.pm [] 8
   obtain rfl:=si H
   exact rt1 hE ⟨_,rfl,_,rfl,hS⟩
  replace hE:=hE.kf 41 c98
  refine plc hE (.r 7 20 .nil) (fun a hE=>pld (hK96 _ _ (wp_ret ?_)))
  replace hS:=hS.pm [] 7
  obtain rfl:=si H
  exact rt1 hE ⟨_,rfl,_,rfl,hS⟩
 replace hE:=hE.kf 37 c97
 refine plc hE (.r 3 24 .nil) (fun a hE=>pld (hK96 _ _ (wp_ret ?_)))
 replace hS:=hS.pm [] 7
 obtain rfl:=si H
 exact rt1 hE ⟨_,rfl,_,rfl,hS⟩
mutual
def qm.l5:Nat→List qA→Int→Option Bool
 | 0,_,_=>none
 | k+1,x0_,x4=>if x4<(x0_.length:Int) then (if 0≤x4∧x4<(x0_.length:Int) then (if (nth qA.z x0_ x4).f0<1 then (qm.j37 k x0_ x4 true) else (if (nth qA.z x0_ x4).f0>999 then (qm.j37 k x0_ x4 true) else (if (nth qA.z x0_ x4).f1<1 then (qm.j37 k x0_ x4 true) else (if (nth qA.z x0_ x4).f1>9 then (qm.j37 k x0_ x4 true) else (if (nth qA.z x0_ x4).f2<1 then (qm.j37 k x0_ x4 true) else (if (nth qA.z x0_ x4).f2>9 then (qm.j37 k x0_ x4 true) else (if (nth qA.z x0_ x4).f3<0 then (qm.j37 k x0_ x4 true) else (if (nth qA.z x0_ x4).f3>65536 then (qm.j37 k x0_ x4 true) else (if x4>0 then (if 0≤(w64 (x4 - 1))∧(w64 (x4 - 1))<(x0_.length:Int) then (qm.j37 k x0_ x4 (decide ((nth qA.z x0_ (w64 (x4 - 1))).f0≥(nth qA.z x0_ x4).f0))) else (none)) else (qm.j37 k x0_ x4 false)))))))))) else (none)) else (some (decide ((x0_.length:Int)≤12)))
def qm.j37:Nat→List qA→Int→Bool→Option Bool
 | 0,_,_,_=>none
 | k+1,x0_,x4,y36=>if y36=true then (some false) else (qm.l5 k x0_ (w64 (x4+1)))
end
theorem qm.l5_s k x0_ x4:type_of% (qm.l5.eq_2 x0_ x4 k):=qm.l5.eq_2 x0_ x4 k
theorem qm.j37_s k x0_ x4 y36:type_of% (qm.j37.eq_2 x0_ x4 y36 k):=qm.j37.eq_2 x0_ x4 y36 k
def qm.f(k:Nat)(x0_:List qA):Option Bool:=qm.l5 k x0_ 0
def qm.Post(W F:World)(r:Bool)(v:Value)(w':World):Prop:=∃(F':World),v = .bool r∧St W (mine W []) F w' F' []
theorem qm.calls(k:Nat)(x0_:List qA)(A0_0:Option Addr)(c0_0:Nat)(r:Bool)(W F:World)(hown:Sub F W)(g0_0:Rd qA.k F A0_0 c0_0 x0_)(H:qm.f k x0_=some r):
    Calls Tryz.prog 67 #[.slice A0_0 x0_.length c0_0] W fun e w'=>∃ v,e = .returned v∧qm.Post W F r v w':=by
 have hS:=St.start (Own.nil hown)
 unfold qm.f at H
 refine enter (n:=71) rfl rfl rfl (Nat.le_of_ble_eq_true rfl) (fun a hE=>?_)
 refine rr hE fun a hE=>(sq fun K2 hK2=>rr hE fun a hE=>(wp_block ?_))
 refine wp_loop_ghost (fun kq6 a w'=>∃(G:Nat→Value)(x4:Int),kq6≤k∧Env 71 G a∧At G [(0,.slice A0_0 x0_.length c0_0),(3,iv x4)]∧St W (mine W []) F w' F []∧qm.l5 kq6 x0_ x4=some r) k ⟨_,0,Nat.le_refl _,hE,.of,hS,H⟩ ?_
 rintro kq6 a u8 ⟨G,x4,hkq,hE,hA,hS,H⟩
 obtain _ | k7:=kq6
 ·
  exact zz H
 rw [qm.l5_s]at H
 obtain ⟨J,hE⟩:=hE.at hA
 refine sq fun K9 hK9=>rr hE fun a hE=>?_
 refine hE.ik 8 H (fun c11 hE H=>?_) fun c11 hE H=>?_
 ·
  refine wp_skip (hK9 _ _ (sq fun K12 hK12=>wp_block (sq fun K13 hK13=>pl0 ?_)))
  obtain ⟨c14,H⟩:=gd H
  have hE_:=hE
  obtain ⟨ad15,rfl⟩:=g0_0.addr c14.1 c14.2
  replace hE:=hE_
  obtain ⟨cs17,rfl,hc18⟩:=g0_0.el qA.z x4 c14.1 c14.2
  refine plc hE (.r 0 2<|.x 2 c14<|.cs 3 (hS.fcs hc18)<|.nil) (fun a hE=>ple hE (.al (t:=104) hS [iv 0,iv 0,iv 0,iv 0,.bool false,.bool false]) ?_)
  rintro _ u20 a ⟨b19,rfl,hb19,hS,hg⟩ hE
  refine ple hE (.sto hS [iv ((nth qA.z x0_ x4).f0),iv ((nth qA.z x0_ x4).f1),iv ((nth qA.z x0_ x4).f2),iv ((nth qA.z x0_ x4).f3),.bool ((nth qA.z x0_ x4).f4),.bool ((nth qA.z x0_ x4).f5)]) ?_
  rintro _ u21 a ⟨rfl,hb19,hS,hz⟩ hE
  refine pld (hK13 _ _ (sq fun K22 hK22=>?_))
  have J40:∀ kq38,kq38≤k7→∀(G:Nat→Value)(y36:Bool)(a:Act)(w':World),Env 71 G a→At G [(0,.slice (some ad15) x0_.length c0_0),(3,iv x4),(67,.bool y36)]→St W (mine W []) F w' F [box b19 #[iv ((nth qA.z x0_ x4).f0),iv ((nth qA.z x0_ x4).f1),iv ((nth qA.z x0_ x4).f2),iv ((nth qA.z x0_ x4).f3),.bool ((nth qA.z x0_ x4).f4),.bool ((nth qA.z x0_ x4).f5)] 104]→qm.j37 kq38 x0_ x4 y36=some r→K22 a w':=by
   intro kq38 hkq G y36 a u41 hE hA hS H
   obtain _ | k39:=kq38
   ·
    exact zz H
   rw [qm.j37_s]at H
   obtain ⟨J,hE⟩:=hE.at hA
   refine hK22 _ _ ?_
   refine hE.ib 67 H (fun c42 hE H=>?_) fun c42 hE H=>?_
   ·
    refine rr hE fun a hE=>(wp_ret (qCE (qCD (qCD (qCE (qCD ?_))))))
    replace hS:=hS.tail
    obtain rfl:=si H
    exact rt1 hE ⟨_,rfl,_,rfl,hS⟩
   refine wp_skip ?_
   refine qCF ?_
   refine hK12 _ _ (pl0 (plc hE (.r 0 3 .nil) (fun a hE=>pld ?_)))
   replace hS:=hS.tail
   exact qCG ⟨k39,by omega,_,(w64 (x4+1)),by omega,hE,.of,hS,H⟩
  refine drawn 53 ⟨[],[],fun q=>False⟩ mixed rfl (by kernel_rfl) (fun hst=>?_)
  replace hS:=hS.drew
  have hb19:=hS.ba 0
  refine mny 49 hst hE (.r 0 1<|.b 1 0 hb19<|.r 2 2<|.nil) (fun a hE=>?_)
  rcases sp H with ⟨c23,H⟩ | ⟨c23,H⟩
  ·
   replace hE:=hE.kt 18 c23
   refine mny 0 hst hE (.r 4 49 .nil) (fun a hE=>?_)
   refine dn ?_
   exact J40 _ (by omega) _ true _ _ hE .of hS H
  replace hE:=hE.kf 18 c23
  refine mny 44 hst hE (.r 4 1<|.b 5 0 hb19<|.r 6 3<|.nil) (fun a hE=>?_)
  rcases sp H with ⟨c24,H⟩ | ⟨c24,H⟩
  ·
   replace hE:=hE.kt 23 c24
   refine mny 0 hst hE (.r 9 44 .nil) (fun a hE=>?_)
   refine dn ?_
   exact J40 _ (by omega) _ true _ _ hE .of hS H
  replace hE:=hE.kf 23 c24
  refine mny 39 hst hE (.r 9 1<|.b 10 1 hb19<|.r 11 3<|.nil) (fun a hE=>?_)
  rcases sp H with ⟨c25,H⟩ | ⟨c25,H⟩
  ·
   replace hE:=hE.kt 28 c25
   refine mny 0 hst hE (.r 14 39 .nil) (fun a hE=>?_)
   refine dn ?_
   exact J40 _ (by omega) _ true _ _ hE .of hS H
  replace hE:=hE.kf 28 c25
  refine mny 34 hst hE (.r 14 1<|.b 15 1 hb19<|.r 16 3<|.nil) (fun a hE=>?_)
  rcases sp H with ⟨c26,H⟩ | ⟨c26,H⟩
  ·
   replace hE:=hE.kt 33 c26
   refine mny 0 hst hE (.r 19 34 .nil) (fun a hE=>?_)
   refine dn ?_
   exact J40 _ (by omega) _ true _ _ hE .of hS H
  replace hE:=hE.kf 33 c26
  refine mny 29 hst hE (.r 19 1<|.b 20 2 hb19<|.r 21 3<|.nil) (fun a hE=>?_)
  rcases sp H with ⟨c27,H⟩ | ⟨c27,H⟩
  ·
   replace hE:=hE.kt 38 c27
   refine mny 0 hst hE (.r 24 29 .nil) (fun a hE=>?_)
   refine dn ?_
   exact J40 _ (by omega) _ true _ _ hE .of hS H
  replace hE:=hE.kf 38 c27
  refine mny 24 hst hE (.r 24 1<|.b 25 2 hb19<|.r 26 3<|.nil) (fun a hE=>?_)
  rcases sp H with ⟨c28,H⟩ | ⟨c28,H⟩
  ·
   replace hE:=hE.kt 43 c28
   refine mny 0 hst hE (.r 29 24 .nil) (fun a hE=>?_)
   refine dn ?_
   exact J40 _ (by omega) _ true _ _ hE .of hS H
  replace hE:=hE.kf 43 c28
  refine mny 19 hst hE (.r 29 1<|.b 30 3 hb19<|.r 31 3<|.nil) (fun a hE=>?_)
  rcases sp H with ⟨c29,H⟩ | ⟨c29,H⟩
  ·
   replace hE:=hE.kt 48 c29
   refine mny 0 hst hE (.r 34 19 .nil) (fun a hE=>?_)
   refine dn ?_
   exact J40 _ (by omega) _ true _ _ hE .of hS H
  replace hE:=hE.kf 48 c29
  refine mny 14 hst hE (.r 34 1<|.b 35 3 hb19<|.r 36 3<|.nil) (fun a hE=>?_)
  rcases sp H with ⟨c30,H⟩ | ⟨c30,H⟩
  ·
   replace hE:=hE.kt 53 c30
   refine mny 0 hst hE (.r 39 14 .nil) (fun a hE=>?_)
   refine dn ?_
   exact J40 _ (by omega) _ true _ _ hE .of hS H
  replace hE:=hE.kf 53 c30
  refine mny 11 hst hE (.r 39 3 .nil) (fun a hE=>?_)
  rcases sp H with ⟨c31,H⟩ | ⟨c31,H⟩
  ·
   replace hE:=hE.kt 56 c31
   obtain ⟨c32,H⟩:=gd H
   obtain ⟨cs34,rfl,hc35⟩:=g0_0.el qA.z (w64 (x4 - 1)) c32.1 c32.2
   refine mny 0 hst hE (.r 42 3<|.x 45 c32<|.r 46 1<|.c 47 (hS.fc hc35 0)<|.r 48 1<|.b 49 0 hb19<|.r 50 3<|.nil) (fun a hE=>?_)
   refine dn ?_
   exact J40 _ (by omega) _ (decide ((nth qA.z x0_ (w64 (x4 - 1))).f0≥(nth qA.z x0_ x4).f0)) _ _ hE .of hS H
  replace hE:=hE.kf 56 c31
  refine mny 0 hst hE (.r 42 11 .nil) (fun a hE=>?_)
  refine dn ?_
  exact J40 _ (by omega) _ false _ _ hE .of hS H
 refine wp_exit ?_
 refine hK2 _ _ (rr hE fun a hE=>(wp_ret ?_))
 obtain rfl:=si H
 exact rt1 hE ⟨_,rfl,_,rfl,hS⟩
def qAA.l7:Nat→List qA→Int→Int→Option (qA × Bool)
 | 0,_,_,_=>none
 | k+1,x0_,x1_,x6=>if x6<(x0_.length:Int) then (if 0≤x6∧x6<(x0_.length:Int) then (if (nth qA.z x0_ x6).f0=x1_ then (some ((⟨(nth qA.z x0_ x6).f0,(nth qA.z x0_ x6).f1,(nth qA.z x0_ x6).f2,(nth qA.z x0_ x6).f3,(nth qA.z x0_ x6).f4,(nth qA.z x0_ x6).f5⟩:qA),true)) else (qAA.l7 k x0_ x1_ (w64 (x6+1)))) else (none)) else (some ((⟨0,0,0,0,false,false⟩:qA),false))
theorem qAA.l7_s k x0_ x1_ x6:type_of% (qAA.l7.eq_2 x0_ x1_ x6 k):=qAA.l7.eq_2 x0_ x1_ x6 k
def qAA.f(k:Nat)(x0_:List qA)(x1_:Int):Option (qA × Bool):=qAA.l7 k x0_ x1_ 0
def qAA.Post(W F:World)(r:qA × Bool)(v:Value)(w':World):Prop:=∃(F':World),v = .tuple #[.agg #[iv r.1.f0,iv r.1.f1,iv r.1.f2,iv r.1.f3,.bool r.1.f4,.bool r.1.f5],.bool r.2]∧St W (mine W []) F w' F' []
theorem qAA.calls(k:Nat)(x0_:List qA)(x1_:Int)(A0_0:Option Addr)(c0_0:Nat)(r:qA × Bool)(W F:World)(hown:Sub F W)(g0_0:Rd qA.k F A0_0 c0_0 x0_)(H:qAA.f k x0_ x1_=some r):
    Calls Tryz.prog 75 #[.slice A0_0 x0_.length c0_0,iv x1_] W fun e w'=>∃ v,e = .returned v∧qAA.Post W F r v w':=by
 have hS:=St.start (Own.nil hown)
 unfold qAA.f at H
 refine enter (n:=25) rfl rfl rfl (Nat.le_of_ble_eq_true rfl) (fun a hE=>?_)
 refine sq fun K1 hK1=>pl0 (ple hE (.al (t:=104) hS [iv 0,iv 0,iv 0,iv 0,.bool false,.bool false]) ?_)
 rintro _ u3 a ⟨b2,rfl,hb2,hS,hg⟩ hE
 refine plc hE (.r 1 1 .nil) (fun a hE=>pld (hK1 _ _ (sq fun K4 hK4=>rr hE fun a hE=>(wp_block ?_))))
 refine wp_loop_ghost (fun kq8 a w'=>∃(G:Nat→Value)(x6:Int),kq8≤k∧Env 25 G a∧At G [(0,.slice A0_0 x0_.length c0_0),(1,iv x1_),(4,.pointer (pb b2)),(6,iv x6)]∧St W (mine W []) F w' F [box b2 #[iv 0,iv 0,iv 0,iv 0,.bool false,.bool false] 104]∧qAA.l7 kq8 x0_ x1_ x6=some r) k ⟨_,0,Nat.le_refl _,hE,.of,hS,H⟩ ?_
 rintro kq8 a u10 ⟨G,x6,hkq,hE,hA,hS,H⟩
 obtain _ | k9:=kq8
 ·
  exact zz H
 rw [qAA.l7_s]at H
 obtain ⟨J,hE⟩:=hE.at hA
 refine sq fun K11 hK11=>rr hE fun a hE=>?_
 refine hE.ik 10 H (fun c13 hE H=>?_) fun c13 hE H=>?_
 ·
  refine wp_skip (hK11 _ _ (sq fun K14 hK14=>wp_block (sq fun K15 hK15=>pl0 ?_)))
  obtain ⟨c16,H⟩:=gd H
  have hE_:=hE
  obtain ⟨ad17,rfl⟩:=g0_0.addr c16.1 c16.2
  replace hE:=hE_
  obtain ⟨cs19,rfl,hc20⟩:=g0_0.el qA.z x6 c16.1 c16.2
  refine plc hE (.r 0 2<|.x 2 c16<|.r 3 1<|.c 4 (hS.fc hc20 0)<|.r 5 2<|.nil) (fun a hE=>pld (hK15 _ _ ?_))
  refine hE.ik 19 H (fun c21 hE H=>?_) fun c21 hE H=>?_
  ·
   refine sq fun K22 hK22=>pl0 (plc hE (.r 0 2<|.x 2 c16<|.cs 3 (hS.fcs hc20)<|.nil) (fun a hE=>ple hE (.sto hS [iv ((nth qA.z x0_ x6).f0),iv ((nth qA.z x0_ x6).f1),iv ((nth qA.z x0_ x6).f2),iv ((nth qA.z x0_ x6).f3),.bool ((nth qA.z x0_ x6).f4),.bool ((nth qA.z x0_ x6).f5)]) ?_))
   rintro _ u26 a ⟨rfl,hb2,hS,hz⟩ hE
   refine plc hE (.r 5 1 .nil) (fun a hE=>pld (hK22 _ _ (wp_ret (qCE (qCD (qCD (qCE (qCD ?_))))))))
   replace hS:=hS.tail
   obtain rfl:=si H
   exact retN hE rfl (of_decide_eq_true rfl) (.cell (by kernel_rfl) (qCJ [iv ((nth qA.z x0_ x6).f0),iv ((nth qA.z x0_ x6).f1),iv ((nth qA.z x0_ x6).f2),iv ((nth qA.z x0_ x6).f3),.bool ((nth qA.z x0_ x6).f4),.bool ((nth qA.z x0_ x6).f5)] ag104 sz104 hb2 rfl) (.tmp (by kernel_rfl) .nil)) ⟨_,rfl,_,rfl,hS⟩
  refine wp_skip ?_
  refine qCF ?_
  refine hK14 _ _ (pl0 (plc hE (.r 0 3 .nil) (fun a hE=>pld ?_)))
  exact qCG ⟨k9,by omega,_,(w64 (x6+1)),by omega,hE,.of,hS,H⟩
 refine wp_exit ?_
 refine hK4 _ _ (sq fun K27 hK27=>pl0 (plc hE (.r 0 1 .nil) (fun a hE=>ple hE (.sto hS [iv 0,iv 0,iv 0,iv 0,.bool false,.bool false]) ?_)))
 rintro _ u28 a ⟨rfl,hb2,hS,hz⟩ hE
 refine plc hE (.r 2 1 .nil) (fun a hE=>pld (hK27 _ _ (wp_ret ?_)))
 replace hS:=hS.tail
 obtain rfl:=si H
 exact retN hE rfl (of_decide_eq_true rfl) (.cell (by kernel_rfl) (qCJ [iv 0,iv 0,iv 0,iv 0,.bool false,.bool false] ag104 sz104 hb2 rfl) (.tmp (by kernel_rfl) .nil)) ⟨_,rfl,_,rfl,hS⟩
mutual
def qn.l5:Nat→List qA→List Int→Int→Option Bool
 | 0,_,_,_=>none
 | k+1,x0_,x1_,x4=>if x4<(x1_.length:Int) then (if 0≤x4∧x4<(x1_.length:Int) then ((qAA.f k x0_ (nth 0 x1_ x4)).bind fun t20=>(if t20.2=true then (qn.l31 k x0_ x1_ x4 t20 0) else (some false))) else (none)) else (some true)
def qn.l31:Nat→List qA→List Int→Int→qA × Bool→Int→Option Bool
 | 0,_,_,_,_,_=>none
 | k+1,x0_,x1_,x4,t20,x30=>if x30<x4 then (if 0≤x30∧x30<(x1_.length:Int) then ((qAA.f k x0_ (nth 0 x1_ x30)).bind fun t45=>(if t20.1.f1=t45.1.f1 then (some false) else (qn.l31 k x0_ x1_ x4 t20 (w64 (x30+1))))) else (none)) else (qn.l5 k x0_ x1_ (w64 (x4+1)))
end
theorem qn.l5_s k x0_ x1_ x4:type_of% (qn.l5.eq_2 x0_ x1_ x4 k):=qn.l5.eq_2 x0_ x1_ x4 k
theorem qn.l31_s k x0_ x1_ x4 t20 x30:type_of% (qn.l31.eq_2 x0_ x1_ x4 t20 x30 k):=qn.l31.eq_2 x0_ x1_ x4 t20 x30 k
def qn.f(k:Nat)(x0_:List qA)(x1_:List Int):Option Bool:=qn.l5 k x0_ x1_ 0
def qn.Post(W F:World)(r:Bool)(v:Value)(w':World):Prop:=∃(F':World),v = .bool r∧St W (mine W []) F w' F' []
theorem qn.calls(k:Nat)(x0_:List qA)(x1_:List Int)(A0_0:Option Addr)(c0_0:Nat)(A1_0:Option Addr)(c1_0:Nat)(r:Bool)(W F:World)(hown:Sub F W)(g0_0:Rd qA.k F A0_0 c0_0 x0_)(g1_0:Rd ki F A1_0 c1_0 x1_)(H:qn.f k x0_ x1_=some r):
    Calls Tryz.prog 68 #[.slice A0_0 x0_.length c0_0,.slice A1_0 x1_.length c1_0] W fun e w'=>∃ v,e = .returned v∧qn.Post W F r v w':=by
 have hS:=St.start (Own.nil hown)
 unfold qn.f at H
 refine enter (n:=47) rfl rfl rfl (Nat.le_of_ble_eq_true rfl) (fun a hE=>?_)
 refine rr hE fun a hE=>(sq fun K2 hK2=>rr hE fun a hE=>(wp_block ?_))
 refine wp_loop_ghost (fun kq6 a w'=>∃(G:Nat→Value)(x4:Int),kq6≤k∧Env 47 G a∧At G [(0,.slice A0_0 x0_.length c0_0),(1,.slice A1_0 x1_.length c1_0),(5,iv x4)]∧St W (mine W []) F w' F []∧qn.l5 kq6 x0_ x1_ x4=some r) k ⟨_,0,Nat.le_refl _,hE,.of,hS,H⟩ ?_
 rintro kq6 a u8 ⟨G,x4,hkq,hE,hA,hS,H⟩
 obtain _ | k7:=kq6
 ·
  exact zz H
 rw [qn.l5_s]at H
 obtain ⟨J,hE⟩:=hE.at hA
 refine sq fun K9 hK9=>rr hE fun a hE=>?_
 refine hE.ik 14 H (fun c11 hE H=>?_) fun c11 hE H=>?_
 ·
  refine wp_skip (hK9 _ _ (sq fun K12 hK12=>wp_block (sq fun K13 hK13=>pl0 ?_)))
  obtain ⟨c14,H⟩:=gd H
  have hE_:=hE
  obtain ⟨ad15,rfl⟩:=g1_0.addr c14.1 c14.2
  replace hE:=hE_
  obtain ⟨cs17,rfl,hc18⟩:=g1_0.el 0 x4 c14.1 c14.2
  refine plc hE (.r 0 3<|.x 3 c14<|.c 4 (hS.fc hc18 0)<|.nil) (fun a hE=>?_)
  obtain ⟨t20,h21,H⟩:=bd H
  refine ple hE (.cl en75 (qAA.calls k7 x0_ (nth 0 x1_ x4) _ _ _ _ _ hS.own.sub g0_0 h21)) ?_
  rintro _ u19 a ⟨_,rfl,hC⟩ hE
  replace hS:=hS.lent hC
  refine plc hE (.r 6 3 .nil) (fun a hE=>ple hE (.al (t:=104) hS [iv 0,iv 0,iv 0,iv 0,.bool false,.bool false]) ?_)
  rintro _ u23 a ⟨b22,rfl,hb22,hS,hg⟩ hE
  refine ple hE (.sto hS [iv t20.1.f0,iv t20.1.f1,iv t20.1.f2,iv t20.1.f3,.bool t20.1.f4,.bool t20.1.f5]) ?_
  rintro _ u24 a ⟨rfl,hb22,hS,hz⟩ hE
  refine plc hE (.r 11 1 .nil) (fun a hE=>pld (hK13 _ _ (sq fun K25 hK25=>rr hE fun a hE=>?_)))
  refine hE.ibn 27 H (fun c27 hE H=>?_) fun c27 hE H=>?_
  ·
   refine wp_skip (hK25 _ _ (rr hE fun a hE=>(wp_block ?_)))
   refine wp_loop_ghost (fun kq32 a w'=>∃(G:Nat→Value)(x30:Int),kq32≤k7∧Env 47 G a∧At G [(0,.slice A0_0 x0_.length c0_0),(1,.slice (some ad15) x1_.length c1_0),(5,iv x4),(6,.pointer (pb b22)),(8,iv x30)]∧St W (mine W []) F w' F [box b22 #[iv t20.1.f0,iv t20.1.f1,iv t20.1.f2,iv t20.1.f3,.bool t20.1.f4,.bool t20.1.f5] 104]∧qn.l31 kq32 x0_ x1_ x4 t20 x30=some r) k7 ⟨_,0,Nat.le_refl _,hE,.of,hS,H⟩ ?_
   rintro kq32 a u34 ⟨G,x30,hkq,hE,hA,hS,H⟩
   obtain _ | k33:=kq32
   ·
    exact zz H
   rw [qn.l31_s]at H
   obtain ⟨J,hE⟩:=hE.at hA
   refine sq fun K35 hK35=>rr hE fun a hE=>?_
   refine hE.ik 30 H (fun c37 hE H=>?_) fun c37 hE H=>?_
   ·
    refine wp_skip (hK35 _ _ (sq fun K38 hK38=>wp_block (sq fun K39 hK39=>pl0 ?_)))
    obtain ⟨c40,H⟩:=gd H
    obtain ⟨cs42,rfl,hc43⟩:=g1_0.el 0 x30 c40.1 c40.2
    refine plc hE (.r 0 3<|.x 3 c40<|.c 4 (hS.fc hc43 0)<|.nil) (fun a hE=>?_)
    obtain ⟨t45,h46,H⟩:=bd H
    refine ple hE (.cl en75 (qAA.calls k33 x0_ (nth 0 x1_ x30) _ _ _ _ _ hS.own.sub g0_0 h46)) ?_
    rintro _ u44 a ⟨_,rfl,hC⟩ hE
    replace hS:=hS.lent hC
    refine plc hE (.r 6 3 .nil) (fun a hE=>ple hE (.al (t:=104) hS [iv 0,iv 0,iv 0,iv 0,.bool false,.bool false]) ?_)
    rintro _ u48 a ⟨b47,rfl,hb47,hS,hg⟩ hE
    refine ple hE (.sto hS [iv t45.1.f0,iv t45.1.f1,iv t45.1.f2,iv t45.1.f3,.bool t45.1.f4,.bool t45.1.f5]) ?_
    rintro _ u49 a ⟨rfl,hb47,hS,hz⟩ hE
    refine plc hE (.r 11 1 .nil) (fun a hE=>pld (hK39 _ _ (sq fun K50 hK50=>pl0 ?_)))
    have hb22:=hS.ba 1
    refine plc hE (.r 0 1<|.b 1 1 hb22<|.r 2 1<|.b 3 1 hb47<|.r 4 1<|.nil) (fun a hE=>pld (hK50 _ _ ?_))
    refine hE.ik 46 H (fun c51 hE H=>?_) fun c51 hE H=>?_
    ·
     refine rr hE fun a hE=>(wp_ret (qCE (qCD (qCD (qCE (qCE (qCD (qCD (qCE (qCD ?_))))))))))
     replace hS:=hS.pm [] 2
     obtain rfl:=si H
     exact rt1 hE ⟨_,rfl,_,rfl,hS⟩
    refine wp_skip ?_
    refine qCF ?_
    refine hK38 _ _ (pl0 (plc hE (.r 0 3 .nil) (fun a hE=>pld ?_)))
    replace hS:=hS.tail
    exact qCG ⟨k33,by omega,_,(w64 (x30+1)),by omega,hE,.of,hS,H⟩
   refine wp_exit ?_
   refine hK12 _ _ (pl0 (plc hE (.r 0 3 .nil) (fun a hE=>pld ?_)))
   replace hS:=hS.tail
   exact qCG ⟨k33,by omega,_,(w64 (x4+1)),by omega,hE,.of,hS,H⟩
  refine rr hE fun a hE=>(wp_ret (qCD (qCE (qCD (qCD (qCE (qCD ?_)))))))
  replace hS:=hS.tail
  obtain rfl:=si H
  exact rt1 hE ⟨_,rfl,_,rfl,hS⟩
 refine wp_exit ?_
 refine hK2 _ _ (rr hE fun a hE=>(wp_ret ?_))
 obtain rfl:=si H
 exact rt1 hE ⟨_,rfl,_,rfl,hS⟩
mutual
def qI.l7:Nat→qJ→Int→Option Bool
 | 0,_,_=>none
 | k+1,x0_,x6=>if x6<(x0_.f6.length:Int) then (if 0≤x6∧x6<(x0_.f6.length:Int) then (if (nth qF.z x0_.f6 x6).f0<0 then (qI.j31 k x0_ x6 true) else (qI.j31 k x0_ x6 (decide ((nth qF.z x0_.f6 x6).f0>x0_.f0)))) else (none)) else (some ((x0_.f6.length:Int) == x0_.f3))
def qI.j31:Nat→qJ→Int→Bool→Option Bool
 | 0,_,_,_=>none
 | k+1,x0_,x6,y30=>if y30=true then (some false) else (qI.l40 k x0_ x6 0)
def qI.l40:Nat→qJ→Int→Int→Option Bool
 | 0,_,_,_=>none
 | k+1,x0_,x6,x39=>if x39<(((nth qF.z x0_.f6 x6).f1).length:Int) then (if 0≤x39∧x39<(((nth qF.z x0_.f6 x6).f1).length:Int) then (if (nth qE.z ((nth qF.z x0_.f6 x6).f1) x39).f0<0 then (qI.j66 k x0_ x6 x39 true) else (if (nth qE.z ((nth qF.z x0_.f6 x6).f1) x39).f0≥(nth qF.z x0_.f6 x6).f0 then (qI.j66 k x0_ x6 x39 true) else (if (((nth qE.z ((nth qF.z x0_.f6 x6).f1) x39).f1).length:Int)<x0_.f2 then (qI.j66 k x0_ x6 x39 true) else (qI.j66 k x0_ x6 x39 (decide ((((nth qE.z ((nth qF.z x0_.f6 x6).f1) x39).f1).length:Int)>x0_.f1)))))) else (none)) else (qI.l7 k x0_ (w64 (x6+1)))
def qI.j66:Nat→qJ→Int→Int→Bool→Option Bool
 | 0,_,_,_,_=>none
 | k+1,x0_,x6,x39,y65=>if y65=true then (some false) else (qI.l76 k x0_ x6 x39 0)
def qI.l76:Nat→qJ→Int→Int→Int→Option Bool
 | 0,_,_,_,_=>none
 | k+1,x0_,x6,x39,x75=>if x75<(((nth qE.z ((nth qF.z x0_.f6 x6).f1) x39).f1).length:Int) then (if 0≤x75∧x75<(((nth qE.z ((nth qF.z x0_.f6 x6).f1) x39).f1).length:Int) then (if (nth 0 ((nth qE.z ((nth qF.z x0_.f6 x6).f1) x39).f1) x75)<1 then (qI.j104 k x0_ x6 x39 x75 true) else (if (nth 0 ((nth qE.z ((nth qF.z x0_.f6 x6).f1) x39).f1) x75)>999 then (qI.j104 k x0_ x6 x39 x75 true) else (if x75>0 then (if 0≤(w64 (x75 - 1))∧(w64 (x75 - 1))<(((nth qE.z ((nth qF.z x0_.f6 x6).f1) x39).f1).length:Int) then (qI.j104 k x0_ x6 x39 x75 (decide ((nth 0 ((nth qE.z ((nth qF.z x0_.f6 x6).f1) x39).f1) (w64 (x75 - 1)))≥(nth 0 ((nth qE.z ((nth qF.z x0_.f6 x6).f1) x39).f1) x75)))) else (none)) else (qI.j104 k x0_ x6 x39 x75 false)))) else (none)) else (qI.l113 k x0_ x6 x39 0)
def qI.j104:Nat→qJ→Int→Int→Int→Bool→Option Bool
 | 0,_,_,_,_,_=>none
 | k+1,x0_,x6,x39,x75,y103=>if y103=true then (some false) else (qI.l76 k x0_ x6 x39 (w64 (x75+1)))
def qI.l113:Nat→qJ→Int→Int→Int→Option Bool
 | 0,_,_,_,_=>none
 | k+1,x0_,x6,x39,x112=>if x112<x39 then (if 0≤x112∧x112<(((nth qF.z x0_.f6 x6).f1).length:Int) then (if (nth qE.z ((nth qF.z x0_.f6 x6).f1) x112).f0≥(nth qE.z ((nth qF.z x0_.f6 x6).f1) x39).f0 then (qI.j137 k x0_ x6 x39 x112 true) else ((qz.f k ((nth qE.z ((nth qF.z x0_.f6 x6).f1) x112).f1) ((nth qE.z ((nth qF.z x0_.f6 x6).f1) x39).f1)).bind fun t134=>(qI.j137 k x0_ x6 x39 x112 t134))) else (none)) else (qI.l40 k x0_ x6 (w64 (x39+1)))
def qI.j137:Nat→qJ→Int→Int→Int→Bool→Option Bool
 | 0,_,_,_,_,_=>none
 | k+1,x0_,x6,x39,x112,y136=>if y136=true then (some false) else (qI.l113 k x0_ x6 x39 (w64 (x112+1)))
end
theorem qI.l7_s k x0_ x6:type_of% (qI.l7.eq_2 x0_ x6 k):=qI.l7.eq_2 x0_ x6 k
theorem qI.j31_s k x0_ x6 y30:type_of% (qI.j31.eq_2 x0_ x6 y30 k):=qI.j31.eq_2 x0_ x6 y30 k
theorem qI.l40_s k x0_ x6 x39:type_of% (qI.l40.eq_2 x0_ x6 x39 k):=qI.l40.eq_2 x0_ x6 x39 k
theorem qI.j66_s k x0_ x6 x39 y65:type_of% (qI.j66.eq_2 x0_ x6 x39 y65 k):=qI.j66.eq_2 x0_ x6 x39 y65 k
theorem qI.l76_s k x0_ x6 x39 x75:type_of% (qI.l76.eq_2 x0_ x6 x39 x75 k):=qI.l76.eq_2 x0_ x6 x39 x75 k
theorem qI.j104_s k x0_ x6 x39 x75 y103:type_of% (qI.j104.eq_2 x0_ x6 x39 x75 y103 k):=qI.j104.eq_2 x0_ x6 x39 x75 y103 k
theorem qI.l113_s k x0_ x6 x39 x112:type_of% (qI.l113.eq_2 x0_ x6 x39 x112 k):=qI.l113.eq_2 x0_ x6 x39 x112 k
theorem qI.j137_s k x0_ x6 x39 x112 y136:type_of% (qI.j137.eq_2 x0_ x6 x39 x112 y136 k):=qI.j137.eq_2 x0_ x6 x39 x112 y136 k
def qI.f(k:Nat)(x0_:qJ):Option Bool:=qI.l7 k x0_ 0
def qI.Post(W F:World)(r:Bool)(v:Value)(w':World):Prop:=∃(F':World),v = .bool r∧St W (mine W []) F w' F' []
theorem qI.calls(k:Nat)(x0_:qJ)(A0_4:Option Addr)(c0_4:Nat)(A0_5:Option Addr)(c0_5:Nat)(A0_6:Option Addr)(c0_6:Nat)(r:Bool)(W F:World)(hown:Sub F W)(g0_4:Rd qA.k F A0_4 c0_4 x0_.f4)(g0_5:Rd qM.k F A0_5 c0_5 x0_.f5)(g0_6:Rd qF.k F A0_6 c0_6 x0_.f6)(H:qI.f k x0_=some r):
    Calls Tryz.prog 69 #[.agg #[iv x0_.f0,iv x0_.f1,iv x0_.f2,iv x0_.f3,.slice A0_4 x0_.f4.length c0_4,.slice A0_5 x0_.f5.length c0_5,.slice A0_6 x0_.f6.length c0_6]] W fun e w'=>∃ v,e = .returned v∧qI.Post W F r v w':=by
 have hS:=St.start (Own.nil hown)
 unfold qI.f at H
 refine enter (n:=139) rfl rfl rfl (Nat.le_of_ble_eq_true rfl) (fun a hE=>?_)
 refine sq fun K1 hK1=>pl0 (ple hE (.bx (t:=26) hS [iv x0_.f0,iv x0_.f1,iv x0_.f2,iv x0_.f3,.slice A0_4 x0_.f4.length c0_4,.slice A0_5 x0_.f5.length c0_5,.slice A0_6 x0_.f6.length c0_6]) ?_)
 rintro _ u3 a ⟨b2,rfl,hb2,hS,hg⟩ hE
 refine plc hE (.r 1 1 .nil) (fun a hE=>pld (hK1 _ _ (sq fun K4 hK4=>rr hE fun a hE=>(wp_block ?_))))
 refine wp_loop_ghost (fun kq8 a w'=>∃(G:Nat→Value)(x6:Int),kq8≤k∧Env 139 G a∧At G [(1,.pointer (pb b2)),(3,iv x6)]∧St W (mine W []) F w' F [box b2 #[iv x0_.f0,iv x0_.f1,iv x0_.f2,iv x0_.f3,.slice A0_4 x0_.f4.length c0_4,.slice A0_5 x0_.f5.length c0_5,.slice A0_6 x0_.f6.length c0_6] 26]∧qI.l7 kq8 x0_ x6=some r) k ⟨_,0,Nat.le_refl _,hE,.of,hS,H⟩ ?_
 rintro kq8 a u10 ⟨G,x6,hkq,hE,hA,hS,H⟩
 obtain _ | k9:=kq8
 ·
  exact zz H
 rw [qI.l7_s]at H
 obtain ⟨J,hE⟩:=hE.at hA
 refine sq fun K11 hK11=>sq fun K12 hK12=>pl0 ?_
 have hb2:=hS.ba 0
 refine plc hE (.r 0 2<|.b 2 6 hb2<|.r 3 2<|.nil) (fun a hE=>pld (hK12 _ _ ?_))
 refine hE.ik 13 H (fun c13 hE H=>?_) fun c13 hE H=>?_
 ·
  refine wp_skip (hK11 _ _ (sq fun K14 hK14=>wp_block (sq fun K15 hK15=>pl0 ?_)))
  obtain ⟨c16,H⟩:=gd H
  have hE_:=hE
  obtain ⟨ad17,rfl⟩:=g0_6.addr c16.1 c16.2
  replace hE:=hE_
  obtain ⟨cs19,⟨A21,c22,rfl,g23⟩,hc20⟩:=g0_6.el qF.z x6 c16.1 c16.2
  refine plc hE (.r 0 1<|.b 1 6 hb2<|.r 2 1<|.x 3 c16<|.cs 4 (hS.fcs hc20)<|.nil) (fun a hE=>ple hE (.al (t:=49) hS [iv 0,.slice none 0 0]) ?_)
  rintro _ u25 a ⟨b24,rfl,hb24,hS,hg⟩ hE
  refine ple hE (.sto hS [iv ((nth qF.z x0_.f6 x6).f0),.slice A21 (((nth qF.z x0_.f6 x6).f1).length) c22]) ?_
  rintro _ u26 a ⟨rfl,hb24,hS,hz⟩ hE
  refine pld (hK15 _ _ (sq fun K27 hK27=>sq fun K28 hK28=>?_))
  have J34:∀ kq32,kq32≤k9→∀(G:Nat→Value)(y30:Bool)(a:Act)(w':World),Env 139 G a→At G [(1,.pointer (pb b2)),(3,iv x6),(4,.pointer (pb b24)),(30,.bool y30)]→St W (mine W []) F w' F [box b24 #[iv ((nth qF.z x0_.f6 x6).f0),.slice A21 (((nth qF.z x0_.f6 x6).f1).length) c22] 49,box b2 #[iv x0_.f0,iv x0_.f1,iv x0_.f2,iv x0_.f3,.slice A0_4 x0_.f4.length c0_4,.slice A0_5 x0_.f5.length c0_5,.slice (some ad17) x0_.f6.length c0_6] 26]→qI.j31 kq32 x0_ x6 y30=some r→K28 a w':=by
   intro kq32 hkq G y30 a u35 hE hA hS H
   obtain _ | k33:=kq32
   ·
    exact zz H
   rw [qI.j31_s]at H
   obtain ⟨J,hE⟩:=hE.at hA
   refine hK28 _ _ ?_
   refine hE.ib 30 H (fun c36 hE H=>?_) fun c36 hE H=>?_
   ·
    refine rr hE fun a hE=>(wp_ret (qCD (qCE (qCD (qCD (qCE (qCD ?_)))))))
    replace hS:=hS.pm [] 2
    obtain rfl:=si H
    exact rt1 hE ⟨_,rfl,_,rfl,hS⟩
   refine wp_skip (hK27 _ _ (rr hE fun a hE=>(wp_block ?_)))
   refine wp_loop_ghost (fun kq41 a w'=>∃(G:Nat→Value)(x39:Int),kq41≤k33∧Env 139 G a∧At G [(1,.pointer (pb b2)),(3,iv x6),(4,.pointer (pb b24)),(5,iv x39)]∧St W (mine W []) F w' F [box b24 #[iv ((nth qF.z x0_.f6 x6).f0),.slice A21 (((nth qF.z x0_.f6 x6).f1).length) c22] 49,box b2 #[iv x0_.f0,iv x0_.f1,iv x0_.f2,iv x0_.f3,.slice A0_4 x0_.f4.length c0_4,.slice A0_5 x0_.f5.length c0_5,.slice (some ad17) x0_.f6.length c0_6] 26]∧qI.l40 kq41 x0_ x6 x39=some r) k33 ⟨_,0,Nat.le_refl _,hE,.of,hS,H⟩ ?_
   rintro kq41 a u43 ⟨G,x39,hkq,hE,hA,hS,H⟩
   obtain _ | k42:=kq41
   ·
    exact zz H
   rw [qI.l40_s]at H
   obtain ⟨J,hE⟩:=hE.at hA
   refine sq fun K44 hK44=>sq fun K45 hK45=>pl0 ?_
   have hb24:=hS.ba 0
   refine plc hE (.r 0 2<|.b 2 1 hb24<|.r 3 2<|.nil) (fun a hE=>pld (hK45 _ _ ?_))
   refine hE.ik 35 H (fun c46 hE H=>?_) fun c46 hE H=>?_
   ·
    refine wp_skip (hK44 _ _ (sq fun K47 hK47=>wp_block (sq fun K48 hK48=>pl0 ?_)))
    obtain ⟨c49,H⟩:=gd H
    have hE_:=hE
    obtain ⟨ad50,rfl⟩:=g23.addr c49.1 c49.2
    replace hE:=hE_
    obtain ⟨cs52,⟨A54,c55,rfl,g56⟩,hc53⟩:=g23.el qE.z x39 c49.1 c49.2
    refine plc hE (.r 0 1<|.b 1 1 hb24<|.r 2 1<|.x 3 c49<|.cs 4 (hS.fcs hc53)<|.nil) (fun a hE=>ple hE (.al (t:=51) hS [iv 0,.slice none 0 0]) ?_)
    rintro _ u58 a ⟨b57,rfl,hb57,hS,hg⟩ hE
    refine ple hE (.sto hS [iv ((nth qE.z ((nth qF.z x0_.f6 x6).f1) x39).f0),.slice A54 (((nth qE.z ((nth qF.z x0_.f6 x6).f1) x39).f1).length) c55]) ?_
    rintro _ u59 a ⟨rfl,hb57,hS,hz⟩ hE
    refine pld (hK48 _ _ (sq fun K60 hK60=>sq fun K61 hK61=>?_))
    have J69:∀ kq67,kq67≤k42→∀(G:Nat→Value)(y65:Bool)(a:Act)(w':World),Env 139 G a→At G [(1,.pointer (pb b2)),(3,iv x6),(4,.pointer (pb b24)),(5,iv x39),(6,.pointer (pb b57)),(68,.bool y65)]→St W (mine W []) F w' F [box b57 #[iv ((nth qE.z ((nth qF.z x0_.f6 x6).f1) x39).f0),.slice A54 (((nth qE.z ((nth qF.z x0_.f6 x6).f1) x39).f1).length) c55] 51,box b24 #[iv ((nth qF.z x0_.f6 x6).f0),.slice (some ad50) (((nth qF.z x0_.f6 x6).f1).length) c22] 49,box b2 #[iv x0_.f0,iv x0_.f1,iv x0_.f2,iv x0_.f3,.slice A0_4 x0_.f4.length c0_4,.slice A0_5 x0_.f5.length c0_5,.slice (some ad17) x0_.f6.length c0_6] 26]→qI.j66 kq67 x0_ x6 x39 y65=some r→K61 a w':=by
     intro kq67 hkq G y65 a u70 hE hA hS H
     obtain _ | k68:=kq67
     ·
      exact zz H
     rw [qI.j66_s]at H
     obtain ⟨J,hE⟩:=hE.at hA
     refine hK61 _ _ ?_
     refine hE.ib 68 H (fun c71 hE H=>?_) fun c71 hE H=>?_
     ·
      refine rr hE fun a hE=>(wp_ret (qCD (qCE (qCD (qCD (qCE (qCE (qCD (qCD (qCE (qCD ?_)))))))))))
      replace hS:=hS.pm [] 3
      obtain rfl:=si H
      exact rt1 hE ⟨_,rfl,_,rfl,hS⟩
     refine wp_skip (hK60 _ _ (sq fun K73 hK73=>rr hE fun a hE=>(wp_block ?_)))
     refine wp_loop_ghost (fun kq77 a w'=>∃(G:Nat→Value)(x75:Int),kq77≤k68∧Env 139 G a∧At G [(1,.pointer (pb b2)),(3,iv x6),(4,.pointer (pb b24)),(5,iv x39),(6,.pointer (pb b57)),(7,iv x75)]∧St W (mine W []) F w' F [box b57 #[iv ((nth qE.z ((nth qF.z x0_.f6 x6).f1) x39).f0),.slice A54 (((nth qE.z ((nth qF.z x0_.f6 x6).f1) x39).f1).length) c55] 51,box b24 #[iv ((nth qF.z x0_.f6 x6).f0),.slice (some ad50) (((nth qF.z x0_.f6 x6).f1).length) c22] 49,box b2 #[iv x0_.f0,iv x0_.f1,iv x0_.f2,iv x0_.f3,.slice A0_4 x0_.f4.length c0_4,.slice A0_5 x0_.f5.length c0_5,.slice (some ad17) x0_.f6.length c0_6] 26]∧qI.l76 kq77 x0_ x6 x39 x75=some r) k68 ⟨_,0,Nat.le_refl _,hE,.of,hS,H⟩ ?_
     rintro kq77 a u79 ⟨G,x75,hkq,hE,hA,hS,H⟩
     obtain _ | k78:=kq77
     ·
      exact zz H
     rw [qI.l76_s]at H
     obtain ⟨J,hE⟩:=hE.at hA
     refine sq fun K80 hK80=>sq fun K81 hK81=>pl0 ?_
     have hb57:=hS.ba 0
     refine plc hE (.r 0 2<|.b 2 1 hb57<|.r 3 2<|.nil) (fun a hE=>pld (hK81 _ _ ?_))
     refine hE.ik 73 H (fun c82 hE H=>?_) fun c82 hE H=>?_
     ·
      refine wp_skip (hK80 _ _ (sq fun K83 hK83=>wp_block (sq fun K84 hK84=>?_)))
      have J107:∀ kq105,kq105≤k78→∀(G:Nat→Value)(y103:Bool)(a:Act)(w':World),Env 139 G a→At G [(1,.pointer (pb b2)),(3,iv x6),(4,.pointer (pb b24)),(5,iv x39),(6,.pointer (pb b57)),(7,iv x75),(107,.bool y103)]→St W (mine W []) F w' F [box b57 #[iv ((nth qE.z ((nth qF.z x0_.f6 x6).f1) x39).f0),.slice A54 (((nth qE.z ((nth qF.z x0_.f6 x6).f1) x39).f1).length) c55] 51,box b24 #[iv ((nth qF.z x0_.f6 x6).f0),.slice (some ad50) (((nth qF.z x0_.f6 x6).f1).length) c22] 49,box b2 #[iv x0_.f0,iv x0_.f1,iv x0_.f2,iv x0_.f3,.slice A0_4 x0_.f4.length c0_4,.slice A0_5 x0_.f5.length c0_5,.slice (some ad17) x0_.f6.length c0_6] 26]→qI.j104 kq105 x0_ x6 x39 x75 y103=some r→K84 a w':=by
       intro kq105 hkq G y103 a u108 hE hA hS H
       obtain _ | k106:=kq105
       ·
        exact zz H
       rw [qI.j104_s]at H
       obtain ⟨J,hE⟩:=hE.at hA
       refine hK84 _ _ ?_
       refine hE.ib 107 H (fun c109 hE H=>?_) fun c109 hE H=>?_
       ·
        refine rr hE fun a hE=>(wp_ret (qCE (qCD (qCD (qCE (qCD (qCE (qCD (qCD (qCE (qCE (qCD (qCD (qCE (qCD ?_)))))))))))))))
        replace hS:=hS.pm [] 3
        obtain rfl:=si H
        exact rt1 hE ⟨_,rfl,_,rfl,hS⟩
       refine wp_skip ?_
       refine qCF ?_
       refine hK83 _ _ (pl0 (plc hE (.r 0 3 .nil) (fun a hE=>pld ?_)))
       exact qCG ⟨k106,by omega,_,(w64 (x75+1)),by omega,hE,.of,hS,H⟩
      refine drawn 32 ⟨[],[],fun q=>False⟩ mixed rfl (by kernel_rfl) (fun hst=>?_)
      replace hS:=hS.drew
      have hb57:=hS.ba 0
      obtain ⟨c85,H⟩:=gd H
      have hE_:=hE
      obtain ⟨ad86,rfl⟩:=g56.addr c85.1 c85.2
      replace hE:=hE_
      obtain ⟨cs88,rfl,hc89⟩:=g56.el 0 x75 c85.1 c85.2
      refine mny 25 hst hE (.r 0 1<|.b 1 1 hb57<|.r 2 1<|.x 3 c85<|.c 4 (hS.fc hc89 0)<|.r 5 2<|.nil) (fun a hE=>?_)
      rcases sp H with ⟨c90,H⟩ | ⟨c90,H⟩
      ·
       replace hE:=hE.kt 82 c90
       refine mny 0 hst hE (.r 7 25 .nil) (fun a hE=>?_)
       refine dn ?_
       exact J107 _ (by omega) _ true _ _ hE .of hS H
      replace hE:=hE.kf 82 c90
      refine mny 17 hst hE (.r 7 1<|.b 8 1 hb57<|.r 9 1<|.x 10 c85<|.c 11 (hS.fc hc89 0)<|.r 12 3<|.nil) (fun a hE=>?_)
      rcases sp H with ⟨c94,H⟩ | ⟨c94,H⟩
      ·
       replace hE:=hE.kt 90 c94
       refine mny 0 hst hE (.r 15 17 .nil) (fun a hE=>?_)
       refine dn ?_
       exact J107 _ (by omega) _ true _ _ hE .of hS H
      replace hE:=hE.kf 90 c94
      refine mny 14 hst hE (.r 15 3 .nil) (fun a hE=>?_)
      rcases sp H with ⟨c95,H⟩ | ⟨c95,H⟩
      ·
       replace hE:=hE.kt 93 c95
       obtain ⟨c96,H⟩:=gd H
       obtain ⟨cs98,rfl,hc99⟩:=g56.el 0 (w64 (x75 - 1)) c96.1 c96.2
       refine mny 0 hst hE (.r 18 1<|.b 19 1 hb57<|.r 20 2<|.x 22 c96<|.c 23 (hS.fc hc99 0)<|.r 24 1<|.b 25 1 hb57<|.r 26 1<|.x 27 c85<|.c 28 (hS.fc hc89 0)<|.r 29 3<|.nil) (fun a hE=>?_)
       refine dn ?_
       exact J107 _ (by omega) _ (decide ((nth 0 ((nth qE.z ((nth qF.z x0_.f6 x6).f1) x39).f1) (w64 (x75 - 1)))≥(nth 0 ((nth qE.z ((nth qF.z x0_.f6 x6).f1) x39).f1) x75))) _ _ hE .of hS H
      replace hE:=hE.kf 93 c95
      refine mny 0 hst hE (.r 18 14 .nil) (fun a hE=>?_)
      refine dn ?_
      exact J107 _ (by omega) _ false _ _ hE .of hS H
     refine wp_exit ?_
     refine hK73 _ _ (rr hE fun a hE=>(wp_block ?_))
     refine wp_loop_ghost (fun kq114 a w'=>∃(G:Nat→Value)(x112:Int),kq114≤k78∧Env 139 G a∧At G [(1,.pointer (pb b2)),(3,iv x6),(4,.pointer (pb b24)),(5,iv x39),(6,.pointer (pb b57)),(8,iv x112)]∧St W (mine W []) F w' F [box b57 #[iv ((nth qE.z ((nth qF.z x0_.f6 x6).f1) x39).f0),.slice A54 (((nth qE.z ((nth qF.z x0_.f6 x6).f1) x39).f1).length) c55] 51,box b24 #[iv ((nth qF.z x0_.f6 x6).f0),.slice (some ad50) (((nth qF.z x0_.f6 x6).f1).length) c22] 49,box b2 #[iv x0_.f0,iv x0_.f1,iv x0_.f2,iv x0_.f3,.slice A0_4 x0_.f4.length c0_4,.slice A0_5 x0_.f5.length c0_5,.slice (some ad17) x0_.f6.length c0_6] 26]∧qI.l113 kq114 x0_ x6 x39 x112=some r) k78 ⟨_,0,Nat.le_refl _,hE,.of,hS,H⟩ ?_
     rintro kq114 a u116 ⟨G,x112,hkq,hE,hA,hS,H⟩
     obtain _ | k115:=kq114
     ·
      exact zz H
     rw [qI.l113_s]at H
     obtain ⟨J,hE⟩:=hE.at hA
     refine sq fun K117 hK117=>rr hE fun a hE=>?_
     refine hE.ik 110 H (fun c119 hE H=>?_) fun c119 hE H=>?_
     ·
      refine wp_skip (hK117 _ _ (sq fun K120 hK120=>wp_block (sq fun K121 hK121=>?_)))
      have J140:∀ kq138,kq138≤k115→∀(G:Nat→Value)(y136:Bool)(a:Act)(w':World),Env 139 G a→At G [(1,.pointer (pb b2)),(3,iv x6),(4,.pointer (pb b24)),(5,iv x39),(6,.pointer (pb b57)),(8,iv x112),(132,.bool y136)]→St W (mine W []) F w' F [box b57 #[iv ((nth qE.z ((nth qF.z x0_.f6 x6).f1) x39).f0),.slice A54 (((nth qE.z ((nth qF.z x0_.f6 x6).f1) x39).f1).length) c55] 51,box b24 #[iv ((nth qF.z x0_.f6 x6).f0),.slice (some ad50) (((nth qF.z x0_.f6 x6).f1).length) c22] 49,box b2 #[iv x0_.f0,iv x0_.f1,iv x0_.f2,iv x0_.f3,.slice A0_4 x0_.f4.length c0_4,.slice A0_5 x0_.f5.length c0_5,.slice (some ad17) x0_.f6.length c0_6] 26]→qI.j137 kq138 x0_ x6 x39 x112 y136=some r→K121 a w':=by
       intro kq138 hkq G y136 a u141 hE hA hS H
       obtain _ | k139:=kq138
       ·
        exact zz H
       rw [qI.j137_s]at H
       obtain ⟨J,hE⟩:=hE.at hA
       refine hK121 _ _ ?_
       refine hE.ib 132 H (fun c142 hE H=>?_) fun c142 hE H=>?_
       ·
        refine rr hE fun a hE=>(wp_ret (qCE (qCD (qCD (qCE (qCE (qCD (qCD (qCE (qCE (qCD (qCD (qCE (qCD ?_))))))))))))))
        replace hS:=hS.pm [] 3
        obtain rfl:=si H
        exact rt1 hE ⟨_,rfl,_,rfl,hS⟩
       refine wp_skip ?_
       refine qCF ?_
       refine hK120 _ _ (pl0 (plc hE (.r 0 3 .nil) (fun a hE=>pld ?_)))
       exact qCG ⟨k139,by omega,_,(w64 (x112+1)),by omega,hE,.of,hS,H⟩
      refine drawn 20 ⟨[],[],fun q=>False⟩ mixed rfl (by kernel_rfl) (fun hst=>?_)
      replace hS:=hS.drew
      have hb24:=hS.ba 1
      obtain ⟨c122,H⟩:=gd H
      obtain ⟨cs124,⟨A126,c127,rfl,g128⟩,hc125⟩:=g23.el qE.z x112 c122.1 c122.2
      have hb57:=hS.ba 0
      refine mny 10 hst hE (.r 0 1<|.b 1 1 hb24<|.r 2 1<|.x 3 c122<|.r 4 1<|.c 5 (hS.fc hc125 0)<|.r 6 1<|.b 7 0 hb57<|.r 8 2<|.nil) (fun a hE=>?_)
      rcases sp H with ⟨c129,H⟩ | ⟨c129,H⟩
      ·
       replace hE:=hE.kt 122 c129
       refine mny 0 hst hE (.r 10 10 .nil) (fun a hE=>?_)
       refine dn ?_
       exact J140 _ (by omega) _ true _ _ hE .of hS H
      replace hE:=hE.kf 122 c129
      refine mny 2 hst hE (.r 10 1<|.b 11 1 hb24<|.r 12 1<|.x 13 c122<|.r 14 1<|.c 15 (hS.fc hc125 1)<|.r 16 1<|.b 17 1 hb57<|.nil) (fun a hE=>?_)
      obtain ⟨t134,h135,H⟩:=bd H
      refine on1 18 hE (.cl en21 (qz.calls k115 ((nth qE.z ((nth qF.z x0_.f6 x6).f1) x112).f1) ((nth qE.z ((nth qF.z x0_.f6 x6).f1) x39).f1) _ _ _ _ _ _ _ hS.own.sub g128 g56 h135)) ?_
      rintro _ u133 a ⟨_,rfl,hC⟩ hE
      refine ⟨.of hC.agr,?_⟩
      replace hS:=hS.lent hC
      refine mny 0 hst hE (.r 19 1 .nil) (fun a hE=>?_)
      refine dn ?_
      exact J140 _ (by omega) _ t134 _ _ hE .of hS H
     refine wp_exit ?_
     refine hK47 _ _ (pl0 (plc hE (.r 0 3 .nil) (fun a hE=>pld ?_)))
     replace hS:=hS.tail
     exact qCG ⟨k115,by omega,_,(w64 (x39+1)),by omega,hE,.of,hS,H⟩
    refine pl0 (plc hE (.r 0 1<|.b 1 0 hb57<|.r 2 2<|.nil) (fun a hE=>?_))
    rcases sp H with ⟨c62,H⟩ | ⟨c62,H⟩
    ·
     replace hE:=hE.kt 46 c62
     refine plc hE (.r 4 22 .nil) (fun a hE=>pld ?_)
     exact J69 _ (by omega) _ true _ _ hE .of hS H
    replace hE:=hE.kf 46 c62
    have hb24:=hS.ba 1
    refine plc hE (.r 4 1<|.b 5 0 hb57<|.r 6 1<|.b 7 0 hb24<|.r 8 3<|.nil) (fun a hE=>?_)
    rcases sp H with ⟨c63,H⟩ | ⟨c63,H⟩
    ·
     replace hE:=hE.kt 53 c63
     refine plc hE (.r 11 15 .nil) (fun a hE=>pld ?_)
     exact J69 _ (by omega) _ true _ _ hE .of hS H
    replace hE:=hE.kf 53 c63
    have hb2:=hS.ba 2
    refine plc hE (.r 11 1<|.b 12 1 hb57<|.r 13 2<|.b 15 2 hb2<|.r 16 3<|.nil) (fun a hE=>?_)
    rcases sp H with ⟨c64,H⟩ | ⟨c64,H⟩
    ·
     replace hE:=hE.kt 61 c64
     refine plc hE (.r 19 7 .nil) (fun a hE=>pld ?_)
     exact J69 _ (by omega) _ true _ _ hE .of hS H
    replace hE:=hE.kf 61 c64
    refine plc hE (.r 19 1<|.b 20 1 hb57<|.r 21 2<|.b 23 1 hb2<|.r 24 2<|.nil) (fun a hE=>pld ?_)
    exact J69 _ (by omega) _ (decide ((((nth qE.z ((nth qF.z x0_.f6 x6).f1) x39).f1).length:Int)>x0_.f1)) _ _ hE .of hS H
   refine wp_exit ?_
   refine hK14 _ _ (pl0 (plc hE (.r 0 3 .nil) (fun a hE=>pld ?_)))
   replace hS:=hS.tail
   exact qCG ⟨k42,by omega,_,(w64 (x6+1)),by omega,hE,.of,hS,H⟩
  refine pl0 (plc hE (.r 0 1<|.b 1 0 hb24<|.r 2 2<|.nil) (fun a hE=>?_))
  rcases sp H with ⟨c29,H⟩ | ⟨c29,H⟩
  ·
   replace hE:=hE.kt 24 c29
   refine plc hE (.r 4 6 .nil) (fun a hE=>pld ?_)
   exact J34 _ (by omega) _ true _ _ hE .of hS H
  replace hE:=hE.kf 24 c29
  have hb2:=hS.ba 1
  refine plc hE (.r 4 1<|.b 5 0 hb24<|.r 6 1<|.b 7 0 hb2<|.r 8 2<|.nil) (fun a hE=>pld ?_)
  exact J34 _ (by omega) _ (decide ((nth qF.z x0_.f6 x6).f0>x0_.f0)) _ _ hE .of hS H
 refine wp_exit ?_
 refine hK4 _ _ (rg hE (.r 0 1<|.b 1 6 hb2<|.r 2 2<|.b 4 3 hb2<|.r 5 2<|.nil) fun a hE=>(wp_ret ?_))
 replace hS:=hS.tail
 obtain rfl:=si H
 exact rt1 hE ⟨_,rfl,_,rfl,hS⟩
mutual
def qa.j18:Nat→qJ→Bool→Option Bool
 | 0,_,_=>none
 | k+1,x0_,y17=>if y17=true then (some false) else (qa.l28 k x0_ 0)
def qa.l28:Nat→qJ→Int→Option Bool
 | 0,_,_=>none
 | k+1,x0_,x27=>if x27<(x0_.f5.length:Int) then (if 0≤x27∧x27<(x0_.f5.length:Int) then (if (nth qM.z x0_.f5 x27).f0<0 then (qa.j71 k x0_ x27 true) else (if (nth qM.z x0_.f5 x27).f0≥x0_.f3 then (qa.j71 k x0_ x27 true) else (if x27>0 then (if 0≤(w64 (x27 - 1))∧(w64 (x27 - 1))<(x0_.f5.length:Int) then (if (nth qM.z x0_.f5 (w64 (x27 - 1))).f0≥(nth qM.z x0_.f5 x27).f0 then (qa.j71 k x0_ x27 true) else (if (((nth qM.z x0_.f5 x27).f1).length:Int)<1 then (qa.j71 k x0_ x27 true) else (if (((nth qM.z x0_.f5 x27).f1).length:Int)>x0_.f1 then (qa.j71 k x0_ x27 true) else ((qn.f k x0_.f4 ((nth qM.z x0_.f5 x27).f1)).bind fun t63=>(qa.j71 k x0_ x27 (!t63)))))) else (none)) else (if (((nth qM.z x0_.f5 x27).f1).length:Int)<1 then (qa.j71 k x0_ x27 true) else (if (((nth qM.z x0_.f5 x27).f1).length:Int)>x0_.f1 then (qa.j71 k x0_ x27 true) else ((qn.f k x0_.f4 ((nth qM.z x0_.f5 x27).f1)).bind fun t68=>(qa.j71 k x0_ x27 (!t68)))))))) else (none)) else ((qI.f k x0_).bind fun t80=>(some t80))
def qa.j71:Nat→qJ→Int→Bool→Option Bool
 | 0,_,_,_=>none
 | k+1,x0_,x27,y70=>if y70=true then (some false) else (qa.l28 k x0_ (w64 (x27+1)))
end
theorem qa.j18_s k x0_ y17:type_of% (qa.j18.eq_2 x0_ y17 k):=qa.j18.eq_2 x0_ y17 k
theorem qa.l28_s k x0_ x27:type_of% (qa.l28.eq_2 x0_ x27 k):=qa.l28.eq_2 x0_ x27 k
theorem qa.j71_s k x0_ x27 y70:type_of% (qa.j71.eq_2 x0_ x27 y70 k):=qa.j71.eq_2 x0_ x27 y70 k
def qa.f(k:Nat)(x0_:qJ):Option Bool:=if x0_.f0<0 then (qa.j18 k x0_ true) else (if x0_.f0≥2147483648 then (qa.j18 k x0_ true) else (if x0_.f1<1 then (qa.j18 k x0_ true) else (if x0_.f1>3 then (qa.j18 k x0_ true) else (if x0_.f2<1 then (qa.j18 k x0_ true) else (if x0_.f2>x0_.f1 then (qa.j18 k x0_ true) else (if x0_.f3<1 then (qa.j18 k x0_ true) else (if x0_.f3>8 then (qa.j18 k x0_ true) else ((qm.f k x0_.f4).bind fun t15=>(qa.j18 k x0_ (!t15))))))))))
def qa.Post(W F:World)(r:Bool)(v:Value)(w':World):Prop:=∃(F':World),v = .bool r∧St W (mine W []) F w' F' []
theorem qa.calls(k:Nat)(x0_:qJ)(A0_4:Option Addr)(c0_4:Nat)(A0_5:Option Addr)(c0_5:Nat)(A0_6:Option Addr)(c0_6:Nat)(r:Bool)(W F:World)(hown:Sub F W)(g0_4:Rd qA.k F A0_4 c0_4 x0_.f4)(g0_5:Rd qM.k F A0_5 c0_5 x0_.f5)(g0_6:Rd qF.k F A0_6 c0_6 x0_.f6)(H:qa.f k x0_=some r):
    Calls Tryz.prog 19 #[.agg #[iv x0_.f0,iv x0_.f1,iv x0_.f2,iv x0_.f3,.slice A0_4 x0_.f4.length c0_4,.slice A0_5 x0_.f5.length c0_5,.slice A0_6 x0_.f6.length c0_6]] W fun e w'=>∃ v,e = .returned v∧qa.Post W F r v w':=by
 have hS:=St.start (Own.nil hown)
 unfold qa.f at H
 refine enter (n:=113) rfl rfl rfl (Nat.le_of_ble_eq_true rfl) (fun a hE=>?_)
 refine sq fun K1 hK1=>pl0 (ple hE (.bx (t:=26) hS [iv x0_.f0,iv x0_.f1,iv x0_.f2,iv x0_.f3,.slice A0_4 x0_.f4.length c0_4,.slice A0_5 x0_.f5.length c0_5,.slice A0_6 x0_.f6.length c0_6]) ?_)
 rintro _ u3 a ⟨b2,rfl,hb2,hS,hg⟩ hE
 refine plc hE (.r 1 1 .nil) (fun a hE=>pld (hK1 _ _ (sq fun K4 hK4=>sq fun K5 hK5=>?_)))
 have J21:∀ kq19,kq19≤k→∀(G:Nat→Value)(y17:Bool)(a:Act)(w':World),Env 113 G a→At G [(1,.pointer (pb b2)),(50,.bool y17)]→St W (mine W []) F w' F [box b2 #[iv x0_.f0,iv x0_.f1,iv x0_.f2,iv x0_.f3,.slice A0_4 x0_.f4.length c0_4,.slice A0_5 x0_.f5.length c0_5,.slice A0_6 x0_.f6.length c0_6] 26]→qa.j18 kq19 x0_ y17=some r→K5 a w':=by
  intro kq19 hkq G y17 a u22 hE hA hS H
  obtain _ | k20:=kq19
  ·
   exact zz H
  rw [qa.j18_s]at H
  obtain ⟨J,hE⟩:=hE.at hA
  refine hK5 _ _ ?_
  refine hE.ib 50 H (fun c23 hE H=>?_) fun c23 hE H=>?_
  ·
   refine rr hE fun a hE=>(wp_ret (qCD ?_))
   replace hS:=hS.tail
   obtain rfl:=si H
   exact rt1 hE ⟨_,rfl,_,rfl,hS⟩
  refine wp_skip (hK4 _ _ (sq fun K25 hK25=>rr hE fun a hE=>(wp_block ?_)))
  refine wp_loop_ghost (fun kq29 a w'=>∃(G:Nat→Value)(x27:Int),kq29≤k20∧Env 113 G a∧At G [(1,.pointer (pb b2)),(3,iv x27)]∧St W (mine W []) F w' F [box b2 #[iv x0_.f0,iv x0_.f1,iv x0_.f2,iv x0_.f3,.slice A0_4 x0_.f4.length c0_4,.slice A0_5 x0_.f5.length c0_5,.slice A0_6 x0_.f6.length c0_6] 26]∧qa.l28 kq29 x0_ x27=some r) k20 ⟨_,0,Nat.le_refl _,hE,.of,hS,H⟩ ?_
  rintro kq29 a u31 ⟨G,x27,hkq,hE,hA,hS,H⟩
  obtain _ | k30:=kq29
  ·
   exact zz H
  rw [qa.l28_s]at H
  obtain ⟨J,hE⟩:=hE.at hA
  refine sq fun K32 hK32=>sq fun K33 hK33=>pl0 ?_
  have hb2:=hS.ba 0
  refine plc hE (.r 0 2<|.b 2 5 hb2<|.r 3 2<|.nil) (fun a hE=>pld (hK33 _ _ ?_))
  refine hE.ik 55 H (fun c34 hE H=>?_) fun c34 hE H=>?_
  ·
   refine wp_skip (hK32 _ _ (sq fun K35 hK35=>wp_block (sq fun K36 hK36=>pl0 ?_)))
   obtain ⟨c37,H⟩:=gd H
   have hE_:=hE
   obtain ⟨ad38,rfl⟩:=g0_5.addr c37.1 c37.2
   replace hE:=hE_
   obtain ⟨cs40,⟨A42,c43,rfl,g44⟩,hc41⟩:=g0_5.el qM.z x27 c37.1 c37.2
   refine plc hE (.r 0 1<|.b 1 5 hb2<|.r 2 1<|.x 3 c37<|.cs 4 (hS.fcs hc41)<|.nil) (fun a hE=>ple hE (.al (t:=97) hS [iv 0,.slice none 0 0]) ?_)
   rintro _ u46 a ⟨b45,rfl,hb45,hS,hg⟩ hE
   refine ple hE (.sto hS [iv ((nth qM.z x0_.f5 x27).f0),.slice A42 (((nth qM.z x0_.f5 x27).f1).length) c43]) ?_
   rintro _ u47 a ⟨rfl,hb45,hS,hz⟩ hE
   refine pld (hK36 _ _ (sq fun K48 hK48=>?_))
   have J74:∀ kq72,kq72≤k30→∀(G:Nat→Value)(y70:Bool)(a:Act)(w':World),Env 113 G a→At G [(1,.pointer (pb b2)),(3,iv x27),(110,.bool y70)]→St W (mine W []) F w' F [box b45 #[iv ((nth qM.z x0_.f5 x27).f0),.slice A42 (((nth qM.z x0_.f5 x27).f1).length) c43] 97,box b2 #[iv x0_.f0,iv x0_.f1,iv x0_.f2,iv x0_.f3,.slice A0_4 x0_.f4.length c0_4,.slice (some ad38) x0_.f5.length c0_5,.slice A0_6 x0_.f6.length c0_6] 26]→qa.j71 kq72 x0_ x27 y70=some r→K48 a w':=by
    intro kq72 hkq G y70 a u75 hE hA hS H
    obtain _ | k73:=kq72
    ·
     exact zz H
    rw [qa.j71_s]at H
    obtain ⟨J,hE⟩:=hE.at hA
    refine hK48 _ _ ?_
    refine hE.ib 110 H (fun c76 hE H=>?_) fun c76 hE H=>?_
    ·
     refine rr hE fun a hE=>(wp_ret (qCE (qCD (qCD (qCE (qCD ?_))))))
     replace hS:=hS.pm [] 2
     obtain rfl:=si H
     exact rt1 hE ⟨_,rfl,_,rfl,hS⟩
    refine wp_skip ?_
    refine qCF ?_
    refine hK35 _ _ (pl0 (plc hE (.r 0 3 .nil) (fun a hE=>pld ?_)))
    replace hS:=hS.tail
    exact qCG ⟨k73,by omega,_,(w64 (x27+1)),by omega,hE,.of,hS,H⟩
   refine drawn 48 ⟨[],[],fun q=>False⟩ mixed rfl (by kernel_rfl) (fun hst=>?_)
   replace hS:=hS.drew
   have hb45:=hS.ba 0
   refine mny 44 hst hE (.r 0 1<|.b 1 0 hb45<|.r 2 2<|.nil) (fun a hE=>?_)
   rcases sp H with ⟨c49,H⟩ | ⟨c49,H⟩
   ·
    replace hE:=hE.kt 66 c49
    refine mny 0 hst hE (.r 4 44 .nil) (fun a hE=>?_)
    refine dn ?_
    exact J74 _ (by omega) _ true _ _ hE .of hS H
   replace hE:=hE.kf 66 c49
   have hb2:=hS.ba 1
   refine mny 37 hst hE (.r 4 1<|.b 5 0 hb45<|.r 6 1<|.b 7 3 hb2<|.r 8 3<|.nil) (fun a hE=>?_)
   rcases sp H with ⟨c50,H⟩ | ⟨c50,H⟩
   ·
    replace hE:=hE.kt 73 c50
    refine mny 0 hst hE (.r 11 37 .nil) (fun a hE=>?_)
    refine dn ?_
    exact J74 _ (by omega) _ true _ _ hE .of hS H
   replace hE:=hE.kf 73 c50
   refine mny 34 hst hE (.r 11 3 .nil) (fun a hE=>?_)
   rcases sp H with ⟨c51,H⟩ | ⟨c51,H⟩
   ·
    replace hE:=hE.kt 76 c51
    obtain ⟨c52,H⟩:=gd H
    obtain ⟨cs54,⟨A56,c57,rfl,g58⟩,hc55⟩:=g0_5.el qM.z (w64 (x27 - 1)) c52.1 c52.2
    refine mny 21 hst hE (.r 14 1<|.b 15 5 hb2<|.r 16 2<|.x 18 c52<|.r 19 1<|.c 20 (hS.fc hc55 0)<|.r 21 1<|.b 22 0 hb45<|.r 23 4<|.nil) (fun a hE=>?_)
    rcases sp H with ⟨c59,H⟩ | ⟨c59,H⟩
    ·
     replace hE:=hE.kt 89 c59
     refine mny 0 hst hE (.r 27 21 .nil) (fun a hE=>?_)
     refine dn ?_
     exact J74 _ (by omega) _ true _ _ hE .of hS H
    replace hE:=hE.kf 89 c59
    refine mny 15 hst hE (.r 27 1<|.b 28 1 hb45<|.r 29 4<|.nil) (fun a hE=>?_)
    rcases sp H with ⟨c60,H⟩ | ⟨c60,H⟩
    ·
     replace hE:=hE.kt 95 c60
     refine mny 0 hst hE (.r 33 15 .nil) (fun a hE=>?_)
     refine dn ?_
     exact J74 _ (by omega) _ true _ _ hE .of hS H
    replace hE:=hE.kf 95 c60
    refine mny 7 hst hE (.r 33 1<|.b 34 1 hb45<|.r 35 2<|.b 37 1 hb2<|.r 38 3<|.nil) (fun a hE=>?_)
    rcases sp H with ⟨c61,H⟩ | ⟨c61,H⟩
    ·
     replace hE:=hE.kt 103 c61
     refine mny 0 hst hE (.r 41 7 .nil) (fun a hE=>?_)
     refine dn ?_
     exact J74 _ (by omega) _ true _ _ hE .of hS H
    replace hE:=hE.kf 103 c61
    refine mny 3 hst hE (.r 41 1<|.b 42 4 hb2<|.r 43 1<|.b 44 1 hb45<|.nil) (fun a hE=>?_)
    obtain ⟨t63,h64,H⟩:=bd H
    refine on1 45 hE (.cl en68 (qn.calls k30 x0_.f4 ((nth qM.z x0_.f5 x27).f1) _ _ _ _ _ _ _ hS.own.sub g0_4 g44 h64)) ?_
    rintro _ u62 a ⟨_,rfl,hC⟩ hE
    refine ⟨.of hC.agr,?_⟩
    replace hS:=hS.lent hC
    refine mny 0 hst hE (.r 46 2 .nil) (fun a hE=>?_)
    refine dn ?_
    exact J74 _ (by omega) _ (!t63) _ _ hE .of hS H
   replace hE:=hE.kf 76 c51
   refine mny 15 hst hE (.r 14 14<|.b 28 1 hb45<|.r 29 4<|.nil) (fun a hE=>?_)
   rcases sp H with ⟨c65,H⟩ | ⟨c65,H⟩
   ·
    replace hE:=hE.kt 95 c65
    refine mny 0 hst hE (.r 33 15 .nil) (fun a hE=>?_)
    refine dn ?_
    exact J74 _ (by omega) _ true _ _ hE .of hS H
   replace hE:=hE.kf 95 c65
   refine mny 7 hst hE (.r 33 1<|.b 34 1 hb45<|.r 35 2<|.b 37 1 hb2<|.r 38 3<|.nil) (fun a hE=>?_)
   rcases sp H with ⟨c66,H⟩ | ⟨c66,H⟩
   ·
    replace hE:=hE.kt 103 c66
    refine mny 0 hst hE (.r 41 7 .nil) (fun a hE=>?_)
    refine dn ?_
    exact J74 _ (by omega) _ true _ _ hE .of hS H
   replace hE:=hE.kf 103 c66
   refine mny 3 hst hE (.r 41 1<|.b 42 4 hb2<|.r 43 1<|.b 44 1 hb45<|.nil) (fun a hE=>?_)
   obtain ⟨t68,h69,H⟩:=bd H
   refine on1 45 hE (.cl en68 (qn.calls k30 x0_.f4 ((nth qM.z x0_.f5 x27).f1) _ _ _ _ _ _ _ hS.own.sub g0_4 g44 h69)) ?_
   rintro _ u67 a ⟨_,rfl,hC⟩ hE
   refine ⟨.of hC.agr,?_⟩
   replace hS:=hS.lent hC
   refine mny 0 hst hE (.r 46 2 .nil) (fun a hE=>?_)
   refine dn ?_
   exact J74 _ (by omega) _ (!t68) _ _ hE .of hS H
  refine wp_exit ?_
  refine hK25 _ _ (sq fun K78 hK78=>pl0 (plc hE (.bn 0 0 7 hb2 .nil) (fun a hE=>?_)))
  obtain ⟨t80,h81,H⟩:=bd H
  refine ple hE (.cl en69 (qI.calls k30 x0_ _ _ _ _ _ _ _ _ _ hS.own.sub g0_4 g0_5 g0_6 h81)) ?_
  rintro _ u79 a ⟨_,rfl,hC⟩ hE
  replace hS:=hS.lent hC
  refine plc hE (.r 2 1 .nil) (fun a hE=>pld (hK78 _ _ (wp_ret ?_)))
  replace hS:=hS.tail
  obtain rfl:=si H
  exact rt1 hE ⟨_,rfl,_,rfl,hS⟩
 refine pl0 (plc hE (.r 0 1<|.b 1 0 hb2<|.r 2 2<|.nil) (fun a hE=>?_))
 rcases sp H with ⟨c6,H⟩ | ⟨c6,H⟩
 ·
  replace hE:=hE.kt 8 c6
  refine plc hE (.r 4 42 .nil) (fun a hE=>pld ?_)
  exact J21 _ (by omega) _ true _ _ hE .of hS H
 replace hE:=hE.kf 8 c6
 refine plc hE (.r 4 1<|.b 5 0 hb2<|.r 6 3<|.nil) (fun a hE=>?_)
 rcases sp H with ⟨c7,H⟩ | ⟨c7,H⟩
 ·
  replace hE:=hE.kt 13 c7
  refine plc hE (.r 9 37 .nil) (fun a hE=>pld ?_)
  exact J21 _ (by omega) _ true _ _ hE .of hS H
 replace hE:=hE.kf 13 c7
 refine plc hE (.r 9 1<|.b 10 1 hb2<|.r 11 3<|.nil) (fun a hE=>?_)
 rcases sp H with ⟨c8,H⟩ | ⟨c8,H⟩
 ·
  replace hE:=hE.kt 18 c8
  refine plc hE (.r 14 32 .nil) (fun a hE=>pld ?_)
  exact J21 _ (by omega) _ true _ _ hE .of hS H
 replace hE:=hE.kf 18 c8
 refine plc hE (.r 14 1<|.b 15 1 hb2<|.r 16 3<|.nil) (fun a hE=>?_)
 rcases sp H with ⟨c9,H⟩ | ⟨c9,H⟩
 ·
  replace hE:=hE.kt 23 c9
  refine plc hE (.r 19 27 .nil) (fun a hE=>pld ?_)
  exact J21 _ (by omega) _ true _ _ hE .of hS H
 replace hE:=hE.kf 23 c9
 refine plc hE (.r 19 1<|.b 20 2 hb2<|.r 21 3<|.nil) (fun a hE=>?_)
 rcases sp H with ⟨c10,H⟩ | ⟨c10,H⟩
 ·
  replace hE:=hE.kt 28 c10
  refine plc hE (.r 24 22 .nil) (fun a hE=>pld ?_)
  exact J21 _ (by omega) _ true _ _ hE .of hS H
 replace hE:=hE.kf 28 c10
 refine plc hE (.r 24 1<|.b 25 2 hb2<|.r 26 1<|.b 27 1 hb2<|.r 28 3<|.nil) (fun a hE=>?_)
 rcases sp H with ⟨c11,H⟩ | ⟨c11,H⟩
 ·
  replace hE:=hE.kt 35 c11
  refine plc hE (.r 31 15 .nil) (fun a hE=>pld ?_)
  exact J21 _ (by omega) _ true _ _ hE .of hS H
 replace hE:=hE.kf 35 c11
 refine plc hE (.r 31 1<|.b 32 3 hb2<|.r 33 3<|.nil) (fun a hE=>?_)
 rcases sp H with ⟨c12,H⟩ | ⟨c12,H⟩
 ·
  replace hE:=hE.kt 40 c12
  refine plc hE (.r 36 10 .nil) (fun a hE=>pld ?_)
  exact J21 _ (by omega) _ true _ _ hE .of hS H
 replace hE:=hE.kf 40 c12
 refine plc hE (.r 36 1<|.b 37 3 hb2<|.r 38 3<|.nil) (fun a hE=>?_)
 rcases sp H with ⟨c13,H⟩ | ⟨c13,H⟩
 ·
  replace hE:=hE.kt 45 c13
  refine plc hE (.r 41 5 .nil) (fun a hE=>pld ?_)
  exact J21 _ (by omega) _ true _ _ hE .of hS H
 replace hE:=hE.kf 45 c13
 refine plc hE (.r 41 1<|.b 42 4 hb2<|.nil) (fun a hE=>?_)
 obtain ⟨t15,h16,H⟩:=bd H
 refine ple hE (.cl en67 (qm.calls k x0_.f4 _ _ _ _ _ hS.own.sub g0_4 h16)) ?_
 rintro _ u14 a ⟨_,rfl,hC⟩ hE
 replace hS:=hS.lent hC
 refine plc hE (.r 44 2 .nil) (fun a hE=>pld ?_)
 exact J21 _ (by omega) _ (!t15) _ _ hE .of hS H
mutual
def qg.l6:Nat→List qC→Int→Option Bool
 | 0,_,_=>none
 | k+1,x0_,x5=>if x5<(x0_.length:Int) then (if 0≤x5∧x5<(x0_.length:Int) then (if (nth qC.z x0_ x5).f0<1 then (qg.j35 k x0_ x5 true) else (if (nth qC.z x0_ x5).f0>999 then (qg.j35 k x0_ x5 true) else (if (nth qC.z x0_ x5).f1<0 then (qg.j35 k x0_ x5 true) else (if (nth qC.z x0_ x5).f1>2147483647 then (qg.j35 k x0_ x5 true) else (if (nth qC.z x0_ x5).f2<0 then (qg.j35 k x0_ x5 true) else (if (nth qC.z x0_ x5).f2>2147483647 then (qg.j35 k x0_ x5 true) else (if (nth qC.z x0_ x5).f3<0 then (qg.j35 k x0_ x5 true) else (if (nth qC.z x0_ x5).f3>2147483647 then (qg.j35 k x0_ x5 true) else (if (nth qC.z x0_ x5).f4<0 then (qg.j35 k x0_ x5 true) else (qg.j35 k x0_ x5 (decide ((nth qC.z x0_ x5).f4>(nth qC.z x0_ x5).f3)))))))))))) else (none)) else (some (decide ((x0_.length:Int)≤12)))
def qg.j35:Nat→List qC→Int→Bool→Option Bool
 | 0,_,_,_=>none
 | k+1,x0_,x5,y34=>if y34=true then (some false) else (qg.l44 k x0_ x5 0)
def qg.l44:Nat→List qC→Int→Int→Option Bool
 | 0,_,_,_=>none
 | k+1,x0_,x5,x43=>if x43<x5 then (if 0≤x43∧x43<(x0_.length:Int) then (if (nth qC.z x0_ x43).f0=(nth qC.z x0_ x5).f0 then (some false) else (qg.l44 k x0_ x5 (w64 (x43+1)))) else (none)) else (qg.l6 k x0_ (w64 (x5+1)))
end
theorem qg.l6_s k x0_ x5:type_of% (qg.l6.eq_2 x0_ x5 k):=qg.l6.eq_2 x0_ x5 k
theorem qg.j35_s k x0_ x5 y34:type_of% (qg.j35.eq_2 x0_ x5 y34 k):=qg.j35.eq_2 x0_ x5 y34 k
theorem qg.l44_s k x0_ x5 x43:type_of% (qg.l44.eq_2 x0_ x5 x43 k):=qg.l44.eq_2 x0_ x5 x43 k
def qg.f(k:Nat)(x0_:List qC):Option Bool:=qg.l6 k x0_ 0
def qg.Post(W F:World)(r:Bool)(v:Value)(w':World):Prop:=∃(F':World),v = .bool r∧St W (mine W []) F w' F' []
theorem qg.calls(k:Nat)(x0_:List qC)(A0_0:Option Addr)(c0_0:Nat)(r:Bool)(W F:World)(hown:Sub F W)(g0_0:Rd qC.k F A0_0 c0_0 x0_)(H:qg.f k x0_=some r):
    Calls Tryz.prog 59 #[.slice A0_0 x0_.length c0_0] W fun e w'=>∃ v,e = .returned v∧qg.Post W F r v w':=by
 have hS:=St.start (Own.nil hown)
 unfold qg.f at H
 refine enter (n:=86) rfl rfl rfl (Nat.le_of_ble_eq_true rfl) (fun a hE=>?_)
 refine rr hE fun a hE=>(rr hE fun a hE=>(sq fun K3 hK3=>rr hE fun a hE=>(wp_block ?_)))
 refine wp_loop_ghost (fun kq7 a w'=>∃(G:Nat→Value)(x5:Int),kq7≤k∧Env 86 G a∧At G [(0,.slice A0_0 x0_.length c0_0),(3,iv 2147483647),(4,iv x5)]∧St W (mine W []) F w' F []∧qg.l6 kq7 x0_ x5=some r) k ⟨_,0,Nat.le_refl _,hE,.of,hS,H⟩ ?_
 rintro kq7 a u9 ⟨G,x5,hkq,hE,hA,hS,H⟩
 obtain _ | k8:=kq7
 ·
  exact zz H
 rw [qg.l6_s]at H
 obtain ⟨J,hE⟩:=hE.at hA
 refine sq fun K10 hK10=>rr hE fun a hE=>?_
 refine hE.ik 10 H (fun c12 hE H=>?_) fun c12 hE H=>?_
 ·
  refine wp_skip (hK10 _ _ (sq fun K13 hK13=>wp_block (sq fun K14 hK14=>pl0 ?_)))
  obtain ⟨c15,H⟩:=gd H
  have hE_:=hE
  obtain ⟨ad16,rfl⟩:=g0_0.addr c15.1 c15.2
  replace hE:=hE_
  obtain ⟨cs18,rfl,hc19⟩:=g0_0.el qC.z x5 c15.1 c15.2
  refine plc hE (.r 0 2<|.x 2 c15<|.cs 3 (hS.fcs hc19)<|.nil) (fun a hE=>ple hE (.al (t:=86) hS [iv 0,iv 0,iv 0,iv 0,iv 0]) ?_)
  rintro _ u21 a ⟨b20,rfl,hb20,hS,hg⟩ hE
  refine ple hE (.sto hS [iv ((nth qC.z x0_ x5).f0),iv ((nth qC.z x0_ x5).f1),iv ((nth qC.z x0_ x5).f2),iv ((nth qC.z x0_ x5).f3),iv ((nth qC.z x0_ x5).f4)]) ?_
  rintro _ u22 a ⟨rfl,hb20,hS,hz⟩ hE
  refine pld (hK14 _ _ (sq fun K23 hK23=>sq fun K24 hK24=>?_))
  have J38:∀ kq36,kq36≤k8→∀(G:Nat→Value)(y34:Bool)(a:Act)(w':World),Env 86 G a→At G [(0,.slice (some ad16) x0_.length c0_0),(3,iv 2147483647),(4,iv x5),(5,.pointer (pb b20)),(69,.bool y34)]→St W (mine W []) F w' F [box b20 #[iv ((nth qC.z x0_ x5).f0),iv ((nth qC.z x0_ x5).f1),iv ((nth qC.z x0_ x5).f2),iv ((nth qC.z x0_ x5).f3),iv ((nth qC.z x0_ x5).f4)] 86]→qg.j35 kq36 x0_ x5 y34=some r→K24 a w':=by
   intro kq36 hkq G y34 a u39 hE hA hS H
   obtain _ | k37:=kq36
   ·
    exact zz H
   rw [qg.j35_s]at H
   obtain ⟨J,hE⟩:=hE.at hA
   refine hK24 _ _ ?_
   refine hE.ib 69 H (fun c40 hE H=>?_) fun c40 hE H=>?_
   ·
    refine rr hE fun a hE=>(wp_ret (qCD (qCE (qCD (qCD (qCE (qCD ?_)))))))
    replace hS:=hS.tail
    obtain rfl:=si H
    exact rt1 hE ⟨_,rfl,_,rfl,hS⟩
   refine wp_skip (hK23 _ _ (rr hE fun a hE=>(wp_block ?_)))
   refine wp_loop_ghost (fun kq45 a w'=>∃(G:Nat→Value)(x43:Int),kq45≤k37∧Env 86 G a∧At G [(0,.slice (some ad16) x0_.length c0_0),(3,iv 2147483647),(4,iv x5),(5,.pointer (pb b20)),(6,iv x43)]∧St W (mine W []) F w' F [box b20 #[iv ((nth qC.z x0_ x5).f0),iv ((nth qC.z x0_ x5).f1),iv ((nth qC.z x0_ x5).f2),iv ((nth qC.z x0_ x5).f3),iv ((nth qC.z x0_ x5).f4)] 86]∧qg.l44 kq45 x0_ x5 x43=some r) k37 ⟨_,0,Nat.le_refl _,hE,.of,hS,H⟩ ?_
   rintro kq45 a u47 ⟨G,x43,hkq,hE,hA,hS,H⟩
   obtain _ | k46:=kq45
   ·
    exact zz H
   rw [qg.l44_s]at H
   obtain ⟨J,hE⟩:=hE.at hA
   refine sq fun K48 hK48=>rr hE fun a hE=>?_
   refine hE.ik 72 H (fun c50 hE H=>?_) fun c50 hE H=>?_
   ·
    refine wp_skip (hK48 _ _ (sq fun K51 hK51=>wp_block (sq fun K52 hK52=>?_)))
    refine drawn 8 ⟨[],[],fun q=>False⟩ mixed rfl (by kernel_rfl) (fun hst=>?_)
    replace hS:=hS.drew
    obtain ⟨c53,H⟩:=gd H
    obtain ⟨cs55,rfl,hc56⟩:=g0_0.el qC.z x43 c53.1 c53.2
    have hb20:=hS.ba 0
    refine mny 0 hst hE (.r 0 2<|.x 2 c53<|.r 3 1<|.c 4 (hS.fc hc56 0)<|.r 5 1<|.b 6 0 hb20<|.r 7 1<|.nil) (fun a hE=>?_)
    refine dn ?_
    refine hK52 _ _ ?_
    refine hE.ik 82 H (fun c57 hE H=>?_) fun c57 hE H=>?_
    ·
     refine rr hE fun a hE=>(wp_ret (qCE (qCD (qCD (qCE (qCE (qCD (qCD (qCE (qCD ?_))))))))))
     replace hS:=hS.tail
     obtain rfl:=si H
     exact rt1 hE ⟨_,rfl,_,rfl,hS⟩
    refine wp_skip ?_
    refine qCF ?_
    refine hK51 _ _ (pl0 (plc hE (.r 0 3 .nil) (fun a hE=>pld ?_)))
    exact qCG ⟨k46,by omega,_,(w64 (x43+1)),by omega,hE,.of,hS,H⟩
   refine wp_exit ?_
   refine hK13 _ _ (pl0 (plc hE (.r 0 3 .nil) (fun a hE=>pld ?_)))
   replace hS:=hS.tail
   exact qCG ⟨k46,by omega,_,(w64 (x5+1)),by omega,hE,.of,hS,H⟩
  refine pl0 (plc hE (.r 0 1<|.b 1 0 hb20<|.r 2 2<|.nil) (fun a hE=>?_))
  rcases sp H with ⟨c25,H⟩ | ⟨c25,H⟩
  ·
   replace hE:=hE.kt 20 c25
   refine plc hE (.r 4 49 .nil) (fun a hE=>pld ?_)
   exact J38 _ (by omega) _ true _ _ hE .of hS H
  replace hE:=hE.kf 20 c25
  refine plc hE (.r 4 1<|.b 5 0 hb20<|.r 6 3<|.nil) (fun a hE=>?_)
  rcases sp H with ⟨c26,H⟩ | ⟨c26,H⟩
  ·
   replace hE:=hE.kt 25 c26
   refine plc hE (.r 9 44 .nil) (fun a hE=>pld ?_)
   exact J38 _ (by omega) _ true _ _ hE .of hS H
  replace hE:=hE.kf 25 c26
  refine plc hE (.r 9 1<|.b 10 1 hb20<|.r 11 3<|.nil) (fun a hE=>?_)
  rcases sp H with ⟨c27,H⟩ | ⟨c27,H⟩
  ·
   replace hE:=hE.kt 30 c27
   refine plc hE (.r 14 39 .nil) (fun a hE=>pld ?_)
   exact J38 _ (by omega) _ true _ _ hE .of hS H
  replace hE:=hE.kf 30 c27
  refine plc hE (.r 14 1<|.b 15 1 hb20<|.r 16 4<|.nil) (fun a hE=>?_)
  rcases sp H with ⟨c28,H⟩ | ⟨c28,H⟩
  ·
   replace hE:=hE.kt 36 c28
   refine plc hE (.r 20 33 .nil) (fun a hE=>pld ?_)
   exact J38 _ (by omega) _ true _ _ hE .of hS H
  replace hE:=hE.kf 36 c28
  refine plc hE (.r 20 1<|.b 21 2 hb20<|.r 22 3<|.nil) (fun a hE=>?_)
  rcases sp H with ⟨c29,H⟩ | ⟨c29,H⟩
  ·
   replace hE:=hE.kt 41 c29
   refine plc hE (.r 25 28 .nil) (fun a hE=>pld ?_)
   exact J38 _ (by omega) _ true _ _ hE .of hS H
  replace hE:=hE.kf 41 c29
  refine plc hE (.r 25 1<|.b 26 2 hb20<|.r 27 4<|.nil) (fun a hE=>?_)
  rcases sp H with ⟨c30,H⟩ | ⟨c30,H⟩
  ·
   replace hE:=hE.kt 47 c30
   refine plc hE (.r 31 22 .nil) (fun a hE=>pld ?_)
   exact J38 _ (by omega) _ true _ _ hE .of hS H
  replace hE:=hE.kf 47 c30
  refine plc hE (.r 31 1<|.b 32 3 hb20<|.r 33 3<|.nil) (fun a hE=>?_)
  rcases sp H with ⟨c31,H⟩ | ⟨c31,H⟩
  ·
   replace hE:=hE.kt 52 c31
   refine plc hE (.r 36 17 .nil) (fun a hE=>pld ?_)
   exact J38 _ (by omega) _ true _ _ hE .of hS H
  replace hE:=hE.kf 52 c31
  refine plc hE (.r 36 1<|.b 37 3 hb20<|.r 38 4<|.nil) (fun a hE=>?_)
  rcases sp H with ⟨c32,H⟩ | ⟨c32,H⟩
  ·
   replace hE:=hE.kt 58 c32
   refine plc hE (.r 42 11 .nil) (fun a hE=>pld ?_)
   exact J38 _ (by omega) _ true _ _ hE .of hS H
  replace hE:=hE.kf 58 c32
  refine plc hE (.r 42 1<|.b 43 4 hb20<|.r 44 3<|.nil) (fun a hE=>?_)
  rcases sp H with ⟨c33,H⟩ | ⟨c33,H⟩
  ·
   replace hE:=hE.kt 63 c33
   refine plc hE (.r 47 6 .nil) (fun a hE=>pld ?_)
   exact J38 _ (by omega) _ true _ _ hE .of hS H
  replace hE:=hE.kf 63 c33
  refine plc hE (.r 47 1<|.b 48 4 hb20<|.r 49 1<|.b 50 3 hb20<|.r 51 2<|.nil) (fun a hE=>pld ?_)
  exact J38 _ (by omega) _ (decide ((nth qC.z x0_ x5).f4>(nth qC.z x0_ x5).f3)) _ _ hE .of hS H
 refine wp_exit ?_
 refine hK3 _ _ (rr hE fun a hE=>(wp_ret ?_))
 obtain rfl:=si H
 exact rt1 hE ⟨_,rfl,_,rfl,hS⟩
def qAt.f(k:Nat)(x0_:qJ)(x1_:Int)(x2_:List qC):Option Bool:=(qa.f k x0_).bind fun t6=>(if t6=true then (if x1_≥0 then (if x1_<x0_.f3 then ((qg.f k x2_).bind fun t12=>(some t12)) else (some false)) else (some false)) else (some false))
def qAt.Post(W F:World)(r:Bool)(v:Value)(w':World):Prop:=∃(F':World),v = .bool r∧St W (mine W []) F w' F' []
theorem qAt.calls(k:Nat)(x0_:qJ)(x1_:Int)(x2_:List qC)(A0_4:Option Addr)(c0_4:Nat)(A0_5:Option Addr)(c0_5:Nat)(A0_6:Option Addr)(c0_6:Nat)(A2_0:Option Addr)(c2_0:Nat)(r:Bool)(W F:World)(hown:Sub F W)(g0_4:Rd qA.k F A0_4 c0_4 x0_.f4)(g0_5:Rd qM.k F A0_5 c0_5 x0_.f5)(g0_6:Rd qF.k F A0_6 c0_6 x0_.f6)(g2_0:Rd qC.k F A2_0 c2_0 x2_)(H:qAt.f k x0_ x1_ x2_=some r):
    Calls Tryz.prog 52 #[.agg #[iv x0_.f0,iv x0_.f1,iv x0_.f2,iv x0_.f3,.slice A0_4 x0_.f4.length c0_4,.slice A0_5 x0_.f5.length c0_5,.slice A0_6 x0_.f6.length c0_6],iv x1_,.slice A2_0 x2_.length c2_0] W fun e w'=>∃ v,e = .returned v∧qAt.Post W F r v w':=by
 have hS:=St.start (Own.nil hown)
 unfold qAt.f at H
 refine enter (n:=23) rfl rfl rfl (Nat.le_of_ble_eq_true rfl) (fun a hE=>?_)
 refine sq fun K1 hK1=>pl0 (ple hE (.bx (t:=26) hS [iv x0_.f0,iv x0_.f1,iv x0_.f2,iv x0_.f3,.slice A0_4 x0_.f4.length c0_4,.slice A0_5 x0_.f5.length c0_5,.slice A0_6 x0_.f6.length c0_6]) ?_)
 rintro _ u3 a ⟨b2,rfl,hb2,hS,hg⟩ hE
 refine plc hE (.r 1 1 .nil) (fun a hE=>pld (hK1 _ _ (sq fun K4 hK4=>pl0 (plc hE (.bn 0 0 7 hb2 .nil) (fun a hE=>?_)))))
 obtain ⟨t6,h7,H⟩:=bd H
 refine ple hE (.cl en19 (qa.calls k x0_ _ _ _ _ _ _ _ _ _ hS.own.sub g0_4 g0_5 g0_6 h7)) ?_
 rintro _ u5 a ⟨_,rfl,hC⟩ hE
 replace hS:=hS.lent hC
 refine plc hE (.r 2 1 .nil) (fun a hE=>?_)
 rcases sp H with ⟨c8,H⟩ | ⟨c8,H⟩
 ·
  replace hE:=hE.bt 9 c8
  refine plc hE (.r 3 4 .nil) (fun a hE=>?_)
  rcases sp H with ⟨c9,H⟩ | ⟨c9,H⟩
  ·
   replace hE:=hE.kt 13 c9
   have hb2:=hS.ba 0
   refine plc hE (.r 7 2<|.b 9 3 hb2<|.r 10 3<|.nil) (fun a hE=>?_)
   rcases sp H with ⟨c10,H⟩ | ⟨c10,H⟩
   ·
    replace hE:=hE.kt 19 c10
    refine plc hE (.r 13 1 .nil) (fun a hE=>?_)
    obtain ⟨t12,h13,H⟩:=bd H
    refine ple hE (.cl en59 (qg.calls k x2_ _ _ _ _ _ hS.own.sub g2_0 h13)) ?_
    rintro _ u11 a ⟨_,rfl,hC⟩ hE
    replace hS:=hS.lent hC
    refine plc hE (.r 15 2 .nil) (fun a hE=>pld (hK4 _ _ (wp_ret ?_)))
    replace hS:=hS.tail
    obtain rfl:=si H
    exact rt1 hE ⟨_,rfl,_,rfl,hS⟩
   replace hE:=hE.kf 19 c10
   refine plc hE (.r 13 4 .nil) (fun a hE=>pld (hK4 _ _ (wp_ret ?_)))
   replace hS:=hS.tail
   obtain rfl:=si H
   exact rt1 hE ⟨_,rfl,_,rfl,hS⟩
  replace hE:=hE.kf 13 c9
  refine plc hE (.r 7 10 .nil) (fun a hE=>pld (hK4 _ _ (wp_ret ?_)))
  replace hS:=hS.tail
  obtain rfl:=si H
  exact rt1 hE ⟨_,rfl,_,rfl,hS⟩
 replace hE:=hE.bf 9 c8
 refine plc hE (.r 3 14 .nil) (fun a hE=>pld (hK4 _ _ (wp_ret ?_)))
 replace hS:=hS.tail
 obtain rfl:=si H
 exact rt1 hE ⟨_,rfl,_,rfl,hS⟩
end Go.Proofs.YtpohepinmjmbkaaGreat.QD
