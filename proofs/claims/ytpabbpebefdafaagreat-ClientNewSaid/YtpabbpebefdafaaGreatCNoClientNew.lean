import Derived.Test.YtpabbpebefdafaaGreatCN9
import Derived.Test.YtpabbpebefdafaaGreatSlO
import Derived.Test.YtpabbpebefdafaaGreatChecked
namespace Go.Proofs.YtpabbpebefdafaaGreat.CN
open Go Go.RowKit Go.Proofs.YtpabbpebefdafaaGreat.Sl
set_option linter.unusedVariables false
set_option linter.unusedSimpArgs false
set_option maxHeartbeats 4000000
set_option maxRecDepth 100000
open Go.WideShapes
set_option maxRecDepth 100000
def Ar2_i64.wf(x:Ar2_i64):Prop:=((Lit.int .i64 x.f0).wf=true)∧((Lit.int .i64 x.f1).wf=true)
theorem opens45(w:World):Opens Tryz.prog w Ar2_i64.k 45 Ar2_i64.wf:=by
 intro H enc sp held fuel cs x h
 obtain ⟨xs,n,_,_,hl,hlen,hf⟩:=DataW.trod_array Tryz.underlying45 h
 have hl':cs.length=2:=hl.trans (by kernel_rfl)
 have hlen':xs.length=2:=hlen
 obtain ⟨y0,e0,w0⟩:=sega (off:=0) (s:=1) (hf 0 (by decide)) (by omega) (by kernel_rfl) rfl (opens_int Tryz.underlying3)
 obtain ⟨y1,e1,w1⟩:=sega (off:=1) (s:=1) (hf 1 (by decide)) (by omega) (by kernel_rfl) rfl (opens_int Tryz.underlying3)
 have q:=qCR (off:=0) (s:=1) (qCk (off:=1) (s:=1) hl')
 rw [e0,e1,List.drop_zero]at q
 exact ⟨⟨y0,y1⟩,q,w0,w1⟩
def qA.wf(x:qA):Prop:=((Lit.int .i64 x.f0).wf=true)∧((Lit.int .i64 x.f1).wf=true)∧((Lit.int .i64 x.f2).wf=true)∧((Lit.int .i64 x.f3).wf=true)∧(True)∧(True)
theorem opens153(w:World):Opens Tryz.prog w qA.k 153 qA.wf:=by
 intro H enc sp held fuel cs x h
 obtain ⟨xs,n,_,_,hl,hlen,hf⟩:=DataW.trod_struct Tryz.underlying153 h
 have hl':cs.length=6:=hl.trans (by kernel_rfl)
 have hlen':xs.length=6:=hlen
 obtain ⟨y0,e0,w0⟩:=seg (off:=0) (s:=1) (hf 0 _ rfl) (by omega) rfl rfl (by kernel_rfl:Tryz.prog.cellsOf 3=1) (opens_int Tryz.underlying3)
 obtain ⟨y1,e1,w1⟩:=seg (off:=1) (s:=1) (hf 1 _ rfl) (by omega) rfl rfl (by kernel_rfl:Tryz.prog.cellsOf 3=1) (opens_int Tryz.underlying3)
 obtain ⟨y2,e2,w2⟩:=seg (off:=2) (s:=1) (hf 2 _ rfl) (by omega) rfl rfl (by kernel_rfl:Tryz.prog.cellsOf 3=1) (opens_int Tryz.underlying3)
 obtain ⟨y3,e3,w3⟩:=seg (off:=3) (s:=1) (hf 3 _ rfl) (by omega) rfl rfl (by kernel_rfl:Tryz.prog.cellsOf 3=1) (opens_int Tryz.underlying3)
 obtain ⟨y4,e4,w4⟩:=seg (off:=4) (s:=1) (hf 4 _ rfl) (by omega) rfl rfl (by kernel_rfl:Tryz.prog.cellsOf 4=1) (qDm Tryz.underlying4)
 obtain ⟨y5,e5,w5⟩:=seg (off:=5) (s:=1) (hf 5 _ rfl) (by omega) rfl rfl (by kernel_rfl:Tryz.prog.cellsOf 4=1) (qDm Tryz.underlying4)
 have q:=qCR (off:=0) (s:=1) (qCR (off:=1) (s:=1) (qCR (off:=2) (s:=1) (qCR (off:=3) (s:=1) (qCR (off:=4) (s:=1) (qCk (off:=5) (s:=1) hl')))))
 rw [e0,e1,e2,e3,e4,e5,List.drop_zero]at q
 exact ⟨⟨y0,y1,y2,y3,y4,y5⟩,q,w0,w1,w2,w3,w4,w5⟩
def qI.wf(x:qI):Prop:=((Lit.int .i64 x.f0).wf=true)∧(x.f1.length≤maxLen∧∀ y ∈ x.f1,(Lit.int .i64 y).wf=true)
theorem opens84(w:World):Opens Tryz.prog w qI.k 84 qI.wf:=by
 intro H enc sp held fuel cs x h
 obtain ⟨xs,n,_,_,hl,hlen,hf⟩:=DataW.trod_struct Tryz.underlying84 h
 have hl':cs.length=2:=hl.trans (by kernel_rfl)
 have hlen':xs.length=2:=hlen
 obtain ⟨y0,e0,w0⟩:=seg (off:=0) (s:=1) (hf 0 _ rfl) (by omega) rfl rfl (by kernel_rfl:Tryz.prog.cellsOf 3=1) (opens_int Tryz.underlying3)
 obtain ⟨y1,⟨A1_0,c1_0,e1,g1_0⟩,w1⟩:=seg (off:=1) (s:=1) (hf 1 _ rfl) (by omega) rfl rfl (by kernel_rfl:Tryz.prog.cellsOf 22=1) (opens_slice Tryz.underlying22 (opens_int Tryz.underlying3) (by kernel_rfl))
 have q:=qCR (off:=0) (s:=1) (qCk (off:=1) (s:=1) hl')
 rw [e0,e1,List.drop_zero]at q
 exact ⟨⟨y0,y1⟩,⟨A1_0,c1_0,q,g1_0⟩,w0,w1⟩
def qL.wf(x:qL):Prop:=((Lit.int .i64 x.f0).wf=true)∧(x.f1.length≤maxLen∧∀ y ∈ x.f1,(Lit.int .i64 y).wf=true)
theorem opens89(w:World):Opens Tryz.prog w qL.k 89 qL.wf:=by
 intro H enc sp held fuel cs x h
 obtain ⟨xs,n,_,_,hl,hlen,hf⟩:=DataW.trod_struct Tryz.underlying89 h
 have hl':cs.length=2:=hl.trans (by kernel_rfl)
 have hlen':xs.length=2:=hlen
 obtain ⟨y0,e0,w0⟩:=seg (off:=0) (s:=1) (hf 0 _ rfl) (by omega) rfl rfl (by kernel_rfl:Tryz.prog.cellsOf 3=1) (opens_int Tryz.underlying3)
 obtain ⟨y1,⟨A1_0,c1_0,e1,g1_0⟩,w1⟩:=seg (off:=1) (s:=1) (hf 1 _ rfl) (by omega) rfl rfl (by kernel_rfl:Tryz.prog.cellsOf 22=1) (opens_slice Tryz.underlying22 (opens_int Tryz.underlying3) (by kernel_rfl))
 have q:=qCR (off:=0) (s:=1) (qCk (off:=1) (s:=1) hl')
 rw [e0,e1,List.drop_zero]at q
 exact ⟨⟨y0,y1⟩,⟨A1_0,c1_0,q,g1_0⟩,w0,w1⟩
def qC.wf(x:qC):Prop:=((Lit.int .i64 x.f0).wf=true)∧(x.f1.length≤maxLen∧∀ y ∈ x.f1,qL.wf y)
theorem opens87(w:World):Opens Tryz.prog w qC.k 87 qC.wf:=by
 intro H enc sp held fuel cs x h
 obtain ⟨xs,n,_,_,hl,hlen,hf⟩:=DataW.trod_struct Tryz.underlying87 h
 have hl':cs.length=2:=hl.trans (by kernel_rfl)
 have hlen':xs.length=2:=hlen
 obtain ⟨y0,e0,w0⟩:=seg (off:=0) (s:=1) (hf 0 _ rfl) (by omega) rfl rfl (by kernel_rfl:Tryz.prog.cellsOf 3=1) (opens_int Tryz.underlying3)
 obtain ⟨y1,⟨A1_0,c1_0,e1,g1_0⟩,w1⟩:=seg (off:=1) (s:=1) (hf 1 _ rfl) (by omega) rfl rfl (by kernel_rfl:Tryz.prog.cellsOf 85=1) (opens_slice Tryz.underlying85 (opens89 w) (by kernel_rfl))
 have q:=qCR (off:=0) (s:=1) (qCk (off:=1) (s:=1) hl')
 rw [e0,e1,List.drop_zero]at q
 exact ⟨⟨y0,y1⟩,⟨A1_0,c1_0,q,g1_0⟩,w0,w1⟩
def qF.wf(x:qF):Prop:=((Lit.int .i64 x.f0).wf=true)∧((Lit.int .i64 x.f1).wf=true)∧((Lit.int .i64 x.f2).wf=true)∧((Lit.int .i64 x.f3).wf=true)∧(x.f4.length≤maxLen∧∀ y ∈ x.f4,qA.wf y)∧(x.f5.length≤maxLen∧∀ y ∈ x.f5,qI.wf y)∧(x.f6.length≤maxLen∧∀ y ∈ x.f6,qC.wf y)
theorem opens27(w:World):Opens Tryz.prog w qF.k 27 qF.wf:=by
 intro H enc sp held fuel cs x h
 obtain ⟨xs,n,_,_,hl,hlen,hf⟩:=DataW.trod_struct Tryz.underlying27 h
 have hl':cs.length=7:=hl.trans (by kernel_rfl)
 have hlen':xs.length=7:=hlen
 obtain ⟨y0,e0,w0⟩:=seg (off:=0) (s:=1) (hf 0 _ rfl) (by omega) rfl rfl (by kernel_rfl:Tryz.prog.cellsOf 3=1) (opens_int Tryz.underlying3)
 obtain ⟨y1,e1,w1⟩:=seg (off:=1) (s:=1) (hf 1 _ rfl) (by omega) rfl rfl (by kernel_rfl:Tryz.prog.cellsOf 3=1) (opens_int Tryz.underlying3)
 obtain ⟨y2,e2,w2⟩:=seg (off:=2) (s:=1) (hf 2 _ rfl) (by omega) rfl rfl (by kernel_rfl:Tryz.prog.cellsOf 3=1) (opens_int Tryz.underlying3)
 obtain ⟨y3,e3,w3⟩:=seg (off:=3) (s:=1) (hf 3 _ rfl) (by omega) rfl rfl (by kernel_rfl:Tryz.prog.cellsOf 3=1) (opens_int Tryz.underlying3)
 obtain ⟨y4,⟨A4_0,c4_0,e4,g4_0⟩,w4⟩:=seg (off:=4) (s:=1) (hf 4 _ rfl) (by omega) rfl rfl (by kernel_rfl:Tryz.prog.cellsOf 23=1) (opens_slice Tryz.underlying23 (opens153 w) (by kernel_rfl))
 obtain ⟨y5,⟨A5_0,c5_0,e5,g5_0⟩,w5⟩:=seg (off:=5) (s:=1) (hf 5 _ rfl) (by omega) rfl rfl (by kernel_rfl:Tryz.prog.cellsOf 24=1) (opens_slice Tryz.underlying24 (opens84 w) (by kernel_rfl))
 obtain ⟨y6,⟨A6_0,c6_0,e6,g6_0⟩,w6⟩:=seg (off:=6) (s:=1) (hf 6 _ rfl) (by omega) rfl rfl (by kernel_rfl:Tryz.prog.cellsOf 25=1) (opens_slice Tryz.underlying25 (opens87 w) (by kernel_rfl))
 have q:=qCR (off:=0) (s:=1) (qCR (off:=1) (s:=1) (qCR (off:=2) (s:=1) (qCR (off:=3) (s:=1) (qCR (off:=4) (s:=1) (qCR (off:=5) (s:=1) (qCk (off:=6) (s:=1) hl'))))))
 rw [e0,e1,e2,e3,e4,e5,e6,List.drop_zero]at q
 exact ⟨⟨y0,y1,y2,y3,y4,y5,y6⟩,⟨A4_0,c4_0,A5_0,c5_0,A6_0,c6_0,q,g4_0,g5_0,g6_0⟩,w0,w1,w2,w3,w4,w5,w6⟩
def PureClientNew:Prop:=∀(s0:Ar2_i64)(s1:List Int)(s2:qF),(Ar2_i64.wf s0)→(s1.length≤maxLen∧∀ y ∈ s1,(Lit.int .i64 y).wf=true)→(qF.wf s2)→∃ k,qw.f k s0 s1 s2=some true
end Go.Proofs.YtpabbpebefdafaaGreat.CN
