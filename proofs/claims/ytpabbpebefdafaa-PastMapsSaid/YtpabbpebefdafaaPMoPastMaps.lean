import Derived.Test.YtpabbpebefdafaaPM3
import Derived.Test.YtpabbpebefdafaaSlO
import Derived.Test.YtpabbpebefdafaaChecked
namespace Go.Proofs.Ytpabbpebefdafaa.PM
open Go Go.RowKit Go.Proofs.Ytpabbpebefdafaa.Sl
set_option linter.unusedVariables false
set_option linter.unusedSimpArgs false
set_option maxHeartbeats 4000000
set_option maxRecDepth 100000
open Go.WideShapes
set_option maxRecDepth 100000
def qA.wf(x:qA):Prop:=((Lit.int .i64 x.f0).wf=true)∧((Lit.int .i64 x.f1).wf=true)∧((Lit.int .i64 x.f2).wf=true)∧((Lit.int .i64 x.f3).wf=true)∧(True)∧(True)
theorem opens96(w:World):Opens Try.prog w qA.k 96 qA.wf:=by
 intro H enc sp held fuel cs x h
 obtain ⟨xs,n,_,_,hl,hlen,hf⟩:=DataW.trod_struct Try.underlying96 h
 have hl':cs.length=6:=hl.trans (by kernel_rfl)
 have hlen':xs.length=6:=hlen
 obtain ⟨y0,e0,w0⟩:=seg (off:=0) (s:=1) (hf 0 _ rfl) (by omega) rfl rfl (by kernel_rfl:Try.prog.cellsOf 3=1) (qAP Try.underlying3)
 obtain ⟨y1,e1,w1⟩:=seg (off:=1) (s:=1) (hf 1 _ rfl) (by omega) rfl rfl (by kernel_rfl:Try.prog.cellsOf 3=1) (qAP Try.underlying3)
 obtain ⟨y2,e2,w2⟩:=seg (off:=2) (s:=1) (hf 2 _ rfl) (by omega) rfl rfl (by kernel_rfl:Try.prog.cellsOf 3=1) (qAP Try.underlying3)
 obtain ⟨y3,e3,w3⟩:=seg (off:=3) (s:=1) (hf 3 _ rfl) (by omega) rfl rfl (by kernel_rfl:Try.prog.cellsOf 3=1) (qAP Try.underlying3)
 obtain ⟨y4,e4,w4⟩:=seg (off:=4) (s:=1) (hf 4 _ rfl) (by omega) rfl rfl (by kernel_rfl:Try.prog.cellsOf 4=1) (qBD Try.underlying4)
 obtain ⟨y5,e5,w5⟩:=seg (off:=5) (s:=1) (hf 5 _ rfl) (by omega) rfl rfl (by kernel_rfl:Try.prog.cellsOf 4=1) (qBD Try.underlying4)
 have q:=qAO (off:=0) (s:=1) (qAO (off:=1) (s:=1) (qAO (off:=2) (s:=1) (qAO (off:=3) (s:=1) (qAO (off:=4) (s:=1) (qAd (off:=5) (s:=1) hl')))))
 rw [e0,e1,e2,e3,e4,e5,List.drop_zero]at q
 exact ⟨⟨y0,y1,y2,y3,y4,y5⟩,q,w0,w1,w2,w3,w4,w5⟩
def qI.wf(x:qI):Prop:=((Lit.int .i64 x.f0).wf=true)∧(x.f1.length≤maxLen∧∀ y ∈ x.f1,(Lit.int .i64 y).wf=true)
theorem opens87(w:World):Opens Try.prog w qI.k 87 qI.wf:=by
 intro H enc sp held fuel cs x h
 obtain ⟨xs,n,_,_,hl,hlen,hf⟩:=DataW.trod_struct Try.underlying87 h
 have hl':cs.length=2:=hl.trans (by kernel_rfl)
 have hlen':xs.length=2:=hlen
 obtain ⟨y0,e0,w0⟩:=seg (off:=0) (s:=1) (hf 0 _ rfl) (by omega) rfl rfl (by kernel_rfl:Try.prog.cellsOf 3=1) (qAP Try.underlying3)
 obtain ⟨y1,⟨A1_0,c1_0,e1,g1_0⟩,w1⟩:=seg (off:=1) (s:=1) (hf 1 _ rfl) (by omega) rfl rfl (by kernel_rfl:Try.prog.cellsOf 39=1) (qAV Try.underlying39 (qAP Try.underlying3) (by kernel_rfl))
 have q:=qAO (off:=0) (s:=1) (qAd (off:=1) (s:=1) hl')
 rw [e0,e1,List.drop_zero]at q
 exact ⟨⟨y0,y1⟩,⟨A1_0,c1_0,q,g1_0⟩,w0,w1⟩
def qD.wf(x:qD):Prop:=((Lit.int .i64 x.f0).wf=true)∧(x.f1.length≤maxLen∧∀ y ∈ x.f1,(Lit.int .i64 y).wf=true)
theorem opens92(w:World):Opens Try.prog w qD.k 92 qD.wf:=by
 intro H enc sp held fuel cs x h
 obtain ⟨xs,n,_,_,hl,hlen,hf⟩:=DataW.trod_struct Try.underlying92 h
 have hl':cs.length=2:=hl.trans (by kernel_rfl)
 have hlen':xs.length=2:=hlen
 obtain ⟨y0,e0,w0⟩:=seg (off:=0) (s:=1) (hf 0 _ rfl) (by omega) rfl rfl (by kernel_rfl:Try.prog.cellsOf 3=1) (qAP Try.underlying3)
 obtain ⟨y1,⟨A1_0,c1_0,e1,g1_0⟩,w1⟩:=seg (off:=1) (s:=1) (hf 1 _ rfl) (by omega) rfl rfl (by kernel_rfl:Try.prog.cellsOf 39=1) (qAV Try.underlying39 (qAP Try.underlying3) (by kernel_rfl))
 have q:=qAO (off:=0) (s:=1) (qAd (off:=1) (s:=1) hl')
 rw [e0,e1,List.drop_zero]at q
 exact ⟨⟨y0,y1⟩,⟨A1_0,c1_0,q,g1_0⟩,w0,w1⟩
def qC.wf(x:qC):Prop:=((Lit.int .i64 x.f0).wf=true)∧(x.f1.length≤maxLen∧∀ y ∈ x.f1,qD.wf y)
theorem opens90(w:World):Opens Try.prog w qC.k 90 qC.wf:=by
 intro H enc sp held fuel cs x h
 obtain ⟨xs,n,_,_,hl,hlen,hf⟩:=DataW.trod_struct Try.underlying90 h
 have hl':cs.length=2:=hl.trans (by kernel_rfl)
 have hlen':xs.length=2:=hlen
 obtain ⟨y0,e0,w0⟩:=seg (off:=0) (s:=1) (hf 0 _ rfl) (by omega) rfl rfl (by kernel_rfl:Try.prog.cellsOf 3=1) (qAP Try.underlying3)
 obtain ⟨y1,⟨A1_0,c1_0,e1,g1_0⟩,w1⟩:=seg (off:=1) (s:=1) (hf 1 _ rfl) (by omega) rfl rfl (by kernel_rfl:Try.prog.cellsOf 88=1) (qAV Try.underlying88 (opens92 w) (by kernel_rfl))
 have q:=qAO (off:=0) (s:=1) (qAd (off:=1) (s:=1) hl')
 rw [e0,e1,List.drop_zero]at q
 exact ⟨⟨y0,y1⟩,⟨A1_0,c1_0,q,g1_0⟩,w0,w1⟩
def qK.wf(x:qK):Prop:=((Lit.int .i64 x.f0).wf=true)∧((Lit.int .i64 x.f1).wf=true)∧((Lit.int .i64 x.f2).wf=true)∧((Lit.int .i64 x.f3).wf=true)∧(x.f4.length≤maxLen∧∀ y ∈ x.f4,qA.wf y)∧(x.f5.length≤maxLen∧∀ y ∈ x.f5,qI.wf y)∧(x.f6.length≤maxLen∧∀ y ∈ x.f6,qC.wf y)
theorem opens65(w:World):Opens Try.prog w qK.k 65 qK.wf:=by
 intro H enc sp held fuel cs x h
 obtain ⟨xs,n,_,_,hl,hlen,hf⟩:=DataW.trod_struct Try.underlying65 h
 have hl':cs.length=7:=hl.trans (by kernel_rfl)
 have hlen':xs.length=7:=hlen
 obtain ⟨y0,e0,w0⟩:=seg (off:=0) (s:=1) (hf 0 _ rfl) (by omega) rfl rfl (by kernel_rfl:Try.prog.cellsOf 3=1) (qAP Try.underlying3)
 obtain ⟨y1,e1,w1⟩:=seg (off:=1) (s:=1) (hf 1 _ rfl) (by omega) rfl rfl (by kernel_rfl:Try.prog.cellsOf 3=1) (qAP Try.underlying3)
 obtain ⟨y2,e2,w2⟩:=seg (off:=2) (s:=1) (hf 2 _ rfl) (by omega) rfl rfl (by kernel_rfl:Try.prog.cellsOf 3=1) (qAP Try.underlying3)
 obtain ⟨y3,e3,w3⟩:=seg (off:=3) (s:=1) (hf 3 _ rfl) (by omega) rfl rfl (by kernel_rfl:Try.prog.cellsOf 3=1) (qAP Try.underlying3)
 obtain ⟨y4,⟨A4_0,c4_0,e4,g4_0⟩,w4⟩:=seg (off:=4) (s:=1) (hf 4 _ rfl) (by omega) rfl rfl (by kernel_rfl:Try.prog.cellsOf 61=1) (qAV Try.underlying61 (opens96 w) (by kernel_rfl))
 obtain ⟨y5,⟨A5_0,c5_0,e5,g5_0⟩,w5⟩:=seg (off:=5) (s:=1) (hf 5 _ rfl) (by omega) rfl rfl (by kernel_rfl:Try.prog.cellsOf 62=1) (qAV Try.underlying62 (opens87 w) (by kernel_rfl))
 obtain ⟨y6,⟨A6_0,c6_0,e6,g6_0⟩,w6⟩:=seg (off:=6) (s:=1) (hf 6 _ rfl) (by omega) rfl rfl (by kernel_rfl:Try.prog.cellsOf 63=1) (qAV Try.underlying63 (opens90 w) (by kernel_rfl))
 have q:=qAO (off:=0) (s:=1) (qAO (off:=1) (s:=1) (qAO (off:=2) (s:=1) (qAO (off:=3) (s:=1) (qAO (off:=4) (s:=1) (qAO (off:=5) (s:=1) (qAd (off:=6) (s:=1) hl'))))))
 rw [e0,e1,e2,e3,e4,e5,e6,List.drop_zero]at q
 exact ⟨⟨y0,y1,y2,y3,y4,y5,y6⟩,⟨A4_0,c4_0,A5_0,c5_0,A6_0,c6_0,q,g4_0,g5_0,g6_0⟩,w0,w1,w2,w3,w4,w5,w6⟩
def PurePastMaps:Prop:=∀(s0:qK),(qK.wf s0)→∃ k,qo.f k s0=some true
end Go.Proofs.Ytpabbpebefdafaa.PM
