import Derived.Test.YthgfhlbjkmjlpaaGreatGD10
import Derived.Test.YthgfhlbjkmjlpaaGreatSlO
import Derived.Test.YthgfhlbjkmjlpaaGreatChecked
namespace Go.Proofs.YthgfhlbjkmjlpaaGreat.GD
open Go Go.RowKit Go.Proofs.YthgfhlbjkmjlpaaGreat.Sl
set_option linter.unusedVariables false
set_option linter.unusedSimpArgs false
set_option maxHeartbeats 4000000
set_option maxRecDepth 100000
open Go.WideShapes
set_option maxRecDepth 100000
def qA.wf(x:qA):Prop:=((Lit.int .i64 x.f0).wf=true)/\((Lit.int .i64 x.f1).wf=true)/\((Lit.int .i64 x.f2).wf=true)/\((Lit.int .i64 x.f3).wf=true)/\(True)/\(True)
theorem opens68(w:World):Opens Tryz.prog w qA.k 68 qA.wf:=by
 intro H enc sp held fuel cs x h
 obtain ⟨xs,n,_,_,hl,hlen,hf⟩:=DataW.trod_struct Tryz.underlying68 h
 have hl':cs.length=6:=hl.trans (by kernel_rfl)
 have hlen':xs.length=6:=hlen
 obtain ⟨y0,e0,w0⟩:=seg (off:=0) (s:=1) (hf 0 _ rfl) (by omega) rfl rfl (by kernel_rfl:Tryz.prog.cellsOf 3=1) (qCm Tryz.underlying3)
 obtain ⟨y1,e1,w1⟩:=seg (off:=1) (s:=1) (hf 1 _ rfl) (by omega) rfl rfl (by kernel_rfl:Tryz.prog.cellsOf 3=1) (qCm Tryz.underlying3)
 obtain ⟨y2,e2,w2⟩:=seg (off:=2) (s:=1) (hf 2 _ rfl) (by omega) rfl rfl (by kernel_rfl:Tryz.prog.cellsOf 3=1) (qCm Tryz.underlying3)
 obtain ⟨y3,e3,w3⟩:=seg (off:=3) (s:=1) (hf 3 _ rfl) (by omega) rfl rfl (by kernel_rfl:Tryz.prog.cellsOf 3=1) (qCm Tryz.underlying3)
 obtain ⟨y4,e4,w4⟩:=seg (off:=4) (s:=1) (hf 4 _ rfl) (by omega) rfl rfl (by kernel_rfl:Tryz.prog.cellsOf 4=1) (qFF Tryz.underlying4)
 obtain ⟨y5,e5,w5⟩:=seg (off:=5) (s:=1) (hf 5 _ rfl) (by omega) rfl rfl (by kernel_rfl:Tryz.prog.cellsOf 4=1) (qFF Tryz.underlying4)
 have q:=qCn (off:=0) (s:=1) (qCn (off:=1) (s:=1) (qCn (off:=2) (s:=1) (qCn (off:=3) (s:=1) (qCn (off:=4) (s:=1) (qDN (off:=5) (s:=1) hl')))))
 rw [e0,e1,e2,e3,e4,e5,List.drop_zero]at q
 exact ⟨⟨y0,y1,y2,y3,y4,y5⟩,q,w0,w1,w2,w3,w4,w5⟩
def qE.wf(x:qE):Prop:=((Lit.int .i64 x.f0).wf=true)/\(x.f1.length<=maxLen/\∀ y ∈ x.f1,(Lit.int .i64 y).wf=true)
theorem opens75(w:World):Opens Tryz.prog w qE.k 75 qE.wf:=by
 intro H enc sp held fuel cs x h
 obtain ⟨xs,n,_,_,hl,hlen,hf⟩:=DataW.trod_struct Tryz.underlying75 h
 have hl':cs.length=2:=hl.trans (by kernel_rfl)
 have hlen':xs.length=2:=hlen
 obtain ⟨y0,e0,w0⟩:=seg (off:=0) (s:=1) (hf 0 _ rfl) (by omega) rfl rfl (by kernel_rfl:Tryz.prog.cellsOf 3=1) (qCm Tryz.underlying3)
 obtain ⟨y1,⟨A1_0,c1_0,e1,g1_0⟩,w1⟩:=seg (off:=1) (s:=1) (hf 1 _ rfl) (by omega) rfl rfl (by kernel_rfl:Tryz.prog.cellsOf 27=1) (qDG Tryz.underlying27 (qCm Tryz.underlying3) (by kernel_rfl))
 have q:=qCn (off:=0) (s:=1) (qDN (off:=1) (s:=1) hl')
 rw [e0,e1,List.drop_zero]at q
 exact ⟨⟨y0,y1⟩,⟨A1_0,c1_0,q,g1_0⟩,w0,w1⟩
def qG.wf(x:qG):Prop:=((Lit.int .i64 x.f0).wf=true)/\(x.f1.length<=maxLen/\∀ y ∈ x.f1,(Lit.int .i64 y).wf=true)
theorem opens77(w:World):Opens Tryz.prog w qG.k 77 qG.wf:=by
 intro H enc sp held fuel cs x h
 obtain ⟨xs,n,_,_,hl,hlen,hf⟩:=DataW.trod_struct Tryz.underlying77 h
 have hl':cs.length=2:=hl.trans (by kernel_rfl)
 have hlen':xs.length=2:=hlen
 obtain ⟨y0,e0,w0⟩:=seg (off:=0) (s:=1) (hf 0 _ rfl) (by omega) rfl rfl (by kernel_rfl:Tryz.prog.cellsOf 3=1) (qCm Tryz.underlying3)
 obtain ⟨y1,⟨A1_0,c1_0,e1,g1_0⟩,w1⟩:=seg (off:=1) (s:=1) (hf 1 _ rfl) (by omega) rfl rfl (by kernel_rfl:Tryz.prog.cellsOf 27=1) (qDG Tryz.underlying27 (qCm Tryz.underlying3) (by kernel_rfl))
 have q:=qCn (off:=0) (s:=1) (qDN (off:=1) (s:=1) hl')
 rw [e0,e1,List.drop_zero]at q
 exact ⟨⟨y0,y1⟩,⟨A1_0,c1_0,q,g1_0⟩,w0,w1⟩
def qC.wf(x:qC):Prop:=((Lit.int .i64 x.f0).wf=true)/\(x.f1.length<=maxLen/\∀ y ∈ x.f1,qG.wf y)
theorem opens73(w:World):Opens Tryz.prog w qC.k 73 qC.wf:=by
 intro H enc sp held fuel cs x h
 obtain ⟨xs,n,_,_,hl,hlen,hf⟩:=DataW.trod_struct Tryz.underlying73 h
 have hl':cs.length=2:=hl.trans (by kernel_rfl)
 have hlen':xs.length=2:=hlen
 obtain ⟨y0,e0,w0⟩:=seg (off:=0) (s:=1) (hf 0 _ rfl) (by omega) rfl rfl (by kernel_rfl:Tryz.prog.cellsOf 3=1) (qCm Tryz.underlying3)
 obtain ⟨y1,⟨A1_0,c1_0,e1,g1_0⟩,w1⟩:=seg (off:=1) (s:=1) (hf 1 _ rfl) (by omega) rfl rfl (by kernel_rfl:Tryz.prog.cellsOf 71=1) (qDG Tryz.underlying71 (opens77 w) (by kernel_rfl))
 have q:=qCn (off:=0) (s:=1) (qDN (off:=1) (s:=1) hl')
 rw [e0,e1,List.drop_zero]at q
 exact ⟨⟨y0,y1⟩,⟨A1_0,c1_0,q,g1_0⟩,w0,w1⟩
def qD.wf(x:qD):Prop:=((Lit.int .i64 x.f0).wf=true)/\((Lit.int .i64 x.f1).wf=true)/\((Lit.int .i64 x.f2).wf=true)/\((Lit.int .i64 x.f3).wf=true)/\(x.f4.length<=maxLen/\∀ y ∈ x.f4,qA.wf y)/\(x.f5.length<=maxLen/\∀ y ∈ x.f5,qE.wf y)/\(x.f6.length<=maxLen/\∀ y ∈ x.f6,qC.wf y)
theorem opens26(w:World):Opens Tryz.prog w qD.k 26 qD.wf:=by
 intro H enc sp held fuel cs x h
 obtain ⟨xs,n,_,_,hl,hlen,hf⟩:=DataW.trod_struct Tryz.underlying26 h
 have hl':cs.length=7:=hl.trans (by kernel_rfl)
 have hlen':xs.length=7:=hlen
 obtain ⟨y0,e0,w0⟩:=seg (off:=0) (s:=1) (hf 0 _ rfl) (by omega) rfl rfl (by kernel_rfl:Tryz.prog.cellsOf 3=1) (qCm Tryz.underlying3)
 obtain ⟨y1,e1,w1⟩:=seg (off:=1) (s:=1) (hf 1 _ rfl) (by omega) rfl rfl (by kernel_rfl:Tryz.prog.cellsOf 3=1) (qCm Tryz.underlying3)
 obtain ⟨y2,e2,w2⟩:=seg (off:=2) (s:=1) (hf 2 _ rfl) (by omega) rfl rfl (by kernel_rfl:Tryz.prog.cellsOf 3=1) (qCm Tryz.underlying3)
 obtain ⟨y3,e3,w3⟩:=seg (off:=3) (s:=1) (hf 3 _ rfl) (by omega) rfl rfl (by kernel_rfl:Tryz.prog.cellsOf 3=1) (qCm Tryz.underlying3)
 obtain ⟨y4,⟨A4_0,c4_0,e4,g4_0⟩,w4⟩:=seg (off:=4) (s:=1) (hf 4 _ rfl) (by omega) rfl rfl (by kernel_rfl:Tryz.prog.cellsOf 22=1) (qDG Tryz.underlying22 (opens68 w) (by kernel_rfl))
 obtain ⟨y5,⟨A5_0,c5_0,e5,g5_0⟩,w5⟩:=seg (off:=5) (s:=1) (hf 5 _ rfl) (by omega) rfl rfl (by kernel_rfl:Tryz.prog.cellsOf 23=1) (qDG Tryz.underlying23 (opens75 w) (by kernel_rfl))
 obtain ⟨y6,⟨A6_0,c6_0,e6,g6_0⟩,w6⟩:=seg (off:=6) (s:=1) (hf 6 _ rfl) (by omega) rfl rfl (by kernel_rfl:Tryz.prog.cellsOf 24=1) (qDG Tryz.underlying24 (opens73 w) (by kernel_rfl))
 have q:=qCn (off:=0) (s:=1) (qCn (off:=1) (s:=1) (qCn (off:=2) (s:=1) (qCn (off:=3) (s:=1) (qCn (off:=4) (s:=1) (qCn (off:=5) (s:=1) (qDN (off:=6) (s:=1) hl'))))))
 rw [e0,e1,e2,e3,e4,e5,e6,List.drop_zero]at q
 exact ⟨⟨y0,y1,y2,y3,y4,y5,y6⟩,⟨A4_0,c4_0,A5_0,c5_0,A6_0,c6_0,q,g4_0,g5_0,g6_0⟩,w0,w1,w2,w3,w4,w5,w6⟩
def qAN.wf(x:qAN):Prop:=((Lit.int .i64 x.f0).wf=true)/\((Lit.int .i64 x.f1).wf=true)/\((Lit.int .i64 x.f2).wf=true)/\((Lit.int .i64 x.f3).wf=true)/\((Lit.int .i64 x.f4).wf=true)
theorem opens65(w:World):Opens Tryz.prog w qAN.k 65 qAN.wf:=by
 intro H enc sp held fuel cs x h
 obtain ⟨xs,n,_,_,hl,hlen,hf⟩:=DataW.trod_struct Tryz.underlying65 h
 have hl':cs.length=5:=hl.trans (by kernel_rfl)
 have hlen':xs.length=5:=hlen
 obtain ⟨y0,e0,w0⟩:=seg (off:=0) (s:=1) (hf 0 _ rfl) (by omega) rfl rfl (by kernel_rfl:Tryz.prog.cellsOf 3=1) (qCm Tryz.underlying3)
 obtain ⟨y1,e1,w1⟩:=seg (off:=1) (s:=1) (hf 1 _ rfl) (by omega) rfl rfl (by kernel_rfl:Tryz.prog.cellsOf 3=1) (qCm Tryz.underlying3)
 obtain ⟨y2,e2,w2⟩:=seg (off:=2) (s:=1) (hf 2 _ rfl) (by omega) rfl rfl (by kernel_rfl:Tryz.prog.cellsOf 3=1) (qCm Tryz.underlying3)
 obtain ⟨y3,e3,w3⟩:=seg (off:=3) (s:=1) (hf 3 _ rfl) (by omega) rfl rfl (by kernel_rfl:Tryz.prog.cellsOf 3=1) (qCm Tryz.underlying3)
 obtain ⟨y4,e4,w4⟩:=seg (off:=4) (s:=1) (hf 4 _ rfl) (by omega) rfl rfl (by kernel_rfl:Tryz.prog.cellsOf 3=1) (qCm Tryz.underlying3)
 have q:=qCn (off:=0) (s:=1) (qCn (off:=1) (s:=1) (qCn (off:=2) (s:=1) (qCn (off:=3) (s:=1) (qDN (off:=4) (s:=1) hl'))))
 rw [e0,e1,e2,e3,e4,List.drop_zero]at q
 exact ⟨⟨y0,y1,y2,y3,y4⟩,q,w0,w1,w2,w3,w4⟩
def PureGateDrains:Prop:=∀(s0:qD)(s1:qAN),(qD.wf s0)->(qAN.wf s1)->∃ k,qN.f k s0 s1=some true
end Go.Proofs.YthgfhlbjkmjlpaaGreat.GD
