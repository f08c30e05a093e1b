import Derived.Test.YtpabbpebefdafaaMI1
import Derived.Test.YtpabbpebefdafaaSlO
import Derived.Test.YtpabbpebefdafaaChecked
namespace Go.Proofs.Ytpabbpebefdafaa.MI
open Go Go.RowKit Go.Proofs.Ytpabbpebefdafaa.Sl
set_option linter.unusedVariables false
set_option linter.unusedSimpArgs false
set_option maxHeartbeats 4000000
set_option maxRecDepth 100000
open Go.WideShapes
set_option maxRecDepth 100000
def Ar2_u64.wf(x:Ar2_u64):Prop:=((Lit.int .u64 x.f0).wf=true)∧((Lit.int .u64 x.f1).wf=true)
theorem opens23(w:World):Opens Try.prog w Ar2_u64.k 23 Ar2_u64.wf:=by
 intro H enc sp held fuel cs x h
 obtain ⟨xs,n,_,_,hl,hlen,hf⟩:=DataW.trod_array Try.underlying23 h
 have hl':cs.length=2:=hl.trans (by kernel_rfl)
 have hlen':xs.length=2:=hlen
 obtain ⟨y0,e0,w0⟩:=sega (off:=0) (s:=1) (hf 0 (by decide)) (by omega) (by kernel_rfl) rfl (qAE Try.underlying22)
 obtain ⟨y1,e1,w1⟩:=sega (off:=1) (s:=1) (hf 1 (by decide)) (by omega) (by kernel_rfl) rfl (qAE Try.underlying22)
 have q:=qAp (off:=0) (s:=1) (qAo (off:=1) (s:=1) hl')
 rw [e0,e1,List.drop_zero]at q
 exact ⟨⟨y0,y1⟩,q,w0,w1⟩
def PureMixPieces:Prop:=∀(s0:Int)(s1:ByteArray)(s2:Ar2_u64),((Lit.int .u64 s0).wf=true)→(s1.size≤maxLen)→(Ar2_u64.wf s2)→∃ k,qC.f k s0 s1 s2=some true
end Go.Proofs.Ytpabbpebefdafaa.MI
