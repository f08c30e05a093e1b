import Derived.Test.YtpabbpebefdafaaSlI
import Derived.Test.YtpabbpebefdafaaSlT
import Derived.Test.YtpabbpebefdafaaSlS
import Derived.Test.YtpabbpebefdafaaSlU
import Derived.Test.YtpabbpebefdafaaProg
namespace Go.Proofs.Ytpabbpebefdafaa.MI
open Go Go.RowKit Go.Proofs.Ytpabbpebefdafaa.Sl
set_option linter.unusedVariables false
set_option linter.unusedSimpArgs false
set_option maxHeartbeats 4000000
set_option maxRecDepth 100000
abbrev Cr(f:FuncId)(args:Array Value)(W:World)(Q:Value→World→Prop):Prop:=Calls Try.prog f args W fun e w'=>∃ v,e = .returned v∧Q v w'
theorem mixed:Try.prog.follows .mixedOrders=true:=by kernel_rfl
structure Ar2_u64 where
 f0:Int
 f1:Int
 deriving DecidableEq
def Ar2_u64.k:Kn Ar2_u64:=⟨2,fun F x cs=>cs=[.int .u64 x.f0,.int .u64 x.f1],by
  rintro F x cs h
  subst h
  rfl,by
  rintro F x cs h u hu
  subst h
  simp only [List.mem_cons,List.not_mem_nil,or_false]at hu
  rcases hu with rfl | rfl <;> rfl,fun hs h=>h⟩
theorem eo {P : Program} {g : FuncId} {fn : Func} (hf : P.funcs[g]? = some fn) (hname : (fn.name == "runtime.NumGoroutine") = false := by kernel_rfl) (hb : fn.body.isSome = true := by rfl) : Enters P g := by
 cases h:fn.body with
 | none=>rw [h]at hb; cases hb
 | some c=>first | exact qP hf hname h | exact qP hf hname hb
abbrev Et(g:FuncId):Prop:=Enters Try.prog g
theorem en6:Et 6:=eo Try.func6
theorem en7:Et 7:=eo Try.func7
theorem en8:Et 8:=eo Try.func8
theorem en9:Et 9:=eo Try.func9
theorem en24:Et 24:=eo Try.func24
theorem en25:Et 25:=eo Try.func25
end Go.Proofs.Ytpabbpebefdafaa.MI
