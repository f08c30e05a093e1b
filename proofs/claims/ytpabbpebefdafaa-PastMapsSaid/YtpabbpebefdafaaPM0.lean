import Derived.Test.YtpabbpebefdafaaSlI
import Derived.Test.YtpabbpebefdafaaSlT
import Derived.Test.YtpabbpebefdafaaSlS
import Derived.Test.YtpabbpebefdafaaProg
namespace Go.Proofs.Ytpabbpebefdafaa.PM
open Go Go.RowKit Go.Proofs.Ytpabbpebefdafaa.Sl
set_option linter.unusedVariables false
set_option linter.unusedSimpArgs false
set_option maxHeartbeats 4000000
set_option maxRecDepth 100000
abbrev Cr(f:FuncId)(args:Array Value)(W:World)(Q:Value→World→Prop):Prop:=Calls Try.prog f args W fun e w'=>∃ v,e = .returned v∧Q v w'
theorem mixed:Try.prog.follows .mixedOrders=true:=by kernel_rfl
structure qA where
 f0:Int
 f1:Int
 f2:Int
 f3:Int
 f4:Bool
 f5:Bool
 deriving DecidableEq
def qA.z:qA:=⟨0,0,0,0,false,false⟩
def qA.k:Kn qA:=⟨6,fun F x cs=>cs=[.int .i64 x.f0,.int .i64 x.f1,.int .i64 x.f2,.int .i64 x.f3,.bool x.f4,.bool x.f5],by
  rintro F x cs h
  subst h
  rfl,by
  rintro F x cs h u hu
  subst h
  simp only [List.mem_cons,List.not_mem_nil,or_false]at hu
  rcases hu with rfl | rfl | rfl | rfl | rfl | rfl <;> rfl,fun hs h=>h⟩
structure qI where
 f0:Int
 f1:List Int
 deriving DecidableEq
def qI.z:qI:=⟨0,[]⟩
def qI.k:Kn qI:=⟨2,fun F x cs=>∃(A1:Option Addr)(c1:Nat),cs=[.int .i64 x.f0,.slice A1 x.f1.length c1]∧Rd (Kn.int .i64) F A1 c1 x.f1,by
  rintro F x cs ⟨_,_,h,_⟩
  subst h
  rfl,by
  rintro F x cs ⟨_,_,h,_⟩ u hu
  subst h
  simp only [List.mem_cons,List.not_mem_nil,or_false]at hu
  rcases hu with rfl | rfl <;> rfl,fun hs ⟨A1,c1,h,g1⟩=>⟨A1,c1,h,g1.mono hs⟩⟩
structure qD where
 f0:Int
 f1:List Int
 deriving DecidableEq
def qD.z:qD:=⟨0,[]⟩
def qD.k:Kn qD:=⟨2,fun F x cs=>∃(A1:Option Addr)(c1:Nat),cs=[.int .i64 x.f0,.slice A1 x.f1.length c1]∧Rd (Kn.int .i64) F A1 c1 x.f1,by
  rintro F x cs ⟨_,_,h,_⟩
  subst h
  rfl,by
  rintro F x cs ⟨_,_,h,_⟩ u hu
  subst h
  simp only [List.mem_cons,List.not_mem_nil,or_false]at hu
  rcases hu with rfl | rfl <;> rfl,fun hs ⟨A1,c1,h,g1⟩=>⟨A1,c1,h,g1.mono hs⟩⟩
structure qC where
 f0:Int
 f1:List qD
 deriving DecidableEq
def qC.z:qC:=⟨0,[]⟩
def qC.k:Kn qC:=⟨2,fun F x cs=>∃(A1:Option Addr)(c1:Nat),cs=[.int .i64 x.f0,.slice A1 x.f1.length c1]∧Rd qD.k F A1 c1 x.f1,by
  rintro F x cs ⟨_,_,h,_⟩
  subst h
  rfl,by
  rintro F x cs ⟨_,_,h,_⟩ u hu
  subst h
  simp only [List.mem_cons,List.not_mem_nil,or_false]at hu
  rcases hu with rfl | rfl <;> rfl,fun hs ⟨A1,c1,h,g1⟩=>⟨A1,c1,h,g1.mono hs⟩⟩
structure qK where
 f0:Int
 f1:Int
 f2:Int
 f3:Int
 f4:List qA
 f5:List qI
 f6:List qC
 deriving DecidableEq
def qK.k:Kn qK:=⟨7,fun F x cs=>∃(A4:Option Addr)(c4:Nat)(A5:Option Addr)(c5:Nat)(A6:Option Addr)(c6:Nat),cs=[.int .i64 x.f0,.int .i64 x.f1,.int .i64 x.f2,.int .i64 x.f3,.slice A4 x.f4.length c4,.slice A5 x.f5.length c5,.slice A6 x.f6.length c6]∧Rd qA.k F A4 c4 x.f4∧Rd qI.k F A5 c5 x.f5∧Rd qC.k F A6 c6 x.f6,by
  rintro F x cs ⟨_,_,_,_,_,_,h,_,_,_⟩
  subst h
  rfl,by
  rintro F x cs ⟨_,_,_,_,_,_,h,_,_,_⟩ u hu
  subst h
  simp only [List.mem_cons,List.not_mem_nil,or_false]at hu
  rcases hu with rfl | rfl | rfl | rfl | rfl | rfl | rfl <;> rfl,fun hs ⟨A4,c4,A5,c5,A6,c6,h,g4,g5,g6⟩=>⟨A4,c4,A5,c5,A6,c6,h,g4.mono hs,g5.mono hs,g6.mono hs⟩⟩
structure qp where
 f0:Int
 f1:Int
 f2:Int
 f3:Int
 f4:Int
 f5:Int
 f6:List Int
 deriving DecidableEq
structure qP where
 f0:List Int
 f1:List ByteArray
 deriving DecidableEq
structure qE where
 f0:List Int
 f1:Bool
 deriving DecidableEq
theorem eo {P : Program} {g : FuncId} {fn : Func} (hf : P.funcs[g]? = some fn) (hname : (fn.name == "runtime.NumGoroutine") = false := by kernel_rfl) (hb : fn.body.isSome = true := by rfl) : Enters P g := by
 cases h:fn.body with
 | none=>rw [h]at hb; cases hb
 | some c=>first | exact qAJ hf hname h | exact qAJ hf hname hb
abbrev Et(g:FuncId):Prop:=Enters Try.prog g
theorem en15:Et 15:=eo Try.func15
theorem en16:Et 16:=eo Try.func16
theorem en17:Et 17:=eo Try.func17
theorem en18:Et 18:=eo Try.func18
theorem en19:Et 19:=eo Try.func19
theorem en20:Et 20:=eo Try.func20
theorem en21:Et 21:=eo Try.func21
theorem en22:Et 22:=eo Try.func22
theorem en23:Et 23:=eo Try.func23
theorem en28:Et 28:=eo Try.func28
theorem en29:Et 29:=eo Try.func29
theorem en30:Et 30:=eo Try.func30
theorem en31:Et 31:=eo Try.func31
theorem en32:Et 32:=eo Try.func32
theorem en33:Et 33:=eo Try.func33
theorem en34:Et 34:=eo Try.func34
theorem en35:Et 35:=eo Try.func35
theorem en36:Et 36:=eo Try.func36
theorem en37:Et 37:=eo Try.func37
theorem en38:Et 38:=eo Try.func38
theorem en39:Et 39:=eo Try.func39
theorem en40:Et 40:=eo Try.func40
theorem en41:Et 41:=eo Try.func41
theorem en42:Et 42:=eo Try.func42
theorem en43:Et 43:=eo Try.func43
theorem en44:Et 44:=eo Try.func44
theorem en45:Et 45:=eo Try.func45
theorem en46:Et 46:=eo Try.func46
theorem en47:Et 47:=eo Try.func47
theorem en48:Et 48:=eo Try.func48
theorem en49:Et 49:=eo Try.func49
theorem en50:Et 50:=eo Try.func50
theorem en53:Et 53:=eo Try.func53
theorem en54:Et 54:=eo Try.func54
theorem en55:Et 55:=eo Try.func55
theorem en56:Et 56:=eo Try.func56
theorem en57:Et 57:=eo Try.func57
theorem en58:Et 58:=eo Try.func58
theorem en59:Et 59:=eo Try.func59
theorem en60:Et 60:=eo Try.func60
theorem en61:Et 61:=eo Try.func61
theorem en62:Et 62:=eo Try.func62
theorem en63:Et 63:=eo Try.func63
theorem en64:Et 64:=eo Try.func64
theorem en65:Et 65:=eo Try.func65
theorem en66:Et 66:=eo Try.func66
theorem en67:Et 67:=eo Try.func67
theorem en68:Et 68:=eo Try.func68
theorem en69:Et 69:=eo Try.func69
theorem en70:Et 70:=eo Try.func70
theorem en71:Et 71:=eo Try.func71
theorem en72:Et 72:=eo Try.func72
theorem en73:Et 73:=eo Try.func73
theorem en74:Et 74:=eo Try.func74
theorem en75:Et 75:=eo Try.func75
theorem sz3:sizeB Try.prog 3=some 1:=by kernel_rfl
theorem ag41:aggB Try.prog 41=some true:=by kernel_rfl
theorem sz41:sizeB Try.prog 41=some 7:=by kernel_rfl
theorem ag65:aggB Try.prog 65=some true:=by kernel_rfl
theorem sz65:sizeB Try.prog 65=some 7:=by kernel_rfl
theorem ag69:aggB Try.prog 69=some true:=by kernel_rfl
theorem sz69:sizeB Try.prog 69=some 2:=by kernel_rfl
theorem ag90:aggB Try.prog 90=some true:=by kernel_rfl
theorem sz90:sizeB Try.prog 90=some 2:=by kernel_rfl
theorem sz92:sizeB Try.prog 92=some 2:=by kernel_rfl
theorem ag96:aggB Try.prog 96=some true:=by kernel_rfl
theorem sz96:sizeB Try.prog 96=some 6:=by kernel_rfl
theorem ud3:Try.prog.underlying 3=some (.int .i64):=by kernel_rfl
theorem ud4:Try.prog.underlying 4=some (.bool):=by kernel_rfl
theorem qA.beq(x y:qA):(x.f0 == y.f0&&(x.f1 == y.f1&&(x.f2 == y.f2&&(x.f3 == y.f3&&(x.f4 == y.f4&&(x.f5 == y.f5&&(true)))))))=decide (x=y):=by
 cases x; cases y
 rw [Bool.eq_iff_iff]
 simp only [Bool.and_eq_true,beq_iff_eq,decide_eq_true_eq,qA.mk.injEq,and_true]
theorem eqs96(x y:qA)(w:World)(d:Nat):(Op.equalIn (d+2) 96 (.agg #[.int .i64 x.f0,.int .i64 x.f1,.int .i64 x.f2,.int .i64 x.f3,.bool x.f4,.bool x.f5]) (.agg #[.int .i64 y.f0,.int .i64 y.f1,.int .i64 y.f2,.int .i64 y.f3,.bool y.f4,.bool y.f5])).run Try.prog w = .ok (decide (x=y)) w :=
 (qDi (d:=d+1) Try.underlying96 (by kernel_rfl) (qAf (by kernel_rfl) (by kernel_rfl) (by kernel_rfl) (qBn ud3) (qAf (by kernel_rfl) (by kernel_rfl) (by kernel_rfl) (qBn ud3) (qAf (by kernel_rfl) (by kernel_rfl) (by kernel_rfl) (qBn ud3) (qAf (by kernel_rfl) (by kernel_rfl) (by kernel_rfl) (qBn ud3) (qAf (by kernel_rfl) (by kernel_rfl) (by kernel_rfl) (qCR ud4) (qAf (by kernel_rfl) (by kernel_rfl) (by kernel_rfl) (qCR ud4) (qDR)))))))).trans (congrArg (fun b=>Result.ok b w) (qA.beq x y))
end Go.Proofs.Ytpabbpebefdafaa.PM
