import Derived.Test.YtpabbpebefdafaaGreatSlJ
import Derived.Test.YtpabbpebefdafaaGreatSort
import Derived.Test.YtpabbpebefdafaaGreatSlT
import Derived.Test.YtpabbpebefdafaaGreatSlS
import Derived.Test.YtpabbpebefdafaaGreatSlV
import Derived.Test.YtpabbpebefdafaaGreatStr
import Derived.Test.YtpabbpebefdafaaGreatSlM
import Derived.Test.YtpabbpebefdafaaGreatProg
namespace Go.Proofs.YtpabbpebefdafaaGreat.CN
open Go Go.RowKit Go.Proofs.YtpabbpebefdafaaGreat.Sl
set_option linter.unusedVariables false
set_option linter.unusedSimpArgs false
set_option maxHeartbeats 4000000
set_option maxRecDepth 100000
abbrev Cr(f:FuncId)(args:Array Value)(W:World)(Q:Value→World→Prop):Prop:=Calls Tryz.prog f args W fun e w'=>∃ v,e = .returned v∧Q v w'
theorem mixed:Tryz.prog.follows .mixedOrders=true:=by kernel_rfl
structure Ar2_i64 where
 f0:Int
 f1:Int
 deriving DecidableEq
def Ar2_i64.k:Kn Ar2_i64:=⟨2,fun F x cs=>cs=[.int .i64 x.f0,.int .i64 x.f1],by
  rintro F x cs h
  subst h
  rfl,by
  rintro F x cs h u hu
  subst h
  simp only [List.mem_cons,List.not_mem_nil,or_false]at hu
  rcases hu with rfl | rfl <;> rfl,fun hs h=>h⟩
structure qA where
 f0:Int
 f1:Int
 f2:Int
 f3:Int
 f4:Bool
 f5:Bool
 deriving DecidableEq
def qA.z:qA:=⟨0,0,0,0,false,false⟩
def qA.k:Kn qA:=⟨6,fun F x cs=>cs=[.int .i64 x.f0,.int .i64 x.f1,.int .i64 x.f2,.int .i64 x.f3,.bool x.f4,.bool x.f5],by
  rintro F x cs h
  subst h
  rfl,by
  rintro F x cs h u hu
  subst h
  simp only [List.mem_cons,List.not_mem_nil,or_false]at hu
  rcases hu with rfl | rfl | rfl | rfl | rfl | rfl <;> rfl,fun hs h=>h⟩
structure qI where
 f0:Int
 f1:List Int
 deriving DecidableEq
def qI.z:qI:=⟨0,[]⟩
def qI.k:Kn qI:=⟨2,fun F x cs=>∃(A1:Option Addr)(c1:Nat),cs=[.int .i64 x.f0,.slice A1 x.f1.length c1]∧Rd (Kn.int .i64) F A1 c1 x.f1,by
  rintro F x cs ⟨_,_,h,_⟩
  subst h
  rfl,by
  rintro F x cs ⟨_,_,h,_⟩ u hu
  subst h
  simp only [List.mem_cons,List.not_mem_nil,or_false]at hu
  rcases hu with rfl | rfl <;> rfl,fun hs ⟨A1,c1,h,g1⟩=>⟨A1,c1,h,g1.mono hs⟩⟩
structure qL where
 f0:Int
 f1:List Int
 deriving DecidableEq
def qL.z:qL:=⟨0,[]⟩
def qL.k:Kn qL:=⟨2,fun F x cs=>∃(A1:Option Addr)(c1:Nat),cs=[.int .i64 x.f0,.slice A1 x.f1.length c1]∧Rd (Kn.int .i64) F A1 c1 x.f1,by
  rintro F x cs ⟨_,_,h,_⟩
  subst h
  rfl,by
  rintro F x cs ⟨_,_,h,_⟩ u hu
  subst h
  simp only [List.mem_cons,List.not_mem_nil,or_false]at hu
  rcases hu with rfl | rfl <;> rfl,fun hs ⟨A1,c1,h,g1⟩=>⟨A1,c1,h,g1.mono hs⟩⟩
structure qC where
 f0:Int
 f1:List qL
 deriving DecidableEq
def qC.z:qC:=⟨0,[]⟩
def qC.k:Kn qC:=⟨2,fun F x cs=>∃(A1:Option Addr)(c1:Nat),cs=[.int .i64 x.f0,.slice A1 x.f1.length c1]∧Rd qL.k F A1 c1 x.f1,by
  rintro F x cs ⟨_,_,h,_⟩
  subst h
  rfl,by
  rintro F x cs ⟨_,_,h,_⟩ u hu
  subst h
  simp only [List.mem_cons,List.not_mem_nil,or_false]at hu
  rcases hu with rfl | rfl <;> rfl,fun hs ⟨A1,c1,h,g1⟩=>⟨A1,c1,h,g1.mono hs⟩⟩
structure qF where
 f0:Int
 f1:Int
 f2:Int
 f3:Int
 f4:List qA
 f5:List qI
 f6:List qC
 deriving DecidableEq
def qF.z:qF:=⟨0,0,0,0,[],[],[]⟩
def qF.k:Kn qF:=⟨7,fun F x cs=>∃(A4:Option Addr)(c4:Nat)(A5:Option Addr)(c5:Nat)(A6:Option Addr)(c6:Nat),cs=[.int .i64 x.f0,.int .i64 x.f1,.int .i64 x.f2,.int .i64 x.f3,.slice A4 x.f4.length c4,.slice A5 x.f5.length c5,.slice A6 x.f6.length c6]∧Rd qA.k F A4 c4 x.f4∧Rd qI.k F A5 c5 x.f5∧Rd qC.k F A6 c6 x.f6,by
  rintro F x cs ⟨_,_,_,_,_,_,h,_,_,_⟩
  subst h
  rfl,by
  rintro F x cs ⟨_,_,_,_,_,_,h,_,_,_⟩ u hu
  subst h
  simp only [List.mem_cons,List.not_mem_nil,or_false]at hu
  rcases hu with rfl | rfl | rfl | rfl | rfl | rfl | rfl <;> rfl,fun hs ⟨A4,c4,A5,c5,A6,c6,h,g4,g5,g6⟩=>⟨A4,c4,A5,c5,A6,c6,h,g4.mono hs,g5.mono hs,g6.mono hs⟩⟩
structure qE where
 f0:Int
 f1:Int
 f2:Int
 f3:Int
 f4:Int
 f5:Int
 f6:List Int
 deriving DecidableEq
def qE.z:qE:=⟨0,0,0,0,0,0,[]⟩
def qE.k:Kn qE:=⟨7,fun F x cs=>∃(A6:Option Addr)(c6:Nat),cs=[.int .i64 x.f0,.int .i64 x.f1,.int .i64 x.f2,.int .i64 x.f3,.int .i64 x.f4,.int .i64 x.f5,.slice A6 x.f6.length c6]∧Rd (Kn.int .i64) F A6 c6 x.f6,by
  rintro F x cs ⟨_,_,h,_⟩
  subst h
  rfl,by
  rintro F x cs ⟨_,_,h,_⟩ u hu
  subst h
  simp only [List.mem_cons,List.not_mem_nil,or_false]at hu
  rcases hu with rfl | rfl | rfl | rfl | rfl | rfl | rfl <;> rfl,fun hs ⟨A6,c6,h,g6⟩=>⟨A6,c6,h,g6.mono hs⟩⟩
structure qK where
 f0:Int
 f1:Int
 f2:Int
 deriving DecidableEq
def qK.z:qK:=⟨0,0,0⟩
def qK.k:Kn qK:=⟨3,fun F x cs=>cs=[.int .i64 x.f0,.int .i64 x.f1,.int .i64 x.f2],by
  rintro F x cs h
  subst h
  rfl,by
  rintro F x cs h u hu
  subst h
  simp only [List.mem_cons,List.not_mem_nil,or_false]at hu
  rcases hu with rfl | rfl | rfl <;> rfl,fun hs h=>h⟩
structure qX where
 f0:Int
 f1:Int
 f2:Int
 deriving DecidableEq
def qX.z:qX:=⟨0,0,0⟩
def qX.k:Kn qX:=⟨3,fun F x cs=>cs=[.int .i64 x.f0,.int .i64 x.f1,.int .i64 x.f2],by
  rintro F x cs h
  subst h
  rfl,by
  rintro F x cs h u hu
  subst h
  simp only [List.mem_cons,List.not_mem_nil,or_false]at hu
  rcases hu with rfl | rfl | rfl <;> rfl,fun hs h=>h⟩
structure qB where
 f0:Int
 f1:Int
 deriving DecidableEq
def qB.z:qB:=⟨0,0⟩
def qB.k:Kn qB:=⟨2,fun F x cs=>cs=[.int .i64 x.f0,.int .i64 x.f1],by
  rintro F x cs h
  subst h
  rfl,by
  rintro F x cs h u hu
  subst h
  simp only [List.mem_cons,List.not_mem_nil,or_false]at hu
  rcases hu with rfl | rfl <;> rfl,fun hs h=>h⟩
structure qAa where
 f0:qF
 f1:List qE
 deriving DecidableEq
structure qk where
 f0:Int
 f1:Int
 deriving DecidableEq
def qk.z:qk:=⟨0,0⟩
def qk.k:Kn qk:=⟨2,fun F x cs=>cs=[.int .i64 x.f0,.int .i64 x.f1],by
  rintro F x cs h
  subst h
  rfl,by
  rintro F x cs h u hu
  subst h
  simp only [List.mem_cons,List.not_mem_nil,or_false]at hu
  rcases hu with rfl | rfl <;> rfl,fun hs h=>h⟩
structure qAf where
 f0:Int
 f1:ByteArray
 f2:qk
 f3:Int
 f4:Int
 f5:Int
 deriving DecidableEq
def qAf.z:qAf:=⟨0,ByteArray.empty,qk.z,0,0,0⟩
structure qAO where
 f0:Int
 f1:Bool
 f2:Int
 deriving DecidableEq
def qAO.z:qAO:=⟨0,false,0⟩
structure qc where
 f0:Int
 f1:List Int
 f2:qAa
 f3:Int
 f4:Bool
 f5:Int
 f6:qAf
 f7:Int
 f8:Int
 f9:qAO
 deriving DecidableEq
structure qx where
 f0:ByteArray
 f1:ByteArray
 deriving DecidableEq
def qx.z:qx:=⟨ByteArray.empty,ByteArray.empty⟩
def qx.k:Kn qx:=⟨2,fun F x cs=>cs=[.string x.f0,.string x.f1],by
  rintro F x cs h
  subst h
  rfl,by
  rintro F x cs h u hu
  subst h
  simp only [List.mem_cons,List.not_mem_nil,or_false]at hu
  rcases hu with rfl | rfl <;> rfl,fun hs h=>h⟩
structure qBC where
 f0:ByteArray
 f1:List qx
 deriving DecidableEq
structure qBm where
 f0:Int
 f1:qE
 deriving DecidableEq
def qBm.k:Kn qBm:=⟨8,fun F x cs=>∃(A7:Option Addr)(c7:Nat),cs=[.int .i64 x.f0,.int .i64 x.f1.f0,.int .i64 x.f1.f1,.int .i64 x.f1.f2,.int .i64 x.f1.f3,.int .i64 x.f1.f4,.int .i64 x.f1.f5,.slice A7 x.f1.f6.length c7]∧Rd (Kn.int .i64) F A7 c7 x.f1.f6,by
  rintro F x cs ⟨_,_,h,_⟩
  subst h
  rfl,by
  rintro F x cs ⟨_,_,h,_⟩ u hu
  subst h
  simp only [List.mem_cons,List.not_mem_nil,or_false]at hu
  rcases hu with rfl | rfl | rfl | rfl | rfl | rfl | rfl | rfl <;> rfl,fun hs ⟨A7,c7,h,g7⟩=>⟨A7,c7,h,g7.mono hs⟩⟩
structure qBz where
 f0:Int
 f1:Int
 f2:Int
 f3:qAf
 deriving DecidableEq
def qBz.k:Kn qBz:=⟨10,fun F x cs=>cs=[.int .i64 x.f0,.int .i64 x.f1,.int .i64 x.f2,.int .i64 x.f3.f0,.string x.f3.f1,.int .i64 x.f3.f2.f0,.int .i64 x.f3.f2.f1,.int .i64 x.f3.f3,.int .i64 x.f3.f4,.int .i64 x.f3.f5],by
  rintro F x cs h
  subst h
  rfl,by
  rintro F x cs h u hu
  subst h
  simp only [List.mem_cons,List.not_mem_nil,or_false]at hu
  rcases hu with rfl | rfl | rfl | rfl | rfl | rfl | rfl | rfl | rfl | rfl <;> rfl,fun hs h=>h⟩
structure qCB where
 f0:ByteArray
 f1:List qk
 deriving DecidableEq
def qCB.k:Kn qCB:=⟨2,fun F x cs=>∃(A1:Option Addr)(c1:Nat),cs=[.string x.f0,.slice A1 x.f1.length c1]∧Rd qk.k F A1 c1 x.f1,by
  rintro F x cs ⟨_,_,h,_⟩
  subst h
  rfl,by
  rintro F x cs ⟨_,_,h,_⟩ u hu
  subst h
  simp only [List.mem_cons,List.not_mem_nil,or_false]at hu
  rcases hu with rfl | rfl <;> rfl,fun hs ⟨A1,c1,h,g1⟩=>⟨A1,c1,h,g1.mono hs⟩⟩
structure qCC where
 f0:Int
 f1:Int
 f2:qAO
 deriving DecidableEq
def qCC.k:Kn qCC:=⟨5,fun F x cs=>cs=[.int .i64 x.f0,.int .i64 x.f1,.int .i64 x.f2.f0,.bool x.f2.f1,.int .i64 x.f2.f2],by
  rintro F x cs h
  subst h
  rfl,by
  rintro F x cs h u hu
  subst h
  simp only [List.mem_cons,List.not_mem_nil,or_false]at hu
  rcases hu with rfl | rfl | rfl | rfl | rfl <;> rfl,fun hs h=>h⟩
structure qBn where
 f0:List qCB
 f1:List qCC
 f2:Int
 deriving DecidableEq
def qBn.z:qBn:=⟨[],[],0⟩
structure qBe where
 f0:Int
 f1:Int
 f2:Int
 f3:Bool
 f4:List qBm
 f5:List qE
 f6:qF
 f7:Int
 f8:Int
 f9:Int
 f10:Int
 f11:Int
 f12:List Int
 f13:List qBz
 f14:qBn
 f15:Bool
 f16:Int
 f17:Int
 f18:qAf
 f19:qAO
 deriving DecidableEq
def qBe.z:qBe:=⟨0,0,0,false,[],[],qF.z,0,0,0,0,0,[],[],qBn.z,false,0,0,qAf.z,qAO.z⟩
structure qAm where
 f0:Int
 f1:qBe
 deriving DecidableEq
def qAm.z:qAm:=⟨0,qBe.z⟩
def qAm.k:Kn qAm:=⟨37,fun F x cs=>∃(A5:Option Addr)(c5:Nat)(A6:Option Addr)(c6:Nat)(A11:Option Addr)(c11:Nat)(A12:Option Addr)(c12:Nat)(A13:Option Addr)(c13:Nat)(A19:Option Addr)(c19:Nat)(A20:Option Addr)(c20:Nat)(A21:Option Addr)(c21:Nat)(A22:Option Addr)(c22:Nat),cs=[.int .i64 x.f0,.int .i64 x.f1.f0,.int .i64 x.f1.f1,.int .i64 x.f1.f2,.bool x.f1.f3,.slice A5 x.f1.f4.length c5,.slice A6 x.f1.f5.length c6,.int .i64 x.f1.f6.f0,.int .i64 x.f1.f6.f1,.int .i64 x.f1.f6.f2,.int .i64 x.f1.f6.f3,.slice A11 x.f1.f6.f4.length c11,.slice A12 x.f1.f6.f5.length c12,.slice A13 x.f1.f6.f6.length c13,.int .i64 x.f1.f7,.int .i64 x.f1.f8,.int .i64 x.f1.f9,.int .i64 x.f1.f10,.int .i64 x.f1.f11,.slice A19 x.f1.f12.length c19,.slice A20 x.f1.f13.length c20,.slice A21 x.f1.f14.f0.length c21,.slice A22 x.f1.f14.f1.length c22,.int .i64 x.f1.f14.f2,.bool x.f1.f15,.int .i64 x.f1.f16,.int .i64 x.f1.f17,.int .i64 x.f1.f18.f0,.string x.f1.f18.f1,.int .i64 x.f1.f18.f2.f0,.int .i64 x.f1.f18.f2.f1,.int .i64 x.f1.f18.f3,.int .i64 x.f1.f18.f4,.int .i64 x.f1.f18.f5,.int .i64 x.f1.f19.f0,.bool x.f1.f19.f1,.int .i64 x.f1.f19.f2]∧Rd qBm.k F A5 c5 x.f1.f4∧Rd qE.k F A6 c6 x.f1.f5∧Rd qA.k F A11 c11 x.f1.f6.f4∧Rd qI.k F A12 c12 x.f1.f6.f5∧Rd qC.k F A13 c13 x.f1.f6.f6∧Rd (Kn.int .i64) F A19 c19 x.f1.f12∧Rd qBz.k F A20 c20 x.f1.f13∧Rd qCB.k F A21 c21 x.f1.f14.f0∧Rd qCC.k F A22 c22 x.f1.f14.f1,by
  rintro F x cs ⟨_,_,_,_,_,_,_,_,_,_,_,_,_,_,_,_,_,_,h,_,_,_,_,_,_,_,_,_⟩
  subst h
  rfl,by
  rintro F x cs ⟨_,_,_,_,_,_,_,_,_,_,_,_,_,_,_,_,_,_,h,_,_,_,_,_,_,_,_,_⟩ u hu
  subst h
  simp only [List.mem_cons,List.not_mem_nil,or_false]at hu
  rcases hu with rfl | rfl | rfl | rfl | rfl | rfl | rfl | rfl | rfl | rfl | rfl | rfl | rfl | rfl | rfl | rfl | rfl | rfl | rfl | rfl | rfl | rfl | rfl | rfl | rfl | rfl | rfl | rfl | rfl | rfl | rfl | rfl | rfl | rfl | rfl | rfl | rfl <;> rfl,fun hs ⟨A5,c5,A6,c6,A11,c11,A12,c12,A13,c13,A19,c19,A20,c20,A21,c21,A22,c22,h,g5,g6,g11,g12,g13,g19,g20,g21,g22⟩=>⟨A5,c5,A6,c6,A11,c11,A12,c12,A13,c13,A19,c19,A20,c20,A21,c21,A22,c22,h,g5.mono hs,g6.mono hs,g11.mono hs,g12.mono hs,g13.mono hs,g19.mono hs,g20.mono hs,g21.mono hs,g22.mono hs⟩⟩
structure Ar3_i64 where
 f0:Int
 f1:Int
 f2:Int
 deriving DecidableEq
def Ar3_i64.z:Ar3_i64:=⟨0,0,0⟩
def Ar3_i64.k:Kn Ar3_i64:=⟨3,fun F x cs=>cs=[.int .i64 x.f0,.int .i64 x.f1,.int .i64 x.f2],by
  rintro F x cs h
  subst h
  rfl,by
  rintro F x cs h u hu
  subst h
  simp only [List.mem_cons,List.not_mem_nil,or_false]at hu
  rcases hu with rfl | rfl | rfl <;> rfl,fun hs h=>h⟩
theorem eo {P : Program} {g : FuncId} {fn : Func} (hf : P.funcs[g]? = some fn) (hname : (fn.name == "runtime.NumGoroutine") = false := by kernel_rfl) (hb : fn.body.isSome = true := by rfl) : Enters P g := by
 cases h:fn.body with
 | none=>rw [h]at hb; cases hb
 | some c=>first | exact enters_of hf hname h | exact enters_of hf hname hb
abbrev Et(g:FuncId):Prop:=Enters Tryz.prog g
theorem en8:Et 8:=eo Tryz.func8
theorem en12:Et 12:=eo Tryz.func12
theorem en14:Et 14:=eo Tryz.func14
theorem en16:Et 16:=eo Tryz.func16
theorem en17:Et 17:=eo Tryz.func17
theorem en18:Et 18:=eo Tryz.func18
theorem en19:Et 19:=eo Tryz.func19
theorem en20:Et 20:=eo Tryz.func20
theorem en21:Et 21:=eo Tryz.func21
theorem en22:Et 22:=eo Tryz.func22
theorem en25:Et 25:=eo Tryz.func25
theorem en26:Et 26:=eo Tryz.func26
theorem en28:Et 28:=eo Tryz.func28
theorem en36:Et 36:=eo Tryz.func36
theorem en37:Et 37:=eo Tryz.func37
theorem en39:Et 39:=eo Tryz.func39
theorem en40:Et 40:=eo Tryz.func40
theorem en41:Et 41:=eo Tryz.func41
theorem en43:Et 43:=eo Tryz.func43
theorem en46:Et 46:=eo Tryz.func46
theorem en47:Et 47:=eo Tryz.func47
theorem en48:Et 48:=eo Tryz.func48
theorem en49:Et 49:=eo Tryz.func49
theorem en50:Et 50:=eo Tryz.func50
theorem en51:Et 51:=eo Tryz.func51
theorem en52:Et 52:=eo Tryz.func52
theorem en53:Et 53:=eo Tryz.func53
theorem en54:Et 54:=eo Tryz.func54
theorem en55:Et 55:=eo Tryz.func55
theorem en56:Et 56:=eo Tryz.func56
theorem en57:Et 57:=eo Tryz.func57
theorem en61:Et 61:=eo Tryz.func61
theorem en62:Et 62:=eo Tryz.func62
theorem en63:Et 63:=eo Tryz.func63
theorem en64:Et 64:=eo Tryz.func64
theorem en65:Et 65:=eo Tryz.func65
theorem en68:Et 68:=eo Tryz.func68
theorem en77:Et 77:=eo Tryz.func77
theorem en86:Et 86:=eo Tryz.func86
theorem en87:Et 87:=eo Tryz.func87
theorem en88:Et 88:=eo Tryz.func88
theorem en90:Et 90:=eo Tryz.func90
theorem en93:Et 93:=eo Tryz.func93
theorem en94:Et 94:=eo Tryz.func94
theorem en95:Et 95:=eo Tryz.func95
theorem en96:Et 96:=eo Tryz.func96
theorem en97:Et 97:=eo Tryz.func97
theorem en98:Et 98:=eo Tryz.func98
theorem en102:Et 102:=eo Tryz.func102
theorem en103:Et 103:=eo Tryz.func103
theorem en104:Et 104:=eo Tryz.func104
theorem en105:Et 105:=eo Tryz.func105
theorem en106:Et 106:=eo Tryz.func106
theorem en108:Et 108:=eo Tryz.func108
theorem en109:Et 109:=eo Tryz.func109
theorem en110:Et 110:=eo Tryz.func110
theorem en111:Et 111:=eo Tryz.func111
theorem en112:Et 112:=eo Tryz.func112
theorem en113:Et 113:=eo Tryz.func113
theorem en114:Et 114:=eo Tryz.func114
theorem en115:Et 115:=eo Tryz.func115
theorem en116:Et 116:=eo Tryz.func116
theorem en117:Et 117:=eo Tryz.func117
theorem en118:Et 118:=eo Tryz.func118
theorem en119:Et 119:=eo Tryz.func119
theorem en120:Et 120:=eo Tryz.func120
theorem en121:Et 121:=eo Tryz.func121
theorem en122:Et 122:=eo Tryz.func122
theorem en125:Et 125:=eo Tryz.func125
theorem en127:Et 127:=eo Tryz.func127
theorem en142:Et 142:=eo Tryz.func142
theorem en143:Et 143:=eo Tryz.func143
theorem en144:Et 144:=eo Tryz.func144
theorem en145:Et 145:=eo Tryz.func145
theorem en146:Et 146:=eo Tryz.func146
theorem en147:Et 147:=eo Tryz.func147
theorem en150:Et 150:=eo Tryz.func150
theorem en151:Et 151:=eo Tryz.func151
theorem en153:Et 153:=eo Tryz.func153
theorem en154:Et 154:=eo Tryz.func154
theorem en155:Et 155:=eo Tryz.func155
theorem en156:Et 156:=eo Tryz.func156
theorem en159:Et 159:=eo Tryz.func159
theorem en160:Et 160:=eo Tryz.func160
theorem en161:Et 161:=eo Tryz.func161
theorem en162:Et 162:=eo Tryz.func162
theorem en163:Et 163:=eo Tryz.func163
theorem en164:Et 164:=eo Tryz.func164
theorem en165:Et 165:=eo Tryz.func165
theorem en166:Et 166:=eo Tryz.func166
theorem en167:Et 167:=eo Tryz.func167
theorem en168:Et 168:=eo Tryz.func168
theorem en178:Et 178:=eo Tryz.func178
theorem en181:Et 181:=eo Tryz.func181
theorem en182:Et 182:=eo Tryz.func182
theorem en190:Et 190:=eo Tryz.func190
theorem en191:Et 191:=eo Tryz.func191
theorem en194:Et 194:=eo Tryz.func194
theorem en195:Et 195:=eo Tryz.func195
theorem en196:Et 196:=eo Tryz.func196
theorem en197:Et 197:=eo Tryz.func197
theorem en198:Et 198:=eo Tryz.func198
theorem en199:Et 199:=eo Tryz.func199
theorem en200:Et 200:=eo Tryz.func200
theorem en201:Et 201:=eo Tryz.func201
theorem en202:Et 202:=eo Tryz.func202
theorem en203:Et 203:=eo Tryz.func203
theorem en205:Et 205:=eo Tryz.func205
theorem en206:Et 206:=eo Tryz.func206
theorem en207:Et 207:=eo Tryz.func207
theorem en208:Et 208:=eo Tryz.func208
theorem en217:Et 217:=eo Tryz.func217
theorem en220:Et 220:=eo Tryz.func220
theorem en221:Et 221:=eo Tryz.func221
theorem en229:Et 229:=eo Tryz.func229
theorem en233:Et 233:=eo Tryz.func233
theorem en234:Et 234:=eo Tryz.func234
theorem en235:Et 235:=eo Tryz.func235
theorem en236:Et 236:=eo Tryz.func236
theorem en237:Et 237:=eo Tryz.func237
theorem en238:Et 238:=eo Tryz.func238
theorem en239:Et 239:=eo Tryz.func239
theorem en240:Et 240:=eo Tryz.func240
theorem en241:Et 241:=eo Tryz.func241
theorem en242:Et 242:=eo Tryz.func242
theorem en246:Et 246:=eo Tryz.func246
theorem en247:Et 247:=eo Tryz.func247
theorem en262:Et 262:=eo Tryz.func262
theorem en263:Et 263:=eo Tryz.func263
theorem en264:Et 264:=eo Tryz.func264
theorem en265:Et 265:=eo Tryz.func265
theorem en266:Et 266:=eo Tryz.func266
theorem en267:Et 267:=eo Tryz.func267
theorem en268:Et 268:=eo Tryz.func268
theorem en297:Et 297:=eo Tryz.func297
theorem en298:Et 298:=eo Tryz.func298
theorem en299:Et 299:=eo Tryz.func299
theorem en300:Et 300:=eo Tryz.func300
theorem en301:Et 301:=eo Tryz.func301
theorem en302:Et 302:=eo Tryz.func302
theorem en317:Et 317:=eo Tryz.func317
theorem en318:Et 318:=eo Tryz.func318
theorem en319:Et 319:=eo Tryz.func319
theorem en320:Et 320:=eo Tryz.func320
theorem en321:Et 321:=eo Tryz.func321
theorem en322:Et 322:=eo Tryz.func322
theorem en323:Et 323:=eo Tryz.func323
theorem en324:Et 324:=eo Tryz.func324
theorem en325:Et 325:=eo Tryz.func325
theorem en326:Et 326:=eo Tryz.func326
theorem en327:Et 327:=eo Tryz.func327
theorem en328:Et 328:=eo Tryz.func328
theorem en329:Et 329:=eo Tryz.func329
theorem en330:Et 330:=eo Tryz.func330
theorem en331:Et 331:=eo Tryz.func331
theorem en336:Et 336:=eo Tryz.func336
theorem en337:Et 337:=eo Tryz.func337
theorem en338:Et 338:=eo Tryz.func338
theorem en339:Et 339:=eo Tryz.func339
theorem en341:Et 341:=eo Tryz.func341
theorem en342:Et 342:=eo Tryz.func342
theorem en353:Et 353:=eo Tryz.func353
theorem en354:Et 354:=eo Tryz.func354
theorem sz3:sizeB Tryz.prog 3=some 1:=by kernel_rfl
theorem ag27:aggB Tryz.prog 27=some true:=by kernel_rfl
theorem sz27:sizeB Tryz.prog 27=some 7:=by kernel_rfl
theorem ag55:aggB Tryz.prog 55=some true:=by kernel_rfl
theorem sz55:sizeB Tryz.prog 55=some 25:=by kernel_rfl
theorem sz89:sizeB Tryz.prog 89=some 2:=by kernel_rfl
theorem ag96:aggB Tryz.prog 96=some true:=by kernel_rfl
theorem sz96:sizeB Tryz.prog 96=some 7:=by kernel_rfl
theorem ag153:aggB Tryz.prog 153=some true:=by kernel_rfl
theorem sz153:sizeB Tryz.prog 153=some 6:=by kernel_rfl
theorem ag193:aggB Tryz.prog 193=some true:=by kernel_rfl
theorem sz193:sizeB Tryz.prog 193=some 2:=by kernel_rfl
theorem ag232:aggB Tryz.prog 232=some true:=by kernel_rfl
theorem sz232:sizeB Tryz.prog 232=some 2:=by kernel_rfl
theorem ag306:aggB Tryz.prog 306=some true:=by kernel_rfl
theorem sz306:sizeB Tryz.prog 306=some 2:=by kernel_rfl
theorem zr3:zerK Tryz.prog 3=[.int .i64 0]:=by kernel_rfl
theorem zr87:zerK Tryz.prog 87=[.int .i64 0,.slice none 0 0]:=by kernel_rfl
theorem zr306:zerK Tryz.prog 306=[.int .i64 0,.int .i64 0]:=by kernel_rfl
theorem ud3:Tryz.prog.underlying 3=some (.int .i64):=by kernel_rfl
theorem ud4:Tryz.prog.underlying 4=some (.bool):=by kernel_rfl
theorem ud9:Tryz.prog.underlying 9=some (.string):=by kernel_rfl
theorem ud37:Tryz.prog.underlying 37=some (.int .i64):=by kernel_rfl
theorem qHX(a b:ByteArray):(a == b)=true↔a=b:=by
 obtain ⟨a⟩:=a
 obtain ⟨b⟩:=b
 show (a == b)=true↔_
 rw [beq_iff_eq,ByteArray.mk.injEq]
theorem qA.beq(x y:qA):(x.f0 == y.f0&&(x.f1 == y.f1&&(x.f2 == y.f2&&(x.f3 == y.f3&&(x.f4 == y.f4&&(x.f5 == y.f5&&(true)))))))=decide (x=y):=by
 cases x; cases y
 rw [Bool.eq_iff_iff]
 simp only [Bool.and_eq_true,beq_iff_eq,decide_eq_true_eq,qA.mk.injEq,and_true]
theorem eqs153(x y:qA)(w:World)(d:Nat):(Op.equalIn (d+2) 153 (.agg #[.int .i64 x.f0,.int .i64 x.f1,.int .i64 x.f2,.int .i64 x.f3,.bool x.f4,.bool x.f5]) (.agg #[.int .i64 y.f0,.int .i64 y.f1,.int .i64 y.f2,.int .i64 y.f3,.bool y.f4,.bool y.f5])).run Tryz.prog w = .ok (decide (x=y)) w :=
 (qEy (d:=d+1) Tryz.underlying153 (by kernel_rfl) (qCT (by kernel_rfl) (by kernel_rfl) (by kernel_rfl) (qCo ud3) (qCT (by kernel_rfl) (by kernel_rfl) (by kernel_rfl) (qCo ud3) (qCT (by kernel_rfl) (by kernel_rfl) (by kernel_rfl) (qCo ud3) (qCT (by kernel_rfl) (by kernel_rfl) (by kernel_rfl) (qCo ud3) (qCT (by kernel_rfl) (by kernel_rfl) (by kernel_rfl) (qEe ud4) (qCT (by kernel_rfl) (by kernel_rfl) (by kernel_rfl) (qEe ud4) (qDw)))))))).trans (congrArg (fun b=>Result.ok b w) (qA.beq x y))
theorem qk.beq(x y:qk):(x.f0 == y.f0&&(x.f1 == y.f1&&(true)))=decide (x=y):=by
 cases x; cases y
 rw [Bool.eq_iff_iff]
 simp only [Bool.and_eq_true,beq_iff_eq,decide_eq_true_eq,qk.mk.injEq,and_true]
theorem eqs49(x y:qk)(w:World)(d:Nat):(Op.equalIn (d+2) 49 (.agg #[.int .i64 x.f0,.int .i64 x.f1]) (.agg #[.int .i64 y.f0,.int .i64 y.f1])).run Tryz.prog w = .ok (decide (x=y)) w :=
 (qEy (d:=d+1) Tryz.underlying49 (by kernel_rfl) (qCT (by kernel_rfl) (by kernel_rfl) (by kernel_rfl) (qCo ud3) (qCT (by kernel_rfl) (by kernel_rfl) (by kernel_rfl) (qCo ud3) (qDw)))).trans (congrArg (fun b=>Result.ok b w) (qk.beq x y))
theorem qAf.beq(x y:qAf):(x.f0 == y.f0&&(x.f1 == y.f1&&(decide (x.f2=y.f2)&&(x.f3 == y.f3&&(x.f4 == y.f4&&(x.f5 == y.f5&&(true)))))))=decide (x=y):=by
 cases x; cases y
 rw [Bool.eq_iff_iff]
 simp only [Bool.and_eq_true,qHX,beq_iff_eq,decide_eq_true_eq,qAf.mk.injEq,and_true]
theorem eqs51(x y:qAf)(w:World)(d:Nat):(Op.equalIn (d+3) 51 (.agg #[.int .i64 x.f0,.string x.f1,.int .i64 x.f2.f0,.int .i64 x.f2.f1,.int .i64 x.f3,.int .i64 x.f4,.int .i64 x.f5]) (.agg #[.int .i64 y.f0,.string y.f1,.int .i64 y.f2.f0,.int .i64 y.f2.f1,.int .i64 y.f3,.int .i64 y.f4,.int .i64 y.f5])).run Tryz.prog w = .ok (decide (x=y)) w :=
 (qEy (d:=d+2) Tryz.underlying51 (by kernel_rfl) (qCT (by kernel_rfl) (by kernel_rfl) (by kernel_rfl) (qCo ud3) (qCT (by kernel_rfl) (by kernel_rfl) (by kernel_rfl) (qHV ud9) (qCT (by kernel_rfl) (by kernel_rfl) (by kernel_rfl) (eqs49 x.f2 y.f2 w (d+0)) (qCT (by kernel_rfl) (by kernel_rfl) (by kernel_rfl) (qCo ud3) (qCT (by kernel_rfl) (by kernel_rfl) (by kernel_rfl) (qCo ud3) (qCT (by kernel_rfl) (by kernel_rfl) (by kernel_rfl) (qCo ud3) (qDw)))))))).trans (congrArg (fun b=>Result.ok b w) (qAf.beq x y))
theorem qAO.beq(x y:qAO):(x.f0 == y.f0&&(x.f1 == y.f1&&(x.f2 == y.f2&&(true))))=decide (x=y):=by
 cases x; cases y
 rw [Bool.eq_iff_iff]
 simp only [Bool.and_eq_true,beq_iff_eq,decide_eq_true_eq,qAO.mk.injEq,and_true]
theorem eqs53(x y:qAO)(w:World)(d:Nat):(Op.equalIn (d+2) 53 (.agg #[.int .i64 x.f0,.bool x.f1,.int .i64 x.f2]) (.agg #[.int .i64 y.f0,.bool y.f1,.int .i64 y.f2])).run Tryz.prog w = .ok (decide (x=y)) w :=
 (qEy (d:=d+1) Tryz.underlying53 (by kernel_rfl) (qCT (by kernel_rfl) (by kernel_rfl) (by kernel_rfl) (qCo ud37) (qCT (by kernel_rfl) (by kernel_rfl) (by kernel_rfl) (qEe ud4) (qCT (by kernel_rfl) (by kernel_rfl) (by kernel_rfl) (qCo ud3) (qDw))))).trans (congrArg (fun b=>Result.ok b w) (qAO.beq x y))
end Go.Proofs.YtpabbpebefdafaaGreat.CN
