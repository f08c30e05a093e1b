/- Kinds and small facts of this print (written by wip/s/sl.py). -/
import Derived.Test.YtihjknnhbgkinaaSlJ
import Derived.Test.YtihjknnhbgkinaaSort
import Derived.Test.YtihjknnhbgkinaaProg
namespace Go.Proofs.Ytihjknnhbgkinaa.SM
open Go Go.RowKit Go.Proofs.Ytihjknnhbgkinaa.Sl
set_option linter.unusedVariables false
set_option linter.unusedSimpArgs false
theorem mixed : Try.prog.follows .mixedOrders = true := by kernel_rfl
structure T_api_Step where
  f0 : Int
  f1 : Int
  f2 : Int
  deriving DecidableEq
def T_api_Step.z : T_api_Step := ⟨0, 0, 0⟩
def T_api_Step.k : Kn T_api_Step := ⟨3, fun F x cs => cs = [.int .i64 x.f0, .int .i64 x.f1, .int .i64 x.f2], by
    rintro F x cs h
    subst h
    rfl, by
    rintro F x cs h u hu
    subst h
    simp only [List.mem_cons, List.not_mem_nil, or_false] at hu
    rcases hu with rfl | rfl | rfl <;> rfl, fun hs h => h⟩
structure T_api_Node where
  f0 : Int
  f1 : Int
  f2 : Int
  f3 : Int
  f4 : Bool
  f5 : Bool
  deriving DecidableEq
def T_api_Node.z : T_api_Node := ⟨0, 0, 0, 0, false, false⟩
def T_api_Node.k : Kn T_api_Node := ⟨6, fun F x cs => cs = [.int .i64 x.f0, .int .i64 x.f1, .int .i64 x.f2, .int .i64 x.f3, .bool x.f4, .bool x.f5], by
    rintro F x cs h
    subst h
    rfl, by
    rintro F x cs h u hu
    subst h
    simp only [List.mem_cons, List.not_mem_nil, or_false] at hu
    rcases hu with rfl | rfl | rfl | rfl | rfl | rfl <;> rfl, fun hs h => h⟩
structure T_api_Choice where
  f0 : Int
  f1 : Int
  deriving DecidableEq
def T_api_Choice.z : T_api_Choice := ⟨0, 0⟩
def T_api_Choice.k : Kn T_api_Choice := ⟨2, fun F x cs => cs = [.int .i64 x.f0, .int .i64 x.f1], by
    rintro F x cs h
    subst h
    rfl, by
    rintro F x cs h u hu
    subst h
    simp only [List.mem_cons, List.not_mem_nil, or_false] at hu
    rcases hu with rfl | rfl <;> rfl, fun hs h => h⟩
structure T_place_item where
  f0 : Int
  f1 : Int
  f2 : Int
  deriving DecidableEq
def T_place_item.z : T_place_item := ⟨0, 0, 0⟩
def T_place_item.k : Kn T_place_item := ⟨3, fun F x cs => cs = [.int .i64 x.f0, .int .i64 x.f1, .int .i64 x.f2], by
    rintro F x cs h
    subst h
    rfl, by
    rintro F x cs h u hu
    subst h
    simp only [List.mem_cons, List.not_mem_nil, or_false] at hu
    rcases hu with rfl | rfl | rfl <;> rfl, fun hs h => h⟩
theorem en11 : Enters Try.prog 11 := enters_of Try.func11 (by kernel_rfl) rfl
theorem en14 : Enters Try.prog 14 := enters_of Try.func14 (by kernel_rfl) rfl
theorem en36 : Enters Try.prog 36 := enters_of Try.func36 (by kernel_rfl) rfl
theorem en39 : Enters Try.prog 39 := enters_of Try.func39 (by kernel_rfl) rfl
theorem en41 : Enters Try.prog 41 := enters_of Try.func41 (by kernel_rfl) rfl
theorem en42 : Enters Try.prog 42 := enters_of Try.func42 (by kernel_rfl) rfl
theorem en43 : Enters Try.prog 43 := enters_of Try.func43 (by kernel_rfl) rfl
theorem en46 : Enters Try.prog 46 := enters_of Try.func46 (by kernel_rfl) rfl
theorem en49 : Enters Try.prog 49 := enters_of Try.func49 (by kernel_rfl) rfl
theorem en51 : Enters Try.prog 51 := enters_of Try.func51 (by kernel_rfl) rfl
theorem en79 : Enters Try.prog 79 := enters_of Try.func79 (by kernel_rfl) rfl
theorem en80 : Enters Try.prog 80 := enters_of Try.func80 (by kernel_rfl) rfl
theorem en81 : Enters Try.prog 81 := enters_of Try.func81 (by kernel_rfl) rfl
theorem en82 : Enters Try.prog 82 := enters_of Try.func82 (by kernel_rfl) rfl
theorem en100 : Enters Try.prog 100 := enters_of Try.func100 (by kernel_rfl) rfl
theorem en101 : Enters Try.prog 101 := enters_of Try.func101 (by kernel_rfl) rfl
theorem en102 : Enters Try.prog 102 := enters_of Try.func102 (by kernel_rfl) rfl
theorem en103 : Enters Try.prog 103 := enters_of Try.func103 (by kernel_rfl) rfl
theorem en104 : Enters Try.prog 104 := enters_of Try.func104 (by kernel_rfl) rfl
theorem en105 : Enters Try.prog 105 := enters_of Try.func105 (by kernel_rfl) rfl
theorem en114 : Enters Try.prog 114 := enters_of Try.func114 (by kernel_rfl) rfl
theorem en115 : Enters Try.prog 115 := enters_of Try.func115 (by kernel_rfl) rfl
theorem en116 : Enters Try.prog 116 := enters_of Try.func116 (by kernel_rfl) rfl
theorem en117 : Enters Try.prog 117 := enters_of Try.func117 (by kernel_rfl) rfl
theorem en118 : Enters Try.prog 118 := enters_of Try.func118 (by kernel_rfl) rfl
theorem en119 : Enters Try.prog 119 := enters_of Try.func119 (by kernel_rfl) rfl
theorem en120 : Enters Try.prog 120 := enters_of Try.func120 (by kernel_rfl) rfl
theorem en121 : Enters Try.prog 121 := enters_of Try.func121 (by kernel_rfl) rfl
theorem en122 : Enters Try.prog 122 := enters_of Try.func122 (by kernel_rfl) rfl
theorem en123 : Enters Try.prog 123 := enters_of Try.func123 (by kernel_rfl) rfl
theorem en124 : Enters Try.prog 124 := enters_of Try.func124 (by kernel_rfl) rfl
theorem en125 : Enters Try.prog 125 := enters_of Try.func125 (by kernel_rfl) rfl
theorem en126 : Enters Try.prog 126 := enters_of Try.func126 (by kernel_rfl) rfl
theorem en127 : Enters Try.prog 127 := enters_of Try.func127 (by kernel_rfl) rfl
theorem en132 : Enters Try.prog 132 := enters_of Try.func132 (by kernel_rfl) rfl
theorem en133 : Enters Try.prog 133 := enters_of Try.func133 (by kernel_rfl) rfl
theorem en134 : Enters Try.prog 134 := enters_of Try.func134 (by kernel_rfl) rfl
theorem en135 : Enters Try.prog 135 := enters_of Try.func135 (by kernel_rfl) rfl
theorem en136 : Enters Try.prog 136 := enters_of Try.func136 (by kernel_rfl) rfl
theorem en139 : Enters Try.prog 139 := enters_of Try.func139 (by kernel_rfl) rfl
theorem en140 : Enters Try.prog 140 := enters_of Try.func140 (by kernel_rfl) rfl
theorem en143 : Enters Try.prog 143 := enters_of Try.func143 (by kernel_rfl) rfl
theorem en156 : Enters Try.prog 156 := enters_of Try.func156 (by kernel_rfl) rfl
theorem en157 : Enters Try.prog 157 := enters_of Try.func157 (by kernel_rfl) rfl
theorem ag3 : aggB Try.prog 3 = some false := by kernel_rfl
theorem sz3 : sizeB Try.prog 3 = some 1 := by kernel_rfl
theorem ag4 : aggB Try.prog 4 = some false := by kernel_rfl
theorem sz4 : sizeB Try.prog 4 = some 1 := by kernel_rfl
theorem ag102 : aggB Try.prog 102 = some true := by kernel_rfl
theorem sz102 : sizeB Try.prog 102 = some 6 := by kernel_rfl
theorem ag106 : aggB Try.prog 106 = some true := by kernel_rfl
theorem sz106 : sizeB Try.prog 106 = some 2 := by kernel_rfl
theorem ag148 : aggB Try.prog 148 = some true := by kernel_rfl
theorem sz148 : sizeB Try.prog 148 = some 3 := by kernel_rfl
theorem ag154 : aggB Try.prog 154 = some true := by kernel_rfl
theorem sz154 : sizeB Try.prog 154 = some 3 := by kernel_rfl
theorem z3z : zeroB Try.prog 3 = some (.int .i64 0) := by kernel_rfl
theorem zr106 : zerK Try.prog 106 = [.int .i64 0, .int .i64 0] := by kernel_rfl
end Go.Proofs.Ytihjknnhbgkinaa.SM
