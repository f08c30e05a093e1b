/- Kinds and small facts of this print (written by wip/s/sl.py). -/
import Derived.Test.YtihjknnhbgkinaaSlI
import Derived.Test.YtihjknnhbgkinaaProg
namespace Go.Proofs.Ytihjknnhbgkinaa.SQ
open Go Go.RowKit Go.Proofs.Ytihjknnhbgkinaa.Sl
set_option linter.unusedVariables false
set_option linter.unusedSimpArgs false
theorem mixed : Try.prog.follows .mixedOrders = true := by kernel_rfl
structure T_api_Delta where
  f0 : Int
  f1 : Int
  f2 : Int
  f3 : Int
  f4 : Int
  f5 : Int
  f6 : List Int
  deriving DecidableEq
def T_api_Delta.z : T_api_Delta := ⟨0, 0, 0, 0, 0, 0, []⟩
def T_api_Delta.k : Kn T_api_Delta := ⟨7, fun F x cs => ∃ (A6 : Option Addr) (c6 : Nat), cs = [.int .i64 x.f0, .int .i64 x.f1, .int .i64 x.f2, .int .i64 x.f3, .int .i64 x.f4, .int .i64 x.f5, .slice A6 x.f6.length c6] ∧ Rd (Kn.int .i64) F A6 c6 x.f6, by
    rintro F x cs ⟨_, _, h, _⟩
    subst h
    rfl, by
    rintro F x cs ⟨_, _, h, _⟩ u hu
    subst h
    simp only [List.mem_cons, List.not_mem_nil, or_false] at hu
    rcases hu with rfl | rfl | rfl | rfl | rfl | rfl | rfl <;> rfl, fun hs ⟨A6, c6, h, g6⟩ => ⟨A6, c6, h, g6.mono hs⟩⟩
structure T_api_Data where
  f0 : List Int
  f1 : List ByteArray
  deriving DecidableEq
def T_api_Data.z : T_api_Data := ⟨[], []⟩
def T_api_Data.k : Kn T_api_Data := ⟨2, fun F x cs => ∃ (A0 : Option Addr) (c0 : Nat) (A1 : Option Addr) (c1 : Nat), cs = [.slice A0 x.f0.length c0, .slice A1 x.f1.length c1] ∧ Rd (Kn.int .i64) F A0 c0 x.f0 ∧ Rd Kn.string F A1 c1 x.f1, by
    rintro F x cs ⟨_, _, _, _, h, _, _⟩
    subst h
    rfl, by
    rintro F x cs ⟨_, _, _, _, h, _, _⟩ u hu
    subst h
    simp only [List.mem_cons, List.not_mem_nil, or_false] at hu
    rcases hu with rfl | rfl <;> rfl, fun hs ⟨A0, c0, A1, c1, h, g0, g1⟩ => ⟨A0, c0, A1, c1, h, g0.mono hs, g1.mono hs⟩⟩
structure T_past_reader where
  f0 : List Int
  f1 : Bool
  deriving DecidableEq
def T_past_reader.z : T_past_reader := ⟨[], false⟩
def T_past_reader.k : Kn T_past_reader := ⟨2, fun F x cs => ∃ (A0 : Option Addr) (c0 : Nat), cs = [.slice A0 x.f0.length c0, .bool x.f1] ∧ Rd (Kn.int .i64) F A0 c0 x.f0, by
    rintro F x cs ⟨_, _, h, _⟩
    subst h
    rfl, by
    rintro F x cs ⟨_, _, h, _⟩ u hu
    subst h
    simp only [List.mem_cons, List.not_mem_nil, or_false] at hu
    rcases hu with rfl | rfl <;> rfl, fun hs ⟨A0, c0, h, g0⟩ => ⟨A0, c0, h, g0.mono hs⟩⟩
theorem en4 : Enters Try.prog 4 := enters_of Try.func4 (by kernel_rfl) rfl
theorem en16 : Enters Try.prog 16 := enters_of Try.func16 (by kernel_rfl) rfl
theorem en17 : Enters Try.prog 17 := enters_of Try.func17 (by kernel_rfl) rfl
theorem en18 : Enters Try.prog 18 := enters_of Try.func18 (by kernel_rfl) rfl
theorem en19 : Enters Try.prog 19 := enters_of Try.func19 (by kernel_rfl) rfl
theorem en20 : Enters Try.prog 20 := enters_of Try.func20 (by kernel_rfl) rfl
theorem en21 : Enters Try.prog 21 := enters_of Try.func21 (by kernel_rfl) rfl
theorem en22 : Enters Try.prog 22 := enters_of Try.func22 (by kernel_rfl) rfl
theorem en23 : Enters Try.prog 23 := enters_of Try.func23 (by kernel_rfl) rfl
theorem en44 : Enters Try.prog 44 := enters_of Try.func44 (by kernel_rfl) rfl
theorem en53 : Enters Try.prog 53 := enters_of Try.func53 (by kernel_rfl) rfl
theorem en54 : Enters Try.prog 54 := enters_of Try.func54 (by kernel_rfl) rfl
theorem en55 : Enters Try.prog 55 := enters_of Try.func55 (by kernel_rfl) rfl
theorem en56 : Enters Try.prog 56 := enters_of Try.func56 (by kernel_rfl) rfl
theorem en57 : Enters Try.prog 57 := enters_of Try.func57 (by kernel_rfl) rfl
theorem en58 : Enters Try.prog 58 := enters_of Try.func58 (by kernel_rfl) rfl
theorem en59 : Enters Try.prog 59 := enters_of Try.func59 (by kernel_rfl) rfl
theorem en60 : Enters Try.prog 60 := enters_of Try.func60 (by kernel_rfl) rfl
theorem en63 : Enters Try.prog 63 := enters_of Try.func63 (by kernel_rfl) rfl
theorem en64 : Enters Try.prog 64 := enters_of Try.func64 (by kernel_rfl) rfl
theorem en65 : Enters Try.prog 65 := enters_of Try.func65 (by kernel_rfl) rfl
theorem en74 : Enters Try.prog 74 := enters_of Try.func74 (by kernel_rfl) rfl
theorem en88 : Enters Try.prog 88 := enters_of Try.func88 (by kernel_rfl) rfl
theorem en89 : Enters Try.prog 89 := enters_of Try.func89 (by kernel_rfl) rfl
theorem en110 : Enters Try.prog 110 := enters_of Try.func110 (by kernel_rfl) rfl
theorem ag3 : aggB Try.prog 3 = some false := by kernel_rfl
theorem sz3 : sizeB Try.prog 3 = some 1 := by kernel_rfl
theorem ag4 : aggB Try.prog 4 = some false := by kernel_rfl
theorem sz4 : sizeB Try.prog 4 = some 1 := by kernel_rfl
theorem ag31 : aggB Try.prog 31 = some false := by kernel_rfl
theorem sz31 : sizeB Try.prog 31 = some 1 := by kernel_rfl
theorem ag33 : aggB Try.prog 33 = some true := by kernel_rfl
theorem sz33 : sizeB Try.prog 33 = some 7 := by kernel_rfl
theorem ag36 : aggB Try.prog 36 = some true := by kernel_rfl
theorem sz36 : sizeB Try.prog 36 = some 2 := by kernel_rfl
end Go.Proofs.Ytihjknnhbgkinaa.SQ
