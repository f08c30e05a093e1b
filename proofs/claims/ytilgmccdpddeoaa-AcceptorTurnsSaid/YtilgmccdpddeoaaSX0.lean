/- Kinds and small facts of this print (written by wip/s/sl.py). -/
import Derived.Test.YtilgmccdpddeoaaSlG
import Derived.Test.YtilgmccdpddeoaaProg
namespace Go.Proofs.Ytilgmccdpddeoaa.SX
open Go Go.RowKit Go.Proofs.Ytilgmccdpddeoaa.Sl
set_option linter.unusedVariables false
set_option linter.unusedSimpArgs false
theorem mixed : Try.prog.follows .mixedOrders = true := by kernel_rfl
structure S28 where
  f0 : Int
  f1 : Int
  f2 : Int
  f3 : Int
  f4 : Int
  f5 : Int
  f6 : List Int
  deriving DecidableEq
def z28 : S28 := ⟨0, 0, 0, 0, 0, 0, []⟩
def k28 : Kn S28 := ⟨7, fun F x cs => ∃ (A6 : Option Addr) (c6 : Nat), cs = [.int .i64 x.f0, .int .i64 x.f1, .int .i64 x.f2, .int .i64 x.f3, .int .i64 x.f4, .int .i64 x.f5, .slice A6 x.f6.length c6] ∧ Rd (Kn.int .i64) F A6 c6 x.f6, by
    rintro F x cs ⟨_, _, h, _⟩
    subst h
    rfl, by
    rintro F x cs ⟨_, _, h, _⟩ u hu
    subst h
    simp only [List.mem_cons, List.not_mem_nil, or_false] at hu
    rcases hu with rfl | rfl | rfl | rfl | rfl | rfl | rfl <;> rfl, fun hs ⟨A6, c6, h, g6⟩ => ⟨A6, c6, h, g6.mono hs⟩⟩
structure S49 where
  f0 : Int
  f1 : S28
  deriving DecidableEq
def z49 : S49 := ⟨0, z28⟩
def k49 : Kn S49 := ⟨8, fun F x cs => ∃ (A7 : Option Addr) (c7 : Nat), cs = [.int .i64 x.f0, .int .i64 x.f1.f0, .int .i64 x.f1.f1, .int .i64 x.f1.f2, .int .i64 x.f1.f3, .int .i64 x.f1.f4, .int .i64 x.f1.f5, .slice A7 x.f1.f6.length c7] ∧ Rd (Kn.int .i64) F A7 c7 x.f1.f6, by
    rintro F x cs ⟨_, _, h, _⟩
    subst h
    rfl, by
    rintro F x cs ⟨_, _, h, _⟩ u hu
    subst h
    simp only [List.mem_cons, List.not_mem_nil, or_false] at hu
    rcases hu with rfl | rfl | rfl | rfl | rfl | rfl | rfl | rfl <;> rfl, fun hs ⟨A7, c7, h, g7⟩ => ⟨A7, c7, h, g7.mono hs⟩⟩
structure S24 where
  f0 : Int
  f1 : List S49
  deriving DecidableEq
def z24 : S24 := ⟨0, []⟩
def k24 : Kn S24 := ⟨2, fun F x cs => ∃ (A1 : Option Addr) (c1 : Nat), cs = [.int .i64 x.f0, .slice A1 x.f1.length c1] ∧ Rd k49 F A1 c1 x.f1, by
    rintro F x cs ⟨_, _, h, _⟩
    subst h
    rfl, by
    rintro F x cs ⟨_, _, h, _⟩ u hu
    subst h
    simp only [List.mem_cons, List.not_mem_nil, or_false] at hu
    rcases hu with rfl | rfl <;> rfl, fun hs ⟨A1, c1, h, g1⟩ => ⟨A1, c1, h, g1.mono hs⟩⟩
structure S25 where
  f0 : Int
  f1 : Int
  f2 : Int
  deriving DecidableEq
def z25 : S25 := ⟨0, 0, 0⟩
def k25 : Kn S25 := ⟨3, fun F x cs => cs = [.int .i64 x.f0, .int .i64 x.f1, .int .i64 x.f2], by
    rintro F x cs h
    subst h
    rfl, by
    rintro F x cs h u hu
    subst h
    simp only [List.mem_cons, List.not_mem_nil, or_false] at hu
    rcases hu with rfl | rfl | rfl <;> rfl, fun hs h => h⟩
theorem en3 : Enters Try.prog 3 := enters_of Try.func3 (by kernel_rfl) rfl
theorem en17 : Enters Try.prog 17 := enters_of Try.func17 (by kernel_rfl) rfl
theorem en18 : Enters Try.prog 18 := enters_of Try.func18 (by kernel_rfl) rfl
theorem en19 : Enters Try.prog 19 := enters_of Try.func19 (by kernel_rfl) rfl
theorem en20 : Enters Try.prog 20 := enters_of Try.func20 (by kernel_rfl) rfl
theorem en21 : Enters Try.prog 21 := enters_of Try.func21 (by kernel_rfl) rfl
theorem en22 : Enters Try.prog 22 := enters_of Try.func22 (by kernel_rfl) rfl
theorem en23 : Enters Try.prog 23 := enters_of Try.func23 (by kernel_rfl) rfl
theorem en24 : Enters Try.prog 24 := enters_of Try.func24 (by kernel_rfl) rfl
theorem en25 : Enters Try.prog 25 := enters_of Try.func25 (by kernel_rfl) rfl
theorem en26 : Enters Try.prog 26 := enters_of Try.func26 (by kernel_rfl) rfl
theorem en27 : Enters Try.prog 27 := enters_of Try.func27 (by kernel_rfl) rfl
theorem en28 : Enters Try.prog 28 := enters_of Try.func28 (by kernel_rfl) rfl
theorem en29 : Enters Try.prog 29 := enters_of Try.func29 (by kernel_rfl) rfl
theorem en31 : Enters Try.prog 31 := enters_of Try.func31 (by kernel_rfl) rfl
theorem en49 : Enters Try.prog 49 := enters_of Try.func49 (by kernel_rfl) rfl
theorem en70 : Enters Try.prog 70 := enters_of Try.func70 (by kernel_rfl) rfl
theorem en71 : Enters Try.prog 71 := enters_of Try.func71 (by kernel_rfl) rfl
theorem en72 : Enters Try.prog 72 := enters_of Try.func72 (by kernel_rfl) rfl
theorem en73 : Enters Try.prog 73 := enters_of Try.func73 (by kernel_rfl) rfl
theorem en74 : Enters Try.prog 74 := enters_of Try.func74 (by kernel_rfl) rfl
theorem en75 : Enters Try.prog 75 := enters_of Try.func75 (by kernel_rfl) rfl
theorem en76 : Enters Try.prog 76 := enters_of Try.func76 (by kernel_rfl) rfl
theorem en77 : Enters Try.prog 77 := enters_of Try.func77 (by kernel_rfl) rfl
theorem en78 : Enters Try.prog 78 := enters_of Try.func78 (by kernel_rfl) rfl
theorem en79 : Enters Try.prog 79 := enters_of Try.func79 (by kernel_rfl) rfl
theorem en109 : Enters Try.prog 109 := enters_of Try.func109 (by kernel_rfl) rfl
theorem en110 : Enters Try.prog 110 := enters_of Try.func110 (by kernel_rfl) rfl
theorem ag3 : aggB Try.prog 3 = some false := by kernel_rfl
theorem sz3 : sizeB Try.prog 3 = some 1 := by kernel_rfl
theorem ag22 : aggB Try.prog 22 = some false := by kernel_rfl
theorem sz22 : sizeB Try.prog 22 = some 1 := by kernel_rfl
theorem ag24 : aggB Try.prog 24 = some true := by kernel_rfl
theorem sz24 : sizeB Try.prog 24 = some 2 := by kernel_rfl
theorem ag26 : aggB Try.prog 26 = some false := by kernel_rfl
theorem sz26 : sizeB Try.prog 26 = some 1 := by kernel_rfl
theorem ag28 : aggB Try.prog 28 = some true := by kernel_rfl
theorem sz28 : sizeB Try.prog 28 = some 7 := by kernel_rfl
theorem ag49 : aggB Try.prog 49 = some true := by kernel_rfl
theorem sz49 : sizeB Try.prog 49 = some 8 := by kernel_rfl
theorem z24z : zeroB Try.prog 24 = some (.agg #[.int .i64 0, .slice none 0 0]) := by kernel_rfl
theorem z28z : zeroB Try.prog 28 = some (.agg #[.int .i64 0, .int .i64 0, .int .i64 0, .int .i64 0, .int .i64 0, .int .i64 0, .slice none 0 0]) := by kernel_rfl
theorem z49z : zeroB Try.prog 49 = some (.agg #[.int .i64 0, .int .i64 0, .int .i64 0, .int .i64 0, .int .i64 0, .int .i64 0, .int .i64 0, .slice none 0 0]) := by kernel_rfl
theorem in3 : (Try.prog.info? 3).map (fun i => (i.zero, i.size, i.bytes)) = some (some (.int .i64 0), 1, 8) := by kernel_rfl
theorem in49 : (Try.prog.info? 49).map (fun i => (i.zero, i.size, i.bytes)) = some (some (.agg #[.int .i64 0, .int .i64 0, .int .i64 0, .int .i64 0, .int .i64 0, .int .i64 0, .int .i64 0, .slice none 0 0]), 8, 80) := by kernel_rfl
theorem ud3 : Try.prog.underlying 3 = some (.int .i64) := by kernel_rfl
theorem ud22 : Try.prog.underlying 22 = some (.slice 49) := by kernel_rfl
theorem ud26 : Try.prog.underlying 26 = some (.slice 3) := by kernel_rfl
end Go.Proofs.Ytilgmccdpddeoaa.SX
