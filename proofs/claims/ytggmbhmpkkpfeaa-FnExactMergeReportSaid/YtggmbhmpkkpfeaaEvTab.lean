/- The tables of this program, and their check. -/
import Derived.Test.YtggmbhmpkkpfeaaEvC
import Derived.Lib.ItoaNum
import Derived.Test.YtggmbhmpkkpfeaaProg
set_option linter.constructorNameAsVariable false
set_option linter.unusedVariables false
set_option linter.unusedSimpArgs false
namespace Go.Proofs.Ytggmbhmpkkpfeaa.Ev
open Go Go.Proofs
def tyTab : List TyI := [
  ⟨.other, 0, 0, []⟩,
  ⟨.func, 1, 8, [.u]⟩,
  ⟨.int .i64, 1, 8, [.i .i64 0]⟩,
  ⟨.int .i64, 1, 8, [.i .i64 0]⟩,
  ⟨.bool, 1, 1, [.k false]⟩,
  ⟨.int .u8, 1, 1, [.i .u8 0]⟩,
  ⟨.int .u8, 1, 1, [.i .u8 0]⟩,
  ⟨.other, 0, 0, []⟩,
  ⟨.other, 0, 0, []⟩,
  ⟨.str, 1, 16, [.s ⟨#[]⟩]⟩,
  ⟨.str, 1, 16, [.s ⟨#[]⟩]⟩,
  ⟨.str, 1, 16, [.s ⟨#[]⟩]⟩,
  ⟨.int .u64, 1, 8, [.i .u64 0]⟩,
  ⟨.other, 0, 0, []⟩,
  ⟨.other, 0, 0, []⟩,
  ⟨.ptr 50, 1, 8, [.np]⟩,
  ⟨.ptr 53, 1, 8, [.np]⟩,
  ⟨.ptr 63, 1, 8, [.np]⟩,
  ⟨.other, 0, 0, []⟩,
  ⟨.other, 0, 0, []⟩,
  ⟨.other, 0, 0, []⟩,
  ⟨.int .i32, 1, 4, [.i .i32 0]⟩,
  ⟨.slice 32, 1, 24, [.nl]⟩,
  ⟨.func, 1, 8, [.u]⟩,
  ⟨.slice 33, 1, 24, [.nl]⟩,
  ⟨.func, 1, 8, [.u]⟩,
  ⟨.func, 1, 8, [.u]⟩,
  ⟨.func, 1, 8, [.u]⟩,
  ⟨.func, 1, 8, [.u]⟩,
  ⟨.func, 1, 8, [.u]⟩,
  ⟨.func, 1, 8, [.u]⟩,
  ⟨.strct [(9, 0), (3, 1), (3, 2), (4, 3), (3, 4), (3, 5), (3, 6), (3, 7), (3, 8), (3, 9)], 10, 88, [.s ⟨#[]⟩, .i .i64 0, .i .i64 0, .k false, .i .i64 0, .i .i64 0, .i .i64 0, .i .i64 0, .i .i64 0, .i .i64 0]⟩,
  ⟨.strct [(9, 0), (3, 1), (3, 2), (4, 3), (3, 4), (3, 5), (3, 6), (3, 7), (3, 8), (3, 9)], 10, 88, [.s ⟨#[]⟩, .i .i64 0, .i .i64 0, .k false, .i .i64 0, .i .i64 0, .i .i64 0, .i .i64 0, .i .i64 0, .i .i64 0]⟩,
  ⟨.strct [(9, 0), (3, 1), (3, 2), (4, 3), (3, 4), (3, 5), (3, 6), (3, 7), (3, 8), (3, 9)], 10, 88, [.s ⟨#[]⟩, .i .i64 0, .i .i64 0, .k false, .i .i64 0, .i .i64 0, .i .i64 0, .i .i64 0, .i .i64 0, .i .i64 0]⟩,
  ⟨.func, 1, 8, [.u]⟩,
  ⟨.func, 1, 8, [.u]⟩,
  ⟨.func, 1, 8, [.u]⟩,
  ⟨.func, 1, 8, [.u]⟩,
  ⟨.func, 1, 8, [.u]⟩,
  ⟨.func, 1, 8, [.u]⟩,
  ⟨.func, 1, 8, [.u]⟩,
  ⟨.func, 1, 8, [.u]⟩,
  ⟨.func, 1, 8, [.u]⟩,
  ⟨.func, 1, 8, [.u]⟩,
  ⟨.func, 1, 8, [.u]⟩,
  ⟨.func, 1, 8, [.u]⟩,
  ⟨.slice 5, 1, 24, [.nl]⟩,
  ⟨.func, 1, 8, [.u]⟩,
  ⟨.func, 1, 8, [.u]⟩,
  ⟨.other, 0, 0, []⟩,
  ⟨.other, 0, 0, []⟩,
  ⟨.other, 0, 0, []⟩,
  ⟨.other, 0, 0, []⟩,
  ⟨.other, 0, 0, []⟩,
  ⟨.func, 1, 8, [.u]⟩,
  ⟨.int .u32, 1, 4, [.i .u32 0]⟩,
  ⟨.int .u8, 1, 1, [.i .u8 0]⟩,
  ⟨.int .u8, 1, 1, [.i .u8 0]⟩,
  ⟨.func, 1, 8, [.u]⟩,
  ⟨.ptr 5, 1, 8, [.np]⟩,
  ⟨.int .i32, 1, 4, [.i .i32 0]⟩,
  ⟨.int .i32, 1, 4, [.i .i32 0]⟩,
  ⟨.other, 0, 0, []⟩,
  ⟨.other, 0, 0, []⟩,
  ⟨.other, 0, 0, []⟩]
def liveTab : List (Nat × Nat × List Nat) := [
  (4, 5, [0, 1, 5]),
  (5, 3, [1, 5, 6]),
  (5, 7, [1, 5, 6, 7, 8]),
  (6, 3, [0, 3, 4]),
  (7, 3, [5, 12, 13, 14]),
  (8, 4, [0, 1, 5]),
  (9, 2, [0, 1, 5]),
  (10, 2, [0, 1, 5]),
  (13, 4, [0, 3, 5, 6, 7]),
  (18, 2, [0, 1, 7, 8]),
  (22, 4, [0, 3]),
  (28, 1, [0, 2, 3])]
def escTab : List (Nat × Nat) := [(7, 7), (16, 3)]
def planTab : List (Nat × Nat × Plan) := []
def locTab : List (Nat × Nat × Nat) := [(5, 31, 1), (5, 36, 1), (5, 43, 1), (5, 47, 1), (5, 50, 1), (7, 7, 1), (7, 28, 1), (7, 32, 1), (8, 19, 1), (8, 23, 1), (10, 15, 1), (12, 22, 4), (12, 25, 5), (12, 30, 4), (13, 18, 1), (13, 20, 5), (13, 30, 1), (13, 32, 5), (17, 35, 5), (17, 37, 7), (17, 38, 7), (17, 42, 5), (17, 44, 5), (17, 46, 7), (17, 47, 7), (17, 51, 4), (17, 53, 5), (17, 56, 4), (17, 58, 5), (17, 61, 7), (17, 62, 7), (28, 20, 1), (28, 24, 1), (28, 26, 1), (28, 27, 1)]
def wrTab : List (Nat × Nat) := []
def okTab : List Nat := [2, 3, 4, 5, 6, 7, 8, 9, 10, 11, 12, 13, 14, 15, 16, 17, 18, 19, 20, 21, 22, 23, 24, 26, 27, 28]
noncomputable def glTab : List (Nat × Nat × List (List AV)) := []
def look3 : List (Nat × Nat × List Nat) → Nat → Nat → List Nat
  | [], _, _ => []
  | (a, b, c) :: l, x, y => match a == x && b == y with | true => c | false => look3 l x y
def look2 : List (Nat × Nat) → Nat → Nat → Bool
  | [], _, _ => false
  | (a, b) :: l, x, y => match a == x && b == y with | true => true | false => look2 l x y
def lookP : List (Nat × Nat × Plan) → Nat → Nat → Option Plan
  | [], _, _ => none
  | (a, b, c) :: l, x, y => match a == x && b == y with | true => some c | false => lookP l x y
def lookN : List (Nat × Nat × Nat) → Nat → Nat → Nat
  | [], _, _ => 0
  | (a, b, c) :: l, x, y => match a == x && b == y with | true => c | false => lookN l x y
def look1 : List Nat → Nat → Bool
  | [], _ => false
  | a :: l, x => match a == x with | true => true | false => look1 l x
noncomputable def Cf : Cfg := { ty := tyTab, fns := Try.funcs.toList, esc := look2 escTab, live := look3 liveTab, plan := lookP planTab, ok := look1 okTab, wr := look2 wrTab, loc := lookN locTab, gl := glTab }
theorem Cf_ty : tyOk Cf Try.prog = true := by decide +kernel
theorem Cf_fns : fnsOk Cf 0 Try.prog.funcs.toList = true := by decide +kernel
theorem Cf_ok : ProgOk Cf Try.prog := progOk_spec rfl Cf_ty Cf_fns
end Go.Proofs.Ytggmbhmpkkpfeaa.Ev
