/- The tables of this program, and their check. -/
import Derived.Test.YtmblcloikeobdaaEvC
import Derived.Lib.ItoaNum
import Derived.Test.YtmblcloikeobdaaProg
set_option linter.constructorNameAsVariable false
set_option linter.unusedVariables false
set_option linter.unusedSimpArgs false
namespace Go.Proofs.Ytmblcloikeobdaa.Ev
open Go Go.Proofs
def tyTab : List TyI := [
  ⟨.other, 0, 0, []⟩,
  ⟨.func, 1, 8, [.u]⟩,
  ⟨.int .i64, 1, 8, [.i .i64 0]⟩,
  ⟨.int .i64, 1, 8, [.i .i64 0]⟩,
  ⟨.bool, 1, 1, [.k false]⟩,
  ⟨.int .u8, 1, 1, [.i .u8 0]⟩,
  ⟨.int .u8, 1, 1, [.i .u8 0]⟩,
  ⟨.other, 0, 0, []⟩,
  ⟨.other, 0, 0, []⟩,
  ⟨.str, 1, 16, [.s ⟨#[]⟩]⟩,
  ⟨.str, 1, 16, [.s ⟨#[]⟩]⟩,
  ⟨.str, 1, 16, [.s ⟨#[]⟩]⟩,
  ⟨.int .u64, 1, 8, [.i .u64 0]⟩,
  ⟨.other, 0, 0, []⟩,
  ⟨.other, 0, 0, []⟩,
  ⟨.ptr 57, 1, 8, [.np]⟩,
  ⟨.ptr 60, 1, 8, [.np]⟩,
  ⟨.ptr 70, 1, 8, [.np]⟩,
  ⟨.other, 0, 0, []⟩,
  ⟨.other, 0, 0, []⟩,
  ⟨.other, 0, 0, []⟩,
  ⟨.int .i32, 1, 4, [.i .i32 0]⟩,
  ⟨.slice 34, 1, 24, [.nl]⟩,
  ⟨.func, 1, 8, [.u]⟩,
  ⟨.slice 39, 1, 24, [.nl]⟩,
  ⟨.func, 1, 8, [.u]⟩,
  ⟨.slice 24, 1, 24, [.nl]⟩,
  ⟨.func, 1, 8, [.u]⟩,
  ⟨.func, 1, 8, [.u]⟩,
  ⟨.func, 1, 8, [.u]⟩,
  ⟨.func, 1, 8, [.u]⟩,
  ⟨.func, 1, 8, [.u]⟩,
  ⟨.func, 1, 8, [.u]⟩,
  ⟨.func, 1, 8, [.u]⟩,
  ⟨.slice 42, 1, 24, [.nl]⟩,
  ⟨.func, 1, 8, [.u]⟩,
  ⟨.func, 1, 8, [.u]⟩,
  ⟨.func, 1, 8, [.u]⟩,
  ⟨.strct [(9, 0), (3, 1), (3, 2), (4, 3), (3, 4), (3, 5), (3, 6), (3, 7), (3, 8), (3, 9)], 10, 88, [.s ⟨#[]⟩, .i .i64 0, .i .i64 0, .k false, .i .i64 0, .i .i64 0, .i .i64 0, .i .i64 0, .i .i64 0, .i .i64 0]⟩,
  ⟨.strct [(9, 0), (3, 1), (3, 2), (4, 3), (3, 4), (3, 5), (3, 6), (3, 7), (3, 8), (3, 9)], 10, 88, [.s ⟨#[]⟩, .i .i64 0, .i .i64 0, .k false, .i .i64 0, .i .i64 0, .i .i64 0, .i .i64 0, .i .i64 0, .i .i64 0]⟩,
  ⟨.func, 1, 8, [.u]⟩,
  ⟨.func, 1, 8, [.u]⟩,
  ⟨.strct [(9, 0), (3, 1), (3, 2), (4, 3), (3, 4), (3, 5), (3, 6), (3, 7), (3, 8), (3, 9)], 10, 88, [.s ⟨#[]⟩, .i .i64 0, .i .i64 0, .k false, .i .i64 0, .i .i64 0, .i .i64 0, .i .i64 0, .i .i64 0, .i .i64 0]⟩,
  ⟨.func, 1, 8, [.u]⟩,
  ⟨.func, 1, 8, [.u]⟩,
  ⟨.func, 1, 8, [.u]⟩,
  ⟨.func, 1, 8, [.u]⟩,
  ⟨.func, 1, 8, [.u]⟩,
  ⟨.func, 1, 8, [.u]⟩,
  ⟨.func, 1, 8, [.u]⟩,
  ⟨.func, 1, 8, [.u]⟩,
  ⟨.slice 5, 1, 24, [.nl]⟩,
  ⟨.func, 1, 8, [.u]⟩,
  ⟨.func, 1, 8, [.u]⟩,
  ⟨.func, 1, 8, [.u]⟩,
  ⟨.func, 1, 8, [.u]⟩,
  ⟨.other, 0, 0, []⟩,
  ⟨.other, 0, 0, []⟩,
  ⟨.other, 0, 0, []⟩,
  ⟨.other, 0, 0, []⟩,
  ⟨.other, 0, 0, []⟩,
  ⟨.func, 1, 8, [.u]⟩,
  ⟨.int .u32, 1, 4, [.i .u32 0]⟩,
  ⟨.int .u8, 1, 1, [.i .u8 0]⟩,
  ⟨.int .u8, 1, 1, [.i .u8 0]⟩,
  ⟨.func, 1, 8, [.u]⟩,
  ⟨.ptr 5, 1, 8, [.np]⟩,
  ⟨.int .i32, 1, 4, [.i .i32 0]⟩,
  ⟨.int .i32, 1, 4, [.i .i32 0]⟩,
  ⟨.other, 0, 0, []⟩,
  ⟨.other, 0, 0, []⟩,
  ⟨.other, 0, 0, []⟩]
def liveTab : List (Nat × Nat × List Nat) := [
  (4, 5, [0, 1, 5]),
  (5, 3, [0, 3, 4]),
  (6, 3, [0, 3, 4]),
  (7, 3, [3, 7, 8, 9]),
  (8, 4, [0, 1, 5]),
  (9, 4, [0, 1, 5]),
  (10, 2, [0, 1, 5]),
  (11, 2, [0, 1, 5]),
  (12, 2, [0, 1, 5]),
  (13, 5, [0, 1, 5]),
  (14, 3, [1, 5, 6]),
  (14, 7, [1, 5, 6, 7, 8]),
  (15, 3, [0, 3, 4]),
  (16, 3, [5, 12, 13, 14]),
  (18, 4, [0, 3]),
  (21, 4, [0, 3, 5, 6, 7]),
  (26, 2, [0, 1, 7, 8]),
  (34, 1, [0, 2, 3])]
def escTab : List (Nat × Nat) := [(16, 7), (24, 3)]
def planTab : List (Nat × Nat × Plan) := []
def locTab : List (Nat × Nat × Nat) := [(8, 19, 1), (8, 23, 1), (9, 19, 1), (9, 23, 1), (12, 15, 1), (14, 31, 1), (14, 36, 1), (14, 43, 1), (14, 47, 1), (14, 50, 1), (16, 7, 1), (16, 28, 1), (16, 32, 1), (20, 22, 4), (20, 25, 5), (20, 30, 4), (21, 18, 1), (21, 20, 5), (21, 30, 1), (21, 32, 5), (25, 35, 5), (25, 37, 7), (25, 38, 7), (25, 42, 5), (25, 44, 5), (25, 46, 7), (25, 47, 7), (25, 51, 4), (25, 53, 5), (25, 56, 4), (25, 58, 5), (25, 61, 7), (25, 62, 7), (34, 20, 1), (34, 24, 1), (34, 26, 1), (34, 27, 1)]
def wrTab : List (Nat × Nat) := []
def okTab : List Nat := [2, 3, 4, 5, 6, 7, 8, 9, 10, 11, 12, 13, 14, 15, 16, 17, 18, 19, 20, 21, 22, 23, 24, 25, 26, 27, 28, 29, 30, 32, 33, 34]
noncomputable def glTab : List (Nat × Nat × List (List AV)) := []
def look3 : List (Nat × Nat × List Nat) → Nat → Nat → List Nat
  | [], _, _ => []
  | (a, b, c) :: l, x, y => match a == x && b == y with | true => c | false => look3 l x y
def look2 : List (Nat × Nat) → Nat → Nat → Bool
  | [], _, _ => false
  | (a, b) :: l, x, y => match a == x && b == y with | true => true | false => look2 l x y
def lookP : List (Nat × Nat × Plan) → Nat → Nat → Option Plan
  | [], _, _ => none
  | (a, b, c) :: l, x, y => match a == x && b == y with | true => some c | false => lookP l x y
def lookN : List (Nat × Nat × Nat) → Nat → Nat → Nat
  | [], _, _ => 0
  | (a, b, c) :: l, x, y => match a == x && b == y with | true => c | false => lookN l x y
def look1 : List Nat → Nat → Bool
  | [], _ => false
  | a :: l, x => match a == x with | true => true | false => look1 l x
noncomputable def Cf : Cfg := { ty := tyTab, fns := Try.funcs.toList, esc := look2 escTab, live := look3 liveTab, plan := lookP planTab, ok := look1 okTab, wr := look2 wrTab, loc := lookN locTab, gl := glTab }
theorem Cf_ty : tyOk Cf Try.prog = true := by decide +kernel
theorem Cf_fns : fnsOk Cf 0 Try.prog.funcs.toList = true := by decide +kernel
theorem Cf_ok : ProgOk Cf Try.prog := progOk_spec rfl Cf_ty Cf_fns
end Go.Proofs.Ytmblcloikeobdaa.Ev
