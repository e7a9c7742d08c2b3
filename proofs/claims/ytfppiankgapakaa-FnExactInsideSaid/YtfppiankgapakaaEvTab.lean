/- The tables of this program, and their check. -/
import Derived.Test.YtfppiankgapakaaEvC
import Derived.Lib.ItoaNum
import Derived.Test.YtfppiankgapakaaProg
set_option linter.constructorNameAsVariable false
set_option linter.unusedVariables false
set_option linter.unusedSimpArgs false
namespace Go.Proofs.Ytfppiankgapakaa.Ev
open Go Go.Proofs
def tyTab : List TyI := [
  ⟨.other, 0, 0, []⟩,
  ⟨.func, 1, 8, [.u]⟩,
  ⟨.int .i64, 1, 8, [.i .i64 0]⟩,
  ⟨.int .i64, 1, 8, [.i .i64 0]⟩,
  ⟨.bool, 1, 1, [.k false]⟩,
  ⟨.int .u8, 1, 1, [.i .u8 0]⟩,
  ⟨.int .u8, 1, 1, [.i .u8 0]⟩,
  ⟨.other, 0, 0, []⟩,
  ⟨.other, 0, 0, []⟩,
  ⟨.str, 1, 16, [.s ⟨#[]⟩]⟩,
  ⟨.str, 1, 16, [.s ⟨#[]⟩]⟩,
  ⟨.str, 1, 16, [.s ⟨#[]⟩]⟩,
  ⟨.int .u64, 1, 8, [.i .u64 0]⟩,
  ⟨.other, 0, 0, []⟩,
  ⟨.other, 0, 0, []⟩,
  ⟨.ptr 106, 1, 8, [.np]⟩,
  ⟨.ptr 109, 1, 8, [.np]⟩,
  ⟨.ptr 119, 1, 8, [.np]⟩,
  ⟨.other, 0, 0, []⟩,
  ⟨.other, 0, 0, []⟩,
  ⟨.other, 0, 0, []⟩,
  ⟨.int .i32, 1, 4, [.i .i32 0]⟩,
  ⟨.slice 3, 1, 24, [.nl]⟩,
  ⟨.slice 64, 1, 24, [.nl]⟩,
  ⟨.slice 68, 1, 24, [.nl]⟩,
  ⟨.slice 72, 1, 24, [.nl]⟩,
  ⟨.strct [(22, 0), (23, 1), (24, 2), (25, 3), (3, 4), (3, 5)], 6, 112, [.nl, .nl, .nl, .nl, .i .i64 0, .i .i64 0]⟩,
  ⟨.strct [(22, 0), (23, 1), (24, 2), (25, 3), (3, 4), (3, 5)], 6, 112, [.nl, .nl, .nl, .nl, .i .i64 0, .i .i64 0]⟩,
  ⟨.func, 1, 8, [.u]⟩,
  ⟨.func, 1, 8, [.u]⟩,
  ⟨.slice 48, 1, 24, [.nl]⟩,
  ⟨.slice 76, 1, 24, [.nl]⟩,
  ⟨.slice 80, 1, 24, [.nl]⟩,
  ⟨.strct [(22, 0), (30, 1), (31, 2), (32, 3), (3, 4), (3, 5)], 6, 112, [.nl, .nl, .nl, .nl, .i .i64 0, .i .i64 0]⟩,
  ⟨.strct [(22, 0), (30, 1), (31, 2), (32, 3), (3, 4), (3, 5)], 6, 112, [.nl, .nl, .nl, .nl, .i .i64 0, .i .i64 0]⟩,
  ⟨.func, 1, 8, [.u]⟩,
  ⟨.func, 1, 8, [.u]⟩,
  ⟨.func, 1, 8, [.u]⟩,
  ⟨.func, 1, 8, [.u]⟩,
  ⟨.func, 1, 8, [.u]⟩,
  ⟨.func, 1, 8, [.u]⟩,
  ⟨.func, 1, 8, [.u]⟩,
  ⟨.func, 1, 8, [.u]⟩,
  ⟨.func, 1, 8, [.u]⟩,
  ⟨.func, 1, 8, [.u]⟩,
  ⟨.strct [(3, 0), (9, 1), (3, 2), (3, 3)], 4, 40, [.i .i64 0, .s ⟨#[]⟩, .i .i64 0, .i .i64 0]⟩,
  ⟨.strct [(3, 0), (9, 1), (3, 2), (3, 3)], 4, 40, [.i .i64 0, .s ⟨#[]⟩, .i .i64 0, .i .i64 0]⟩,
  ⟨.strct [(4, 0), (46, 1), (3, 5), (3, 6), (3, 7), (3, 8), (3, 9), (3, 10), (3, 11), (3, 12), (3, 13), (3, 14), (3, 15), (22, 16), (22, 17)], 18, 184, [.k false, .i .i64 0, .s ⟨#[]⟩, .i .i64 0, .i .i64 0, .i .i64 0, .i .i64 0, .i .i64 0, .i .i64 0, .i .i64 0, .i .i64 0, .i .i64 0, .i .i64 0, .i .i64 0, .i .i64 0, .i .i64 0, .nl, .nl]⟩,
  ⟨.strct [(4, 0), (46, 1), (3, 5), (3, 6), (3, 7), (3, 8), (3, 9), (3, 10), (3, 11), (3, 12), (3, 13), (3, 14), (3, 15), (22, 16), (22, 17)], 18, 184, [.k false, .i .i64 0, .s ⟨#[]⟩, .i .i64 0, .i .i64 0, .i .i64 0, .i .i64 0, .i .i64 0, .i .i64 0, .i .i64 0, .i .i64 0, .i .i64 0, .i .i64 0, .i .i64 0, .i .i64 0, .i .i64 0, .nl, .nl]⟩,
  ⟨.func, 1, 8, [.u]⟩,
  ⟨.func, 1, 8, [.u]⟩,
  ⟨.func, 1, 8, [.u]⟩,
  ⟨.func, 1, 8, [.u]⟩,
  ⟨.func, 1, 8, [.u]⟩,
  ⟨.func, 1, 8, [.u]⟩,
  ⟨.func, 1, 8, [.u]⟩,
  ⟨.func, 1, 8, [.u]⟩,
  ⟨.func, 1, 8, [.u]⟩,
  ⟨.func, 1, 8, [.u]⟩,
  ⟨.func, 1, 8, [.u]⟩,
  ⟨.func, 1, 8, [.u]⟩,
  ⟨.func, 1, 8, [.u]⟩,
  ⟨.strct [(3, 0), (9, 1), (3, 2), (3, 3)], 4, 40, [.i .i64 0, .s ⟨#[]⟩, .i .i64 0, .i .i64 0]⟩,
  ⟨.strct [(4, 0), (62, 1), (3, 5), (3, 6), (3, 7), (3, 8), (3, 9), (3, 10), (3, 11), (3, 12), (3, 13), (3, 14), (3, 15), (22, 16), (22, 17)], 18, 184, [.k false, .i .i64 0, .s ⟨#[]⟩, .i .i64 0, .i .i64 0, .i .i64 0, .i .i64 0, .i .i64 0, .i .i64 0, .i .i64 0, .i .i64 0, .i .i64 0, .i .i64 0, .i .i64 0, .i .i64 0, .i .i64 0, .nl, .nl]⟩,
  ⟨.strct [(4, 0), (62, 1), (3, 5), (3, 6), (3, 7), (3, 8), (3, 9), (3, 10), (3, 11), (3, 12), (3, 13), (3, 14), (3, 15), (22, 16), (22, 17)], 18, 184, [.k false, .i .i64 0, .s ⟨#[]⟩, .i .i64 0, .i .i64 0, .i .i64 0, .i .i64 0, .i .i64 0, .i .i64 0, .i .i64 0, .i .i64 0, .i .i64 0, .i .i64 0, .i .i64 0, .i .i64 0, .i .i64 0, .nl, .nl]⟩,
  ⟨.func, 1, 8, [.u]⟩,
  ⟨.slice 62, 1, 24, [.nl]⟩,
  ⟨.strct [(66, 0)], 1, 24, [.nl]⟩,
  ⟨.strct [(66, 0)], 1, 24, [.nl]⟩,
  ⟨.func, 1, 8, [.u]⟩,
  ⟨.slice 101, 1, 24, [.nl]⟩,
  ⟨.strct [(3, 0), (3, 1), (3, 2), (3, 3), (62, 4), (3, 8), (3, 9), (3, 10), (3, 11), (70, 12)], 13, 128, [.i .i64 0, .i .i64 0, .i .i64 0, .i .i64 0, .i .i64 0, .s ⟨#[]⟩, .i .i64 0, .i .i64 0, .i .i64 0, .i .i64 0, .i .i64 0, .i .i64 0, .nl]⟩,
  ⟨.strct [(3, 0), (3, 1), (3, 2), (3, 3), (62, 4), (3, 8), (3, 9), (3, 10), (3, 11), (70, 12)], 13, 128, [.i .i64 0, .i .i64 0, .i .i64 0, .i .i64 0, .i .i64 0, .s ⟨#[]⟩, .i .i64 0, .i .i64 0, .i .i64 0, .i .i64 0, .i .i64 0, .i .i64 0, .nl]⟩,
  ⟨.func, 1, 8, [.u]⟩,
  ⟨.slice 46, 1, 24, [.nl]⟩,
  ⟨.strct [(74, 0)], 1, 24, [.nl]⟩,
  ⟨.strct [(74, 0)], 1, 24, [.nl]⟩,
  ⟨.func, 1, 8, [.u]⟩,
  ⟨.slice 99, 1, 24, [.nl]⟩,
  ⟨.strct [(3, 0), (3, 1), (3, 2), (3, 3), (46, 4), (3, 8), (3, 9), (3, 10), (3, 11), (78, 12)], 13, 128, [.i .i64 0, .i .i64 0, .i .i64 0, .i .i64 0, .i .i64 0, .s ⟨#[]⟩, .i .i64 0, .i .i64 0, .i .i64 0, .i .i64 0, .i .i64 0, .i .i64 0, .nl]⟩,
  ⟨.strct [(3, 0), (3, 1), (3, 2), (3, 3), (46, 4), (3, 8), (3, 9), (3, 10), (3, 11), (78, 12)], 13, 128, [.i .i64 0, .i .i64 0, .i .i64 0, .i .i64 0, .i .i64 0, .s ⟨#[]⟩, .i .i64 0, .i .i64 0, .i .i64 0, .i .i64 0, .i .i64 0, .i .i64 0, .nl]⟩,
  ⟨.func, 1, 8, [.u]⟩,
  ⟨.func, 1, 8, [.u]⟩,
  ⟨.func, 1, 8, [.u]⟩,
  ⟨.func, 1, 8, [.u]⟩,
  ⟨.func, 1, 8, [.u]⟩,
  ⟨.func, 1, 8, [.u]⟩,
  ⟨.func, 1, 8, [.u]⟩,
  ⟨.func, 1, 8, [.u]⟩,
  ⟨.func, 1, 8, [.u]⟩,
  ⟨.func, 1, 8, [.u]⟩,
  ⟨.func, 1, 8, [.u]⟩,
  ⟨.func, 1, 8, [.u]⟩,
  ⟨.func, 1, 8, [.u]⟩,
  ⟨.func, 1, 8, [.u]⟩,
  ⟨.func, 1, 8, [.u]⟩,
  ⟨.func, 1, 8, [.u]⟩,
  ⟨.slice 5, 1, 24, [.nl]⟩,
  ⟨.strct [(9, 0), (3, 1), (3, 2), (4, 3), (3, 4), (3, 5), (3, 6), (3, 7), (3, 8), (3, 9)], 10, 88, [.s ⟨#[]⟩, .i .i64 0, .i .i64 0, .k false, .i .i64 0, .i .i64 0, .i .i64 0, .i .i64 0, .i .i64 0, .i .i64 0]⟩,
  ⟨.strct [(9, 0), (3, 1), (3, 2), (4, 3), (3, 4), (3, 5), (3, 6), (3, 7), (3, 8), (3, 9)], 10, 88, [.s ⟨#[]⟩, .i .i64 0, .i .i64 0, .k false, .i .i64 0, .i .i64 0, .i .i64 0, .i .i64 0, .i .i64 0, .i .i64 0]⟩,
  ⟨.func, 1, 8, [.u]⟩,
  ⟨.strct [(9, 0), (3, 1), (3, 2), (4, 3), (3, 4), (3, 5), (3, 6), (3, 7), (3, 8), (3, 9)], 10, 88, [.s ⟨#[]⟩, .i .i64 0, .i .i64 0, .k false, .i .i64 0, .i .i64 0, .i .i64 0, .i .i64 0, .i .i64 0, .i .i64 0]⟩,
  ⟨.func, 1, 8, [.u]⟩,
  ⟨.func, 1, 8, [.u]⟩,
  ⟨.func, 1, 8, [.u]⟩,
  ⟨.other, 0, 0, []⟩,
  ⟨.other, 0, 0, []⟩,
  ⟨.other, 0, 0, []⟩,
  ⟨.other, 0, 0, []⟩,
  ⟨.other, 0, 0, []⟩,
  ⟨.func, 1, 8, [.u]⟩,
  ⟨.int .u32, 1, 4, [.i .u32 0]⟩,
  ⟨.int .u8, 1, 1, [.i .u8 0]⟩,
  ⟨.int .u8, 1, 1, [.i .u8 0]⟩,
  ⟨.func, 1, 8, [.u]⟩,
  ⟨.ptr 5, 1, 8, [.np]⟩,
  ⟨.int .i32, 1, 4, [.i .i32 0]⟩,
  ⟨.int .i32, 1, 4, [.i .i32 0]⟩,
  ⟨.other, 0, 0, []⟩,
  ⟨.other, 0, 0, []⟩,
  ⟨.other, 0, 0, []⟩]
def liveTab : List (Nat × Nat × List Nat) := [
  (5, 3, [1, 3, 4]),
  (7, 3, [3, 9, 10, 11]),
  (7, 6, [3, 5, 9, 10, 11, 16, 17]),
  (8, 4, [0, 1, 5]),
  (11, 2, [0, 1, 5]),
  (12, 2, [0, 1, 5]),
  (14, 5, [0, 1, 5]),
  (15, 5, [0, 1, 5]),
  (16, 5, [0, 1, 5]),
  (19, 3, [0, 3, 4]),
  (20, 3, [0, 3, 4]),
  (21, 3, [0, 3, 4]),
  (22, 3, [0, 3, 4]),
  (24, 4, [0, 1, 5]),
  (25, 4, [0, 1, 5]),
  (26, 4, [0, 1, 5]),
  (27, 2, [0, 1, 5]),
  (28, 2, [0, 1, 5]),
  (29, 2, [0, 1, 5]),
  (40, 4, [0, 3]),
  (41, 2, [0, 1, 5]),
  (42, 2, [0, 1, 5]),
  (44, 5, [0, 1, 5]),
  (45, 5, [0, 1, 5]),
  (47, 3, [0, 3, 4]),
  (48, 3, [0, 3, 4]),
  (50, 4, [0, 1, 5]),
  (51, 4, [0, 1, 5])]
def escTab : List (Nat × Nat) := []
def planTab : List (Nat × Nat × Plan) := []
def locTab : List (Nat × Nat × Nat) := [(3, 1, 3), (3, 5, 7), (8, 19, 1), (8, 23, 1), (24, 19, 1), (24, 23, 1), (25, 19, 1), (25, 23, 1), (26, 19, 1), (26, 23, 1), (50, 19, 1), (50, 23, 1), (51, 19, 1), (51, 23, 1)]
def wrTab : List (Nat × Nat) := []
def okTab : List Nat := [2, 3, 4, 5, 6, 7, 8, 9, 10, 11, 12, 13, 14, 15, 16, 17, 18, 19, 20, 21, 22, 23, 24, 25, 26, 27, 28, 29, 30, 31, 32, 33, 34, 35, 36, 37, 38, 39, 40, 41, 42, 43, 44, 45, 46, 47, 48, 49, 50, 51, 52, 53, 54]
noncomputable def glTab : List (Nat × Nat × List (List AV)) := []
def look3 : List (Nat × Nat × List Nat) → Nat → Nat → List Nat
  | [], _, _ => []
  | (a, b, c) :: l, x, y => match a == x && b == y with | true => c | false => look3 l x y
def look2 : List (Nat × Nat) → Nat → Nat → Bool
  | [], _, _ => false
  | (a, b) :: l, x, y => match a == x && b == y with | true => true | false => look2 l x y
def lookP : List (Nat × Nat × Plan) → Nat → Nat → Option Plan
  | [], _, _ => none
  | (a, b, c) :: l, x, y => match a == x && b == y with | true => some c | false => lookP l x y
def lookN : List (Nat × Nat × Nat) → Nat → Nat → Nat
  | [], _, _ => 0
  | (a, b, c) :: l, x, y => match a == x && b == y with | true => c | false => lookN l x y
def look1 : List Nat → Nat → Bool
  | [], _ => false
  | a :: l, x => match a == x with | true => true | false => look1 l x
noncomputable def Cf : Cfg := { ty := tyTab, fns := Try.funcs.toList, esc := look2 escTab, live := look3 liveTab, plan := lookP planTab, ok := look1 okTab, wr := look2 wrTab, loc := lookN locTab, gl := glTab }
theorem Cf_ty : tyOk Cf Try.prog = true := by decide +kernel
theorem Cf_fns : fnsOk Cf 0 Try.prog.funcs.toList = true := by decide +kernel
theorem Cf_ok : ProgOk Cf Try.prog := progOk_spec rfl Cf_ty Cf_fns
end Go.Proofs.Ytfppiankgapakaa.Ev
