/- The tables of this program, and their check. -/
import Derived.Test.YtpgamddjpclbaaaDoorEvC
import Derived.Lib.ItoaNum
import Derived.Test.YtpgamddjpclbaaaDoorProg
set_option linter.constructorNameAsVariable false
set_option linter.unusedVariables false
set_option linter.unusedSimpArgs false
namespace Go.Proofs.YtpgamddjpclbaaaDoor.Ev
open Go Go.Proofs
def tyTab : List TyI := [
  ⟨.other, 0, 0, []⟩,
  ⟨.func, 1, 8, [.u]⟩,
  ⟨.int .i64, 1, 8, [.i .i64 0]⟩,
  ⟨.int .i64, 1, 8, [.i .i64 0]⟩,
  ⟨.bool, 1, 1, [.k false]⟩,
  ⟨.int .u8, 1, 1, [.i .u8 0]⟩,
  ⟨.int .u8, 1, 1, [.i .u8 0]⟩,
  ⟨.other, 0, 0, []⟩,
  ⟨.other, 0, 0, []⟩,
  ⟨.str, 1, 16, [.s ⟨#[]⟩]⟩,
  ⟨.str, 1, 16, [.s ⟨#[]⟩]⟩,
  ⟨.str, 1, 16, [.s ⟨#[]⟩]⟩,
  ⟨.int .u64, 1, 8, [.i .u64 0]⟩,
  ⟨.other, 0, 0, []⟩,
  ⟨.other, 0, 0, []⟩,
  ⟨.ptr 99, 1, 8, [.np]⟩,
  ⟨.ptr 102, 1, 8, [.np]⟩,
  ⟨.ptr 111, 1, 8, [.np]⟩,
  ⟨.other, 0, 0, []⟩,
  ⟨.other, 0, 0, []⟩,
  ⟨.other, 0, 0, []⟩,
  ⟨.int .i32, 1, 4, [.i .i32 0]⟩,
  ⟨.slice 5, 1, 24, [.nl]⟩,
  ⟨.func, 1, 8, [.u]⟩,
  ⟨.slice 9, 1, 24, [.nl]⟩,
  ⟨.slice 40, 1, 24, [.nl]⟩,
  ⟨.slice 3, 1, 24, [.nl]⟩,
  ⟨.strct [(24, 0), (25, 1), (3, 2), (26, 3)], 4, 80, [.nl, .nl, .i .i64 0, .nl]⟩,
  ⟨.strct [(24, 0), (25, 1), (3, 2), (26, 3)], 4, 80, [.nl, .nl, .i .i64 0, .nl]⟩,
  ⟨.func, 1, 8, [.u]⟩,
  ⟨.slice 42, 1, 24, [.nl]⟩,
  ⟨.func, 1, 8, [.u]⟩,
  ⟨.func, 1, 8, [.u]⟩,
  ⟨.slice 45, 1, 24, [.nl]⟩,
  ⟨.func, 1, 8, [.u]⟩,
  ⟨.func, 1, 8, [.u]⟩,
  ⟨.func, 1, 8, [.u]⟩,
  ⟨.other, 0, 0, []⟩,
  ⟨.func, 1, 8, [.u]⟩,
  ⟨.strct [(3, 0), (3, 1)], 2, 16, [.i .i64 0, .i .i64 0]⟩,
  ⟨.strct [(3, 0), (3, 1)], 2, 16, [.i .i64 0, .i .i64 0]⟩,
  ⟨.strct [(9, 0), (3, 1), (3, 2)], 3, 32, [.s ⟨#[]⟩, .i .i64 0, .i .i64 0]⟩,
  ⟨.strct [(9, 0), (3, 1), (3, 2)], 3, 32, [.s ⟨#[]⟩, .i .i64 0, .i .i64 0]⟩,
  ⟨.slice 57, 1, 24, [.nl]⟩,
  ⟨.strct [(43, 0)], 1, 24, [.nl]⟩,
  ⟨.strct [(43, 0)], 1, 24, [.nl]⟩,
  ⟨.func, 1, 8, [.u]⟩,
  ⟨.func, 1, 8, [.u]⟩,
  ⟨.ptr 64, 1, 8, [.np]⟩,
  ⟨.func, 1, 8, [.u]⟩,
  ⟨.other, 0, 0, []⟩,
  ⟨.func, 1, 8, [.u]⟩,
  ⟨.func, 1, 8, [.u]⟩,
  ⟨.func, 1, 8, [.u]⟩,
  ⟨.other, 0, 0, []⟩,
  ⟨.func, 1, 8, [.u]⟩,
  ⟨.strct [(3, 0), (9, 1), (3, 2), (3, 3)], 4, 40, [.i .i64 0, .s ⟨#[]⟩, .i .i64 0, .i .i64 0]⟩,
  ⟨.strct [(3, 0), (9, 1), (3, 2), (3, 3)], 4, 40, [.i .i64 0, .s ⟨#[]⟩, .i .i64 0, .i .i64 0]⟩,
  ⟨.func, 1, 8, [.u]⟩,
  ⟨.func, 1, 8, [.u]⟩,
  ⟨.func, 1, 8, [.u]⟩,
  ⟨.func, 1, 8, [.u]⟩,
  ⟨.func, 1, 8, [.u]⟩,
  ⟨.strct [(22, 0), (3, 1), (3, 2)], 3, 40, [.nl, .i .i64 0, .i .i64 0]⟩,
  ⟨.strct [(22, 0), (3, 1), (3, 2)], 3, 40, [.nl, .i .i64 0, .i .i64 0]⟩,
  ⟨.other, 0, 0, []⟩,
  ⟨.func, 1, 8, [.u]⟩,
  ⟨.func, 1, 8, [.u]⟩,
  ⟨.func, 1, 8, [.u]⟩,
  ⟨.other, 0, 0, []⟩,
  ⟨.func, 1, 8, [.u]⟩,
  ⟨.func, 1, 8, [.u]⟩,
  ⟨.func, 1, 8, [.u]⟩,
  ⟨.func, 1, 8, [.u]⟩,
  ⟨.func, 1, 8, [.u]⟩,
  ⟨.func, 1, 8, [.u]⟩,
  ⟨.func, 1, 8, [.u]⟩,
  ⟨.other, 0, 0, []⟩,
  ⟨.func, 1, 8, [.u]⟩,
  ⟨.func, 1, 8, [.u]⟩,
  ⟨.int .u64, 1, 8, [.i .u64 0]⟩,
  ⟨.func, 1, 8, [.u]⟩,
  ⟨.func, 1, 8, [.u]⟩,
  ⟨.func, 1, 8, [.u]⟩,
  ⟨.func, 1, 8, [.u]⟩,
  ⟨.func, 1, 8, [.u]⟩,
  ⟨.other, 0, 0, []⟩,
  ⟨.func, 1, 8, [.u]⟩,
  ⟨.func, 1, 8, [.u]⟩,
  ⟨.func, 1, 8, [.u]⟩,
  ⟨.int .u32, 1, 4, [.i .u32 0]⟩,
  ⟨.other, 0, 0, []⟩,
  ⟨.func, 1, 8, [.u]⟩,
  ⟨.arr 256 5, 256, 256, [.i .u8 0, .i .u8 0, .i .u8 0, .i .u8 0, .i .u8 0, .i .u8 0, .i .u8 0, .i .u8 0, .i .u8 0, .i .u8 0, .i .u8 0, .i .u8 0, .i .u8 0, .i .u8 0, .i .u8 0, .i .u8 0, .i .u8 0, .i .u8 0, .i .u8 0, .i .u8 0, .i .u8 0, .i .u8 0, .i .u8 0, .i .u8 0, .i .u8 0, .i .u8 0, .i .u8 0, .i .u8 0, .i .u8 0, .i .u8 0, .i .u8 0, .i .u8 0, .i .u8 0, .i .u8 0, .i .u8 0, .i .u8 0, .i .u8 0, .i .u8 0, .i .u8 0, .i .u8 0, .i .u8 0, .i .u8 0, .i .u8 0, .i .u8 0, .i .u8 0, .i .u8 0, .i .u8 0, .i .u8 0, .i .u8 0, .i .u8 0, .i .u8 0, .i .u8 0, .i .u8 0, .i .u8 0, .i .u8 0, .i .u8 0, .i .u8 0, .i .u8 0, .i .u8 0, .i .u8 0, .i .u8 0, .i .u8 0, .i .u8 0, .i .u8 0, .i .u8 0, .i .u8 0, .i .u8 0, .i .u8 0, .i .u8 0, .i .u8 0, .i .u8 0, .i .u8 0, .i .u8 0, .i .u8 0, .i .u8 0, .i .u8 0, .i .u8 0, .i .u8 0, .i .u8 0, .i .u8 0, .i .u8 0, .i .u8 0, .i .u8 0, .i .u8 0, .i .u8 0, .i .u8 0, .i .u8 0, .i .u8 0, .i .u8 0, .i .u8 0, .i .u8 0, .i .u8 0, .i .u8 0, .i .u8 0, .i .u8 0, .i .u8 0, .i .u8 0, .i .u8 0, .i .u8 0, .i .u8 0, .i .u8 0, .i .u8 0, .i .u8 0, .i .u8 0, .i .u8 0, .i .u8 0, .i .u8 0, .i .u8 0, .i .u8 0, .i .u8 0, .i .u8 0, .i .u8 0, .i .u8 0, .i .u8 0, .i .u8 0, .i .u8 0, .i .u8 0, .i .u8 0, .i .u8 0, .i .u8 0, .i .u8 0, .i .u8 0, .i .u8 0, .i .u8 0, .i .u8 0, .i .u8 0, .i .u8 0, .i .u8 0, .i .u8 0, .i .u8 0, .i .u8 0, .i .u8 0, .i .u8 0, .i .u8 0, .i .u8 0, .i .u8 0, .i .u8 0, .i .u8 0, .i .u8 0, .i .u8 0, .i .u8 0, .i .u8 0, .i .u8 0, .i .u8 0, .i .u8 0, .i .u8 0, .i .u8 0, .i .u8 0, .i .u8 0, .i .u8 0, .i .u8 0, .i .u8 0, .i .u8 0, .i .u8 0, .i .u8 0, .i .u8 0, .i .u8 0, .i .u8 0, .i .u8 0, .i .u8 0, .i .u8 0, .i .u8 0, .i .u8 0, .i .u8 0, .i .u8 0, .i .u8 0, .i .u8 0, .i .u8 0, .i .u8 0, .i .u8 0, .i .u8 0, .i .u8 0, .i .u8 0, .i .u8 0, .i .u8 0, .i .u8 0, .i .u8 0, .i .u8 0, .i .u8 0, .i .u8 0, .i .u8 0, .i .u8 0, .i .u8 0, .i .u8 0, .i .u8 0, .i .u8 0, .i .u8 0, .i .u8 0, .i .u8 0, .i .u8 0, .i .u8 0, .i .u8 0, .i .u8 0, .i .u8 0, .i .u8 0, .i .u8 0, .i .u8 0, .i .u8 0, .i .u8 0, .i .u8 0, .i .u8 0, .i .u8 0, .i .u8 0, .i .u8 0, .i .u8 0, .i .u8 0, .i .u8 0, .i .u8 0, .i .u8 0, .i .u8 0, .i .u8 0, .i .u8 0, .i .u8 0, .i .u8 0, .i .u8 0, .i .u8 0, .i .u8 0, .i .u8 0, .i .u8 0, .i .u8 0, .i .u8 0, .i .u8 0, .i .u8 0, .i .u8 0, .i .u8 0, .i .u8 0, .i .u8 0, .i .u8 0, .i .u8 0, .i .u8 0, .i .u8 0, .i .u8 0, .i .u8 0, .i .u8 0, .i .u8 0, .i .u8 0, .i .u8 0, .i .u8 0, .i .u8 0, .i .u8 0, .i .u8 0, .i .u8 0, .i .u8 0, .i .u8 0, .i .u8 0, .i .u8 0, .i .u8 0, .i .u8 0, .i .u8 0, .i .u8 0, .i .u8 0, .i .u8 0, .i .u8 0, .i .u8 0, .i .u8 0, .i .u8 0]⟩,
  ⟨.other, 0, 0, []⟩,
  ⟨.other, 0, 0, []⟩,
  ⟨.other, 0, 0, []⟩,
  ⟨.func, 1, 8, [.u]⟩,
  ⟨.other, 0, 0, []⟩,
  ⟨.other, 0, 0, []⟩,
  ⟨.other, 0, 0, []⟩,
  ⟨.other, 0, 0, []⟩,
  ⟨.other, 0, 0, []⟩,
  ⟨.func, 1, 8, [.u]⟩,
  ⟨.int .u8, 1, 1, [.i .u8 0]⟩,
  ⟨.int .u8, 1, 1, [.i .u8 0]⟩,
  ⟨.func, 1, 8, [.u]⟩,
  ⟨.ptr 5, 1, 8, [.np]⟩,
  ⟨.int .i32, 1, 4, [.i .i32 0]⟩,
  ⟨.int .i32, 1, 4, [.i .i32 0]⟩,
  ⟨.other, 0, 0, []⟩,
  ⟨.other, 0, 0, []⟩,
  ⟨.other, 0, 0, []⟩]
def liveTab : List (Nat × Nat × List Nat) := [
  (3, 14, [3, 4, 5, 6, 7, 8, 9]),
  (3, 18, [3, 4, 5, 6, 7, 8, 9, 10, 12]),
  (3, 24, [3, 4, 5, 6, 7, 8, 13]),
  (6, 5, [1, 3, 14, 15, 16]),
  (7, 5, [1, 3, 16, 17, 18]),
  (7, 9, [1, 3, 16, 17, 18, 32, 33, 34]),
  (9, 2, [1, 6, 7, 8]),
  (10, 2, [1, 3]),
  (12, 8, [4, 5, 6, 7]),
  (13, 2, [0, 3]),
  (13, 7, [0, 3, 4]),
  (14, 3, [0, 2, 3, 4]),
  (14, 7, [0, 2, 3, 5]),
  (14, 18, [0, 2, 3]),
  (15, 3, [0, 3, 4]),
  (16, 6, [4, 5, 20, 21, 22]),
  (17, 3, [1, 4, 5, 15, 16, 17]),
  (17, 7, [1, 4, 5, 7, 15, 16, 17, 31, 32, 33]),
  (17, 16, [4, 5, 58, 59]),
  (20, 4, [0, 3, 4, 5]),
  (24, 3, [0, 5, 6]),
  (24, 7, [0, 5, 6, 7, 8]),
  (25, 3, [0, 3, 4]),
  (25, 7, [0, 3]),
  (27, 3, [3, 8, 9, 10]),
  (30, 2, [0, 2, 7]),
  (31, 2, [0, 3]),
  (32, 3, [0, 4, 5]),
  (33, 2, [0, 3]),
  (41, 2, [0, 3]),
  (42, 5, [0, 4, 11, 12]),
  (43, 2, [0, 6, 7]),
  (46, 5, [0, 3, 4]),
  (49, 11, [0, 1, 2, 3, 9, 10]),
  (52, 4, [0, 5, 6, 7]),
  (53, 6, [0, 1, 6, 7]),
  (54, 6, [0, 1, 5]),
  (56, 15, [0, 1, 5, 6, 7, 8, 9, 10]),
  (57, 2, [2, 4]),
  (63, 5, [0, 1, 5, 6, 7, 8, 9]),
  (63, 11, [0, 1, 5, 6, 7, 8, 10]),
  (66, 3, [0, 4, 5]),
  (66, 8, [4, 6, 7, 8])]
def escTab : List (Nat × Nat) := [(15, 31)]
def planTab : List (Nat × Nat × Plan) := [(14, 9, .take 0 (.take 1 (.take 2 (.take 3 (.take 4 (.take 5 (.take 7 (.take 6 (.take 8 (.take 9 (.take 10 (.take 11 (.take 12 (.take 13 (.done))))))))))))))),
  (16, 1, .alt 0 (.take 1 (.take 2 (.take 3 (.done)))) (.alt 1 (.take 0 (.take 2 (.take 3 (.done)))) (.no))),
  (48, 8, .take 0 (.take 1 (.take 2 (.take 3 (.take 9 (.take 10 (.take 11 (.take 4 (.take 5 (.take 6 (.take 7 (.take 8 (.take 12 (.take 13 (.done))))))))))))))),
  (48, 11, .take 0 (.take 1 (.take 2 (.take 3 (.take 4 (.take 5 (.take 7 (.take 15 (.take 16 (.take 17 (.take 18 (.alt 6 (.take 8 (.take 9 (.take 10 (.take 11 (.take 12 (.take 13 (.take 14 (.take 19 (.take 20 (.done)))))))))) (.alt 8 (.take 6 (.take 9 (.take 10 (.take 11 (.take 12 (.take 13 (.take 14 (.take 19 (.take 20 (.done)))))))))) (.no))))))))))))))]
def locTab : List (Nat × Nat × Nat) := [(3, 3, 5), (3, 53, 5), (3, 55, 5), (3, 59, 1), (3, 61, 1), (3, 79, 1), (3, 83, 1), (3, 132, 1), (3, 141, 1), (3, 144, 5), (10, 11, 3), (10, 15, 1), (10, 17, 3), (10, 24, 3), (10, 28, 1), (14, 18, 5), (14, 24, 5), (14, 31, 5), (14, 34, 5), (14, 43, 5), (14, 48, 5), (14, 56, 5), (14, 59, 5), (14, 67, 5), (14, 76, 5), (17, 11, 13), (17, 39, 9), (17, 42, 9), (17, 44, 1), (17, 50, 1), (35, 15, 1), (35, 20, 1), (35, 27, 1), (35, 31, 1), (35, 38, 1), (35, 42, 1), (35, 44, 1)]
def wrTab : List (Nat × Nat) := [(14, 21), (14, 37), (14, 39), (14, 52), (14, 63), (14, 80), (17, 47), (48, 33), (48, 55)]
def okTab : List Nat := [2, 3, 4, 5, 6, 7, 8, 9, 10, 11, 12, 13, 14, 15, 16, 17, 18, 19, 20, 21, 22, 23, 24, 25, 26, 27, 28, 29, 30, 31, 32, 33, 34, 35, 36, 37, 38, 39, 40, 41, 42, 43, 44, 45, 46, 47, 48, 49, 50, 51, 52, 53, 54, 55, 56, 57, 58, 60, 62, 63, 64, 66, 87]
noncomputable def glTab : List (Nat × Nat × List (List AV)) := []
def look3 : List (Nat × Nat × List Nat) → Nat → Nat → List Nat
  | [], _, _ => []
  | (a, b, c) :: l, x, y => match a == x && b == y with | true => c | false => look3 l x y
def look2 : List (Nat × Nat) → Nat → Nat → Bool
  | [], _, _ => false
  | (a, b) :: l, x, y => match a == x && b == y with | true => true | false => look2 l x y
def lookP : List (Nat × Nat × Plan) → Nat → Nat → Option Plan
  | [], _, _ => none
  | (a, b, c) :: l, x, y => match a == x && b == y with | true => some c | false => lookP l x y
def lookN : List (Nat × Nat × Nat) → Nat → Nat → Nat
  | [], _, _ => 0
  | (a, b, c) :: l, x, y => match a == x && b == y with | true => c | false => lookN l x y
def look1 : List Nat → Nat → Bool
  | [], _ => false
  | a :: l, x => match a == x with | true => true | false => look1 l x
noncomputable def Cf : Cfg := { ty := tyTab, fns := Tryd.funcs.toList, esc := look2 escTab, live := look3 liveTab, plan := lookP planTab, ok := look1 okTab, wr := look2 wrTab, loc := lookN locTab, gl := glTab }
theorem Cf_ty : tyOk Cf Tryd.prog = true := by decide +kernel
theorem Cf_fns : fnsOk Cf 0 Tryd.prog.funcs.toList = true := by decide +kernel
theorem Cf_ok : ProgOk Cf Tryd.prog := progOk_spec rfl Cf_ty Cf_fns
end Go.Proofs.YtpgamddjpclbaaaDoor.Ev
