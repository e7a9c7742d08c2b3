/- The tables of this program, and their check. -/
import Derived.Test.YteniekdaincioaaDoorEvC
import Derived.Lib.ItoaNum
import Derived.Test.YteniekdaincioaaDoorProg
set_option linter.constructorNameAsVariable false
set_option linter.unusedVariables false
set_option linter.unusedSimpArgs false
namespace Go.Proofs.YteniekdaincioaaDoor.Ev
open Go Go.Proofs
def tyTab : List TyI := [
  ⟨.other, 0, 0, []⟩,
  ⟨.func, 1, 8, [.u]⟩,
  ⟨.int .i64, 1, 8, [.i .i64 0]⟩,
  ⟨.int .i64, 1, 8, [.i .i64 0]⟩,
  ⟨.bool, 1, 1, [.k false]⟩,
  ⟨.int .u8, 1, 1, [.i .u8 0]⟩,
  ⟨.int .u8, 1, 1, [.i .u8 0]⟩,
  ⟨.other, 0, 0, []⟩,
  ⟨.other, 0, 0, []⟩,
  ⟨.str, 1, 16, [.s ⟨#[]⟩]⟩,
  ⟨.str, 1, 16, [.s ⟨#[]⟩]⟩,
  ⟨.str, 1, 16, [.s ⟨#[]⟩]⟩,
  ⟨.int .u64, 1, 8, [.i .u64 0]⟩,
  ⟨.other, 0, 0, []⟩,
  ⟨.other, 0, 0, []⟩,
  ⟨.ptr 86, 1, 8, [.np]⟩,
  ⟨.ptr 89, 1, 8, [.np]⟩,
  ⟨.ptr 98, 1, 8, [.np]⟩,
  ⟨.other, 0, 0, []⟩,
  ⟨.other, 0, 0, []⟩,
  ⟨.other, 0, 0, []⟩,
  ⟨.int .i32, 1, 4, [.i .i32 0]⟩,
  ⟨.slice 5, 1, 24, [.nl]⟩,
  ⟨.func, 1, 8, [.u]⟩,
  ⟨.slice 9, 1, 24, [.nl]⟩,
  ⟨.slice 33, 1, 24, [.nl]⟩,
  ⟨.slice 3, 1, 24, [.nl]⟩,
  ⟨.strct [(24, 0), (25, 1), (3, 2), (26, 3)], 4, 80, [.nl, .nl, .i .i64 0, .nl]⟩,
  ⟨.strct [(24, 0), (25, 1), (3, 2), (26, 3)], 4, 80, [.nl, .nl, .i .i64 0, .nl]⟩,
  ⟨.func, 1, 8, [.u]⟩,
  ⟨.func, 1, 8, [.u]⟩,
  ⟨.func, 1, 8, [.u]⟩,
  ⟨.strct [(3, 0), (3, 1)], 2, 16, [.i .i64 0, .i .i64 0]⟩,
  ⟨.strct [(3, 0), (3, 1)], 2, 16, [.i .i64 0, .i .i64 0]⟩,
  ⟨.slice 40, 1, 24, [.nl]⟩,
  ⟨.other, 0, 0, []⟩,
  ⟨.func, 1, 8, [.u]⟩,
  ⟨.func, 1, 8, [.u]⟩,
  ⟨.func, 1, 8, [.u]⟩,
  ⟨.strct [(9, 0), (3, 1), (3, 2)], 3, 32, [.s ⟨#[]⟩, .i .i64 0, .i .i64 0]⟩,
  ⟨.strct [(9, 0), (3, 1), (3, 2)], 3, 32, [.s ⟨#[]⟩, .i .i64 0, .i .i64 0]⟩,
  ⟨.func, 1, 8, [.u]⟩,
  ⟨.ptr 53, 1, 8, [.np]⟩,
  ⟨.func, 1, 8, [.u]⟩,
  ⟨.func, 1, 8, [.u]⟩,
  ⟨.func, 1, 8, [.u]⟩,
  ⟨.other, 0, 0, []⟩,
  ⟨.func, 1, 8, [.u]⟩,
  ⟨.func, 1, 8, [.u]⟩,
  ⟨.func, 1, 8, [.u]⟩,
  ⟨.func, 1, 8, [.u]⟩,
  ⟨.func, 1, 8, [.u]⟩,
  ⟨.strct [(22, 0), (3, 1), (3, 2)], 3, 40, [.nl, .i .i64 0, .i .i64 0]⟩,
  ⟨.strct [(22, 0), (3, 1), (3, 2)], 3, 40, [.nl, .i .i64 0, .i .i64 0]⟩,
  ⟨.func, 1, 8, [.u]⟩,
  ⟨.func, 1, 8, [.u]⟩,
  ⟨.other, 0, 0, []⟩,
  ⟨.func, 1, 8, [.u]⟩,
  ⟨.func, 1, 8, [.u]⟩,
  ⟨.func, 1, 8, [.u]⟩,
  ⟨.func, 1, 8, [.u]⟩,
  ⟨.func, 1, 8, [.u]⟩,
  ⟨.func, 1, 8, [.u]⟩,
  ⟨.func, 1, 8, [.u]⟩,
  ⟨.func, 1, 8, [.u]⟩,
  ⟨.other, 0, 0, []⟩,
  ⟨.func, 1, 8, [.u]⟩,
  ⟨.int .u64, 1, 8, [.i .u64 0]⟩,
  ⟨.func, 1, 8, [.u]⟩,
  ⟨.func, 1, 8, [.u]⟩,
  ⟨.func, 1, 8, [.u]⟩,
  ⟨.func, 1, 8, [.u]⟩,
  ⟨.func, 1, 8, [.u]⟩,
  ⟨.other, 0, 0, []⟩,
  ⟨.func, 1, 8, [.u]⟩,
  ⟨.func, 1, 8, [.u]⟩,
  ⟨.func, 1, 8, [.u]⟩,
  ⟨.int .u32, 1, 4, [.i .u32 0]⟩,
  ⟨.other, 0, 0, []⟩,
  ⟨.func, 1, 8, [.u]⟩,
  ⟨.arr 256 5, 256, 256, [.i .u8 0, .i .u8 0, .i .u8 0, .i .u8 0, .i .u8 0, .i .u8 0, .i .u8 0, .i .u8 0, .i .u8 0, .i .u8 0, .i .u8 0, .i .u8 0, .i .u8 0, .i .u8 0, .i .u8 0, .i .u8 0, .i .u8 0, .i .u8 0, .i .u8 0, .i .u8 0, .i .u8 0, .i .u8 0, .i .u8 0, .i .u8 0, .i .u8 0, .i .u8 0, .i .u8 0, .i .u8 0, .i .u8 0, .i .u8 0, .i .u8 0, .i .u8 0, .i .u8 0, .i .u8 0, .i .u8 0, .i .u8 0, .i .u8 0, .i .u8 0, .i .u8 0, .i .u8 0, .i .u8 0, .i .u8 0, .i .u8 0, .i .u8 0, .i .u8 0, .i .u8 0, .i .u8 0, .i .u8 0, .i .u8 0, .i .u8 0, .i .u8 0, .i .u8 0, .i .u8 0, .i .u8 0, .i .u8 0, .i .u8 0, .i .u8 0, .i .u8 0, .i .u8 0, .i .u8 0, .i .u8 0, .i .u8 0, .i .u8 0, .i .u8 0, .i .u8 0, .i .u8 0, .i .u8 0, .i .u8 0, .i .u8 0, .i .u8 0, .i .u8 0, .i .u8 0, .i .u8 0, .i .u8 0, .i .u8 0, .i .u8 0, .i .u8 0, .i .u8 0, .i .u8 0, .i .u8 0, .i .u8 0, .i .u8 0, .i .u8 0, .i .u8 0, .i .u8 0, .i .u8 0, .i .u8 0, .i .u8 0, .i .u8 0, .i .u8 0, .i .u8 0, .i .u8 0, .i .u8 0, .i .u8 0, .i .u8 0, .i .u8 0, .i .u8 0, .i .u8 0, .i .u8 0, .i .u8 0, .i .u8 0, .i .u8 0, .i .u8 0, .i .u8 0, .i .u8 0, .i .u8 0, .i .u8 0, .i .u8 0, .i .u8 0, .i .u8 0, .i .u8 0, .i .u8 0, .i .u8 0, .i .u8 0, .i .u8 0, .i .u8 0, .i .u8 0, .i .u8 0, .i .u8 0, .i .u8 0, .i .u8 0, .i .u8 0, .i .u8 0, .i .u8 0, .i .u8 0, .i .u8 0, .i .u8 0, .i .u8 0, .i .u8 0, .i .u8 0, .i .u8 0, .i .u8 0, .i .u8 0, .i .u8 0, .i .u8 0, .i .u8 0, .i .u8 0, .i .u8 0, .i .u8 0, .i .u8 0, .i .u8 0, .i .u8 0, .i .u8 0, .i .u8 0, .i .u8 0, .i .u8 0, .i .u8 0, .i .u8 0, .i .u8 0, .i .u8 0, .i .u8 0, .i .u8 0, .i .u8 0, .i .u8 0, .i .u8 0, .i .u8 0, .i .u8 0, .i .u8 0, .i .u8 0, .i .u8 0, .i .u8 0, .i .u8 0, .i .u8 0, .i .u8 0, .i .u8 0, .i .u8 0, .i .u8 0, .i .u8 0, .i .u8 0, .i .u8 0, .i .u8 0, .i .u8 0, .i .u8 0, .i .u8 0, .i .u8 0, .i .u8 0, .i .u8 0, .i .u8 0, .i .u8 0, .i .u8 0, .i .u8 0, .i .u8 0, .i .u8 0, .i .u8 0, .i .u8 0, .i .u8 0, .i .u8 0, .i .u8 0, .i .u8 0, .i .u8 0, .i .u8 0, .i .u8 0, .i .u8 0, .i .u8 0, .i .u8 0, .i .u8 0, .i .u8 0, .i .u8 0, .i .u8 0, .i .u8 0, .i .u8 0, .i .u8 0, .i .u8 0, .i .u8 0, .i .u8 0, .i .u8 0, .i .u8 0, .i .u8 0, .i .u8 0, .i .u8 0, .i .u8 0, .i .u8 0, .i .u8 0, .i .u8 0, .i .u8 0, .i .u8 0, .i .u8 0, .i .u8 0, .i .u8 0, .i .u8 0, .i .u8 0, .i .u8 0, .i .u8 0, .i .u8 0, .i .u8 0, .i .u8 0, .i .u8 0, .i .u8 0, .i .u8 0, .i .u8 0, .i .u8 0, .i .u8 0, .i .u8 0, .i .u8 0, .i .u8 0, .i .u8 0, .i .u8 0, .i .u8 0, .i .u8 0, .i .u8 0, .i .u8 0, .i .u8 0, .i .u8 0, .i .u8 0, .i .u8 0, .i .u8 0, .i .u8 0, .i .u8 0, .i .u8 0, .i .u8 0, .i .u8 0, .i .u8 0, .i .u8 0, .i .u8 0, .i .u8 0, .i .u8 0]⟩,
  ⟨.other, 0, 0, []⟩,
  ⟨.other, 0, 0, []⟩,
  ⟨.other, 0, 0, []⟩,
  ⟨.func, 1, 8, [.u]⟩,
  ⟨.other, 0, 0, []⟩,
  ⟨.other, 0, 0, []⟩,
  ⟨.other, 0, 0, []⟩,
  ⟨.other, 0, 0, []⟩,
  ⟨.other, 0, 0, []⟩,
  ⟨.func, 1, 8, [.u]⟩,
  ⟨.int .u8, 1, 1, [.i .u8 0]⟩,
  ⟨.int .u8, 1, 1, [.i .u8 0]⟩,
  ⟨.func, 1, 8, [.u]⟩,
  ⟨.ptr 5, 1, 8, [.np]⟩,
  ⟨.int .i32, 1, 4, [.i .i32 0]⟩,
  ⟨.int .i32, 1, 4, [.i .i32 0]⟩,
  ⟨.other, 0, 0, []⟩,
  ⟨.other, 0, 0, []⟩,
  ⟨.other, 0, 0, []⟩]
def liveTab : List (Nat × Nat × List Nat) := [
  (3, 16, [3, 5, 6, 7, 8, 9, 10]),
  (3, 22, [3, 6, 11, 12]),
  (6, 2, [1, 3]),
  (8, 8, [4, 5, 6, 7]),
  (9, 5, [1, 3, 16, 17, 18]),
  (9, 9, [1, 3, 16, 17, 18, 32, 33, 34]),
  (10, 5, [1, 3, 14, 15, 16]),
  (11, 3, [0, 2, 3, 4]),
  (11, 7, [0, 2, 3, 5]),
  (11, 18, [0, 2, 3]),
  (12, 3, [0, 3, 4]),
  (14, 4, [0, 3, 4, 5]),
  (16, 2, [1, 6, 7, 8]),
  (17, 6, [4, 5, 20, 21, 22]),
  (19, 3, [0, 5, 6]),
  (19, 7, [0, 5, 6, 7, 8]),
  (20, 3, [0, 3, 4]),
  (20, 7, [0, 3]),
  (22, 2, [0, 2, 7]),
  (23, 2, [0, 3]),
  (24, 3, [0, 4, 5]),
  (25, 2, [0, 3]),
  (27, 3, [3, 8, 9, 10]),
  (37, 2, [0, 3]),
  (38, 5, [0, 4, 11, 12]),
  (39, 2, [0, 6, 7]),
  (41, 5, [0, 3, 4]),
  (44, 11, [0, 1, 2, 3, 9, 10]),
  (47, 4, [0, 5, 6, 7]),
  (48, 6, [0, 1, 6, 7]),
  (49, 6, [0, 1, 5]),
  (51, 15, [0, 1, 5, 6, 7, 8, 9, 10]),
  (52, 2, [2, 4]),
  (58, 5, [0, 1, 5, 6, 7, 8, 9]),
  (58, 11, [0, 1, 5, 6, 7, 8, 10]),
  (61, 3, [0, 4, 5]),
  (61, 8, [4, 6, 7, 8])]
def escTab : List (Nat × Nat) := [(12, 31)]
def planTab : List (Nat × Nat × Plan) := [(3, 8, .take 1 (.take 2 (.take 4 (.take 5 (.take 6 (.alt 0 (.alt 3 (.take 7 (.take 8 (.take 9 (.take 10 (.take 11 (.take 12 (.done))))))) (.alt 7 (.alt 3 (.take 8 (.take 9 (.take 10 (.take 11 (.take 12 (.done)))))) (.alt 8 (.alt 3 (.take 9 (.take 10 (.take 11 (.take 12 (.done))))) (.alt 9 (.take 3 (.take 10 (.take 11 (.take 12 (.done))))) (.no))) (.no))) (.no))) (.alt 7 (.alt 0 (.alt 3 (.take 8 (.take 9 (.take 10 (.take 11 (.take 12 (.done)))))) (.alt 8 (.alt 3 (.take 9 (.take 10 (.take 11 (.take 12 (.done))))) (.alt 9 (.take 3 (.take 10 (.take 11 (.take 12 (.done))))) (.no))) (.no))) (.alt 8 (.alt 0 (.alt 3 (.take 9 (.take 10 (.take 11 (.take 12 (.done))))) (.alt 9 (.take 3 (.take 10 (.take 11 (.take 12 (.done))))) (.no))) (.alt 9 (.take 0 (.take 3 (.take 10 (.take 11 (.take 12 (.done)))))) (.no))) (.no))) (.no)))))))),
  (11, 9, .take 0 (.take 1 (.take 2 (.take 3 (.take 4 (.take 5 (.take 7 (.take 6 (.take 8 (.take 9 (.take 10 (.take 11 (.take 12 (.take 13 (.done))))))))))))))),
  (17, 1, .alt 0 (.take 1 (.take 2 (.take 3 (.done)))) (.alt 1 (.take 0 (.take 2 (.take 3 (.done)))) (.no))),
  (43, 8, .take 0 (.take 1 (.take 2 (.take 3 (.take 9 (.take 10 (.take 11 (.take 4 (.take 5 (.take 6 (.take 7 (.take 8 (.take 12 (.take 13 (.done))))))))))))))),
  (43, 11, .take 0 (.take 1 (.take 2 (.take 3 (.take 4 (.take 5 (.take 7 (.take 15 (.take 16 (.take 17 (.take 18 (.alt 6 (.take 8 (.take 9 (.take 10 (.take 11 (.take 12 (.take 13 (.take 14 (.take 19 (.take 20 (.done)))))))))) (.alt 8 (.take 6 (.take 9 (.take 10 (.take 11 (.take 12 (.take 13 (.take 14 (.take 19 (.take 20 (.done)))))))))) (.no))))))))))))))]
def locTab : List (Nat × Nat × Nat) := [(3, 34, 5), (3, 40, 5), (3, 43, 5), (3, 46, 1), (3, 50, 7), (3, 59, 5), (3, 61, 5), (3, 65, 1), (3, 67, 1), (3, 90, 1), (3, 94, 1), (3, 98, 1), (6, 11, 3), (6, 15, 1), (6, 17, 3), (6, 24, 3), (6, 28, 1), (11, 18, 5), (11, 24, 5), (11, 31, 5), (11, 34, 5), (11, 43, 5), (11, 48, 5), (11, 56, 5), (11, 59, 5), (11, 67, 5), (11, 76, 5), (29, 15, 1), (29, 20, 1), (29, 27, 1), (29, 31, 1), (29, 38, 1), (29, 42, 1), (29, 44, 1)]
def wrTab : List (Nat × Nat) := [(11, 21), (11, 37), (11, 39), (11, 52), (11, 63), (11, 80), (43, 33), (43, 55)]
def okTab : List Nat := [2, 3, 4, 5, 6, 7, 8, 9, 10, 11, 12, 13, 14, 15, 16, 17, 18, 19, 20, 21, 22, 23, 24, 25, 26, 27, 28, 29, 30, 31, 32, 33, 34, 35, 36, 37, 38, 39, 40, 41, 42, 43, 44, 45, 46, 47, 48, 49, 50, 51, 52, 53, 55, 57, 58, 59, 61, 82]
noncomputable def glTab : List (Nat × Nat × List (List AV)) := []
def look3 : List (Nat × Nat × List Nat) → Nat → Nat → List Nat
  | [], _, _ => []
  | (a, b, c) :: l, x, y => match a == x && b == y with | true => c | false => look3 l x y
def look2 : List (Nat × Nat) → Nat → Nat → Bool
  | [], _, _ => false
  | (a, b) :: l, x, y => match a == x && b == y with | true => true | false => look2 l x y
def lookP : List (Nat × Nat × Plan) → Nat → Nat → Option Plan
  | [], _, _ => none
  | (a, b, c) :: l, x, y => match a == x && b == y with | true => some c | false => lookP l x y
def lookN : List (Nat × Nat × Nat) → Nat → Nat → Nat
  | [], _, _ => 0
  | (a, b, c) :: l, x, y => match a == x && b == y with | true => c | false => lookN l x y
def look1 : List Nat → Nat → Bool
  | [], _ => false
  | a :: l, x => match a == x with | true => true | false => look1 l x
noncomputable def Cf : Cfg := { ty := tyTab, fns := Tryd.funcs.toList, esc := look2 escTab, live := look3 liveTab, plan := lookP planTab, ok := look1 okTab, wr := look2 wrTab, loc := lookN locTab, gl := glTab }
theorem Cf_ty : tyOk Cf Tryd.prog = true := by decide +kernel
theorem Cf_fns : fnsOk Cf 0 Tryd.prog.funcs.toList = true := by decide +kernel
theorem Cf_ok : ProgOk Cf Tryd.prog := progOk_spec rfl Cf_ty Cf_fns
end Go.Proofs.YteniekdaincioaaDoor.Ev
