/- The tables of this program, and their check. -/
import Derived.Test.YtjkgjpaodccgbaaEvC
import Derived.Test.YtjkgjpaodccgbaaProg
set_option linter.constructorNameAsVariable false
set_option linter.unusedVariables false
set_option linter.unusedSimpArgs false
namespace Go.Proofs.Ytjkgjpaodccgbaa.Ev
open Go Go.Proofs
def tyTab : List TyI := [
  ⟨.other, 0, 0, []⟩,
  ⟨.func, 1, 8, [.u]⟩,
  ⟨.int .i64, 1, 8, [.i .i64 0]⟩,
  ⟨.int .i64, 1, 8, [.i .i64 0]⟩,
  ⟨.bool, 1, 1, [.k false]⟩,
  ⟨.int .u8, 1, 1, [.i .u8 0]⟩,
  ⟨.int .u8, 1, 1, [.i .u8 0]⟩,
  ⟨.other, 0, 0, []⟩,
  ⟨.other, 0, 0, []⟩,
  ⟨.str, 1, 16, [.s ⟨#[]⟩]⟩,
  ⟨.str, 1, 16, [.s ⟨#[]⟩]⟩,
  ⟨.str, 1, 16, [.s ⟨#[]⟩]⟩,
  ⟨.int .u64, 1, 8, [.i .u64 0]⟩,
  ⟨.other, 0, 0, []⟩,
  ⟨.other, 0, 0, []⟩,
  ⟨.ptr 60, 1, 8, [.np]⟩,
  ⟨.ptr 63, 1, 8, [.np]⟩,
  ⟨.ptr 73, 1, 8, [.np]⟩,
  ⟨.other, 0, 0, []⟩,
  ⟨.other, 0, 0, []⟩,
  ⟨.other, 0, 0, []⟩,
  ⟨.int .i32, 1, 4, [.i .i32 0]⟩,
  ⟨.func, 1, 8, [.u]⟩,
  ⟨.func, 1, 8, [.u]⟩,
  ⟨.other, 0, 0, []⟩,
  ⟨.func, 1, 8, [.u]⟩,
  ⟨.func, 1, 8, [.u]⟩,
  ⟨.strct [(9, 0), (3, 1), (3, 2), (4, 3), (3, 4), (3, 5), (3, 6), (3, 7), (3, 8), (3, 9)], 10, 88, [.s ⟨#[]⟩, .i .i64 0, .i .i64 0, .k false, .i .i64 0, .i .i64 0, .i .i64 0, .i .i64 0, .i .i64 0, .i .i64 0]⟩,
  ⟨.strct [(9, 0), (3, 1), (3, 2), (4, 3), (3, 4), (3, 5), (3, 6), (3, 7), (3, 8), (3, 9)], 10, 88, [.s ⟨#[]⟩, .i .i64 0, .i .i64 0, .k false, .i .i64 0, .i .i64 0, .i .i64 0, .i .i64 0, .i .i64 0, .i .i64 0]⟩,
  ⟨.func, 1, 8, [.u]⟩,
  ⟨.func, 1, 8, [.u]⟩,
  ⟨.strct [(9, 0), (3, 1), (3, 2), (4, 3), (3, 4), (3, 5), (3, 6), (3, 7), (3, 8), (3, 9)], 10, 88, [.s ⟨#[]⟩, .i .i64 0, .i .i64 0, .k false, .i .i64 0, .i .i64 0, .i .i64 0, .i .i64 0, .i .i64 0, .i .i64 0]⟩,
  ⟨.func, 1, 8, [.u]⟩,
  ⟨.func, 1, 8, [.u]⟩,
  ⟨.slice 3, 1, 24, [.nl]⟩,
  ⟨.func, 1, 8, [.u]⟩,
  ⟨.func, 1, 8, [.u]⟩,
  ⟨.func, 1, 8, [.u]⟩,
  ⟨.func, 1, 8, [.u]⟩,
  ⟨.func, 1, 8, [.u]⟩,
  ⟨.func, 1, 8, [.u]⟩,
  ⟨.func, 1, 8, [.u]⟩,
  ⟨.func, 1, 8, [.u]⟩,
  ⟨.slice 28, 1, 24, [.nl]⟩,
  ⟨.func, 1, 8, [.u]⟩,
  ⟨.other, 0, 0, []⟩,
  ⟨.func, 1, 8, [.u]⟩,
  ⟨.slice 31, 1, 24, [.nl]⟩,
  ⟨.func, 1, 8, [.u]⟩,
  ⟨.func, 1, 8, [.u]⟩,
  ⟨.func, 1, 8, [.u]⟩,
  ⟨.func, 1, 8, [.u]⟩,
  ⟨.slice 9, 1, 24, [.nl]⟩,
  ⟨.arr 6 9, 6, 96, [.s ⟨#[]⟩, .s ⟨#[]⟩, .s ⟨#[]⟩, .s ⟨#[]⟩, .s ⟨#[]⟩, .s ⟨#[]⟩]⟩,
  ⟨.func, 1, 8, [.u]⟩,
  ⟨.func, 1, 8, [.u]⟩,
  ⟨.func, 1, 8, [.u]⟩,
  ⟨.func, 1, 8, [.u]⟩,
  ⟨.func, 1, 8, [.u]⟩,
  ⟨.other, 0, 0, []⟩,
  ⟨.other, 0, 0, []⟩,
  ⟨.other, 0, 0, []⟩,
  ⟨.other, 0, 0, []⟩,
  ⟨.other, 0, 0, []⟩,
  ⟨.func, 1, 8, [.u]⟩,
  ⟨.int .u32, 1, 4, [.i .u32 0]⟩,
  ⟨.int .u8, 1, 1, [.i .u8 0]⟩,
  ⟨.int .u8, 1, 1, [.i .u8 0]⟩,
  ⟨.func, 1, 8, [.u]⟩,
  ⟨.ptr 5, 1, 8, [.np]⟩,
  ⟨.int .i32, 1, 4, [.i .i32 0]⟩,
  ⟨.int .i32, 1, 4, [.i .i32 0]⟩,
  ⟨.other, 0, 0, []⟩,
  ⟨.other, 0, 0, []⟩,
  ⟨.other, 0, 0, []⟩]
def liveTab : List (Nat × Nat × List Nat) := [
  (11, 3, [0, 4, 5]),
  (12, 5, [0, 4, 11, 12]),
  (17, 3, [0, 1, 5, 6]),
  (17, 7, [0, 1, 5, 6, 7, 8]),
  (18, 3, [0, 3, 4]),
  (19, 3, [0, 1, 5, 6, 10, 11, 12]),
  (20, 4, [0, 1, 5]),
  (21, 2, [0, 1, 5]),
  (22, 2, [0, 1, 5]),
  (26, 5, [0, 1, 5]),
  (27, 2, [0, 1, 4, 6]),
  (28, 3, [0, 3, 4]),
  (30, 4, [0, 1, 5]),
  (35, 2, [0, 1, 7, 8])]
def escTab : List (Nat × Nat) := [(34, 3)]
def planTab : List (Nat × Nat × Plan) := [(7, 8, .alt 0 (.alt 1 (.alt 2 (.alt 3 (.alt 4 (.take 5 (.take 6 (.done))) (.alt 5 (.take 4 (.take 6 (.done))) (.no))) (.alt 5 (.take 3 (.take 4 (.take 6 (.done)))) (.no))) (.alt 5 (.take 2 (.take 3 (.take 4 (.take 6 (.done))))) (.no))) (.alt 2 (.alt 1 (.alt 3 (.alt 4 (.take 5 (.take 6 (.done))) (.alt 5 (.take 4 (.take 6 (.done))) (.no))) (.alt 5 (.take 3 (.take 4 (.take 6 (.done)))) (.no))) (.alt 5 (.take 1 (.take 3 (.take 4 (.take 6 (.done))))) (.no))) (.alt 5 (.take 1 (.take 2 (.take 3 (.take 4 (.take 6 (.done)))))) (.no)))) (.alt 2 (.alt 0 (.alt 1 (.alt 3 (.alt 4 (.take 5 (.take 6 (.done))) (.alt 5 (.take 4 (.take 6 (.done))) (.no))) (.alt 5 (.take 3 (.take 4 (.take 6 (.done)))) (.no))) (.alt 5 (.take 1 (.take 3 (.take 4 (.take 6 (.done))))) (.no))) (.alt 5 (.take 0 (.take 1 (.take 3 (.take 4 (.take 6 (.done)))))) (.no))) (.alt 5 (.take 0 (.take 1 (.take 2 (.take 3 (.take 4 (.take 6 (.done))))))) (.no)))),
  (7, 9, .alt 0 (.alt 1 (.alt 2 (.alt 3 (.alt 4 (.take 5 (.take 6 (.done))) (.alt 5 (.take 4 (.take 6 (.done))) (.no))) (.alt 5 (.take 3 (.take 4 (.take 6 (.done)))) (.no))) (.alt 5 (.take 2 (.take 3 (.take 4 (.take 6 (.done))))) (.no))) (.alt 2 (.alt 1 (.alt 3 (.alt 4 (.take 5 (.take 6 (.done))) (.alt 5 (.take 4 (.take 6 (.done))) (.no))) (.alt 5 (.take 3 (.take 4 (.take 6 (.done)))) (.no))) (.alt 5 (.take 1 (.take 3 (.take 4 (.take 6 (.done))))) (.no))) (.alt 5 (.take 1 (.take 2 (.take 3 (.take 4 (.take 6 (.done)))))) (.no)))) (.alt 2 (.alt 0 (.alt 1 (.alt 3 (.alt 4 (.take 5 (.take 6 (.done))) (.alt 5 (.take 4 (.take 6 (.done))) (.no))) (.alt 5 (.take 3 (.take 4 (.take 6 (.done)))) (.no))) (.alt 5 (.take 1 (.take 3 (.take 4 (.take 6 (.done))))) (.no))) (.alt 5 (.take 0 (.take 1 (.take 3 (.take 4 (.take 6 (.done)))))) (.no))) (.alt 5 (.take 0 (.take 1 (.take 2 (.take 3 (.take 4 (.take 6 (.done))))))) (.no)))),
  (24, 8, .take 0 (.take 2 (.alt 1 (.take 3 (.take 4 (.take 5 (.done)))) (.alt 3 (.take 1 (.take 4 (.take 5 (.done)))) (.no))))),
  (24, 10, .take 0 (.take 1 (.take 2 (.take 4 (.alt 3 (.take 5 (.take 6 (.take 7 (.done)))) (.alt 5 (.take 3 (.take 6 (.take 7 (.done)))) (.no))))))),
  (24, 12, .take 0 (.take 1 (.take 2 (.take 3 (.take 4 (.take 5 (.take 7 (.take 10 (.alt 6 (.alt 8 (.take 9 (.take 11 (.take 12 (.take 13 (.done))))) (.alt 11 (.take 8 (.take 9 (.take 12 (.take 13 (.done))))) (.no))) (.alt 8 (.alt 6 (.take 9 (.take 11 (.take 12 (.take 13 (.done))))) (.alt 11 (.take 6 (.take 9 (.take 12 (.take 13 (.done))))) (.no))) (.alt 11 (.take 6 (.take 8 (.take 9 (.take 12 (.take 13 (.done)))))) (.no))))))))))))]
def okTab : List Nat := [2, 3, 4, 5, 6, 7, 8, 9, 10, 11, 12, 13, 14, 15, 16, 17, 18, 19, 20, 21, 22, 23, 24, 25, 26, 27, 28, 29, 30, 31, 32, 33, 34, 35, 36]
def look3 : List (Nat × Nat × List Nat) → Nat → Nat → List Nat
  | [], _, _ => []
  | (a, b, c) :: l, x, y => match a == x && b == y with | true => c | false => look3 l x y
def look2 : List (Nat × Nat) → Nat → Nat → Bool
  | [], _, _ => false
  | (a, b) :: l, x, y => match a == x && b == y with | true => true | false => look2 l x y
def lookP : List (Nat × Nat × Plan) → Nat → Nat → Option Plan
  | [], _, _ => none
  | (a, b, c) :: l, x, y => match a == x && b == y with | true => some c | false => lookP l x y
def look1 : List Nat → Nat → Bool
  | [], _ => false
  | a :: l, x => match a == x with | true => true | false => look1 l x
noncomputable def Cf : Cfg := { ty := tyTab, fns := Try.funcs.toList, esc := look2 escTab, live := look3 liveTab, plan := lookP planTab, ok := look1 okTab }
theorem Cf_ty : tyOk Cf Try.prog = true := by decide +kernel
theorem Cf_fns : fnsOk Cf 0 Try.prog.funcs.toList = true := by decide +kernel
theorem Cf_ok : ProgOk Cf Try.prog := progOk_spec rfl Cf_ty Cf_fns
end Go.Proofs.Ytjkgjpaodccgbaa.Ev
