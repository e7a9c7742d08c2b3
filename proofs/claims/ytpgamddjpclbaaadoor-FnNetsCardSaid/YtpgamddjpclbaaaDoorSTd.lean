/- Contracts: what the functions of this part return, for arguments as each contract says. -/
import Derived.Test.YtpgamddjpclbaaaDoorEvD
import Derived.Test.YtpgamddjpclbaaaDoorEvTab
import Derived.Test.YtpgamddjpclbaaaDoorSTy
import Derived.Test.YtpgamddjpclbaaaDoorSKb
import Derived.Test.YtpgamddjpclbaaaDoorSLb
import Derived.Test.YtpgamddjpclbaaaDoorSSp
import Derived.Test.YtpgamddjpclbaaaDoorSSq
import Derived.Test.YtpgamddjpclbaaaDoorSLn
import Derived.Test.YtpgamddjpclbaaaDoorSPl
import Derived.Test.YtpgamddjpclbaaaDoorSCq
import Derived.Test.YtpgamddjpclbaaaDoorSPg
import Derived.Test.YtpgamddjpclbaaaDoorSPh
import Derived.Test.YtpgamddjpclbaaaDoorSMk
import Derived.Test.YtpgamddjpclbaaaDoorSMr
import Derived.Test.YtpgamddjpclbaaaDoorSPw
import Derived.Test.YtpgamddjpclbaaaDoorSNt
import Derived.Test.YtpgamddjpclbaaaDoorSMs
import Derived.Test.YtpgamddjpclbaaaDoorSRj
import Derived.Test.YtpgamddjpclbaaaDoorEvE
set_option linter.constructorNameAsVariable false
set_option linter.unusedVariables false
set_option linter.unusedSimpArgs false
set_option linter.unusedVariables false
set_option maxHeartbeats 4000000
set_option maxRecDepth 20000
set_option linter.unusedSimpArgs false
set_option linter.constructorNameAsVariable false
namespace Go.Proofs.YtpgamddjpclbaaaDoor.Ev
open Go Go.Proofs
attribute [local irreducible] RO Fn IntKind.wrap TriL
/- the workload of a net. Printed by mktodo.py -/
def enq (q : List Op) (r : Rec) : List Op := q ++ [⟨1, r.key, r.what, 0⟩, ⟨2, r.key, 0, r.val⟩]
def fillQ (q : List Op) (lost : Int) : List Rec → List Op × Int
  | [] => (q, lost)
  | r :: l => if 8 < q.length then fillQ q (lost + 1) l else fillQ (enq q r) lost l
theorem fillQ_at {l : List Rec} {k : Nat} (h : k < l.length) (q : List Op) (lost : Int) : fillQ q lost (l.drop k) = if 8 < q.length then fillQ q (lost + 1) (l.drop (k + 1)) else fillQ (enq q l[k]) lost (l.drop (k + 1)) := by
  rw [List.drop_eq_getElem_cons h]; rfl
structure Qs where
  a : List Op
  b : List Op
  c : List Op
  lost : Int
def sendQ (n : Net) (s : Qs) (x : Send) : Qs :=
  if x.to = 0 then ⟨(fillQ s.a s.lost (parseG (gramOf n x)).1).1, s.b, s.c, (fillQ s.a s.lost (parseG (gramOf n x)).1).2⟩
  else if x.to = 1 then ⟨s.a, (fillQ s.b s.lost (parseG (gramOf n x)).1).1, s.c, (fillQ s.b s.lost (parseG (gramOf n x)).1).2⟩
  else ⟨s.a, s.b, (fillQ s.c s.lost (parseG (gramOf n x)).1).1, (fillQ s.c s.lost (parseG (gramOf n x)).1).2⟩
def todoQ (n : Net) : Qs := n.sends.foldl (sendQ n) ⟨[], [], [], 0⟩
theorem sendQ_at {n : Net} {k : Nat} (h : k < n.sends.length) (s : Qs) : (n.sends.drop k).foldl (sendQ n) s = (n.sends.drop (k + 1)).foldl (sendQ n) (sendQ n s n.sends[k]) := by
  rw [List.drop_eq_getElem_cons h]; rfl
def flushOp : Op := ⟨3, ⟨#[]⟩, 0, 0⟩
def flQ (k : Nat) : List Op := List.replicate k flushOp
theorem flQ_succ (k : Nat) : (flQ (k + 1)).map Op.av = (flQ k).map Op.av ++ [flushOp.av] := by
  rw [flQ, List.replicate_succ', List.map_append]; rfl
theorem enq_map (q : List Op) (r : Rec) : q.map Op.av ++ [[.i .i64 1, .s r.key, .i .i64 r.what, .i .i64 0], [.i .i64 2, .s r.key, .i .i64 0, .i .i64 r.val]] = (enq q r).map Op.av := by
  rw [enq, List.map_append]; rfl
theorem enq_len (q : List Op) (r : Rec) : (enq q r).length = q.length + 2 := by simp [enq]
theorem Fn_atq (i : Nat) {f : Nat} {args xs : List AV} {h : Hp} {ob ob' : Ob} {r r' : AV} (hF : Fn Cf Tryd.prog f xs [some ob] r [some ob']) (hi : Nat.blt i h.length = true) (hx : renL (idx [i]) args = xs) (ho : at? h i = some (some ob)) (h1 : ob.fl = true) (h2 : ob'.fl = true) (hr : ren (outId [i] h.length) r = r') :
    Fn Cf Tryd.prog f args h r' (upd h i (some ob')) := by
  have hi' : i < h.length := by simpa using hi
  refine Fn_frame [i] (hL := [some ob]) (hp' := [some ob']) (hr := [some ob']) hF ?_ hx ?_ hr ?_ lay1
  · have : Nat.blt i (List.length h) = true := hi
    simp [nodupB, allLt] at hi' ⊢
    omega
  · refine ⟨?_, trivial⟩
    rw [ho]
    exact .inl ⟨rfl, by simp [h1]⟩
  · exact ⟨.inl ⟨rfl, by simp [h2]⟩, trivial⟩
theorem impl_enqueue_full (q : List Op) (r : Rec) (hq : 8 < q.length) (hq2 : q.length ≤ 1000) : Fn Cf Tryd.prog 29 [.ag [.sl 0 0 q.length], .ag r.av] [some ⟨4, true, q.map Op.av⟩] (.tp [.ag [.sl 0 0 q.length], .k false]) [some ⟨4, true, q.map Op.av⟩] := by
  refine Fn_of Cf_ok ?_
  repeat' first | refine And.intro rfl ?_ | (refine And.intro (fun h => ?_) (fun h => ?_) <;> (try simp only [decide_eq_true_eq, decide_eq_false_iff_not, Bool.not_eq_true', Bool.not_eq_false', Bool.and_eq_true, Bool.or_eq_true, Bool.not_eq_eq_eq_not, Bool.not_true, Bool.not_false, beq_iff_eq, bne_iff_ne, beq_eq_false_iff_ne, bne_eq_false_iff_eq, Nat.not_lt, Int.not_lt, Int.not_le, wrap_byteAt, List.length_map, eqB_Row, eqB_Op, eqB_Rec, toList_inj, toList_nil, ne_eq, Int.toNat_natCast] at h) <;> (try simp only [wrap64] at h) <;> (try (exfalso; first | (cases h; done) | exact h trivial | exact h rfl | omega))) | refine And.intro ⟨by (first | omega | (simp only [wrap64, maxLen, List.length_map, List.length_append, List.length_cons, List.length_nil, Int.toNat_natCast] at *; omega)), by (first | omega | (simp only [wrap64, maxLen, List.length_map, List.length_append, List.length_cons, List.length_nil, Int.toNat_natCast] at *; omega))⟩ ?_ | refine And.intro (show (_ : Int) ≠ 0 by decide) ?_ | refine And.intro ⟨by (first | omega | (simp only [wrap64, maxLen, List.length_map, List.length_append, List.length_cons, List.length_nil, Int.toNat_natCast] at *; omega)), by (first | omega | (simp only [wrap64, maxLen, List.length_map, List.length_append, List.length_cons, List.length_nil, Int.toNat_natCast] at *; omega)), room (by exact rfl) (by (first | omega | (simp only [wrap64, maxLen, List.length_map, List.length_append, List.length_cons, List.length_nil, Int.toNat_natCast] at *; omega))) (by (first | omega | (simp only [wrap64, maxLen, List.length_map, List.length_append, List.length_cons, List.length_nil, Int.toNat_natCast] at *; omega)))⟩ ?_ | refine And.intro (roomN (by exact rfl) (by (first | omega | (simp only [wrap64, maxLen, List.length_map, List.length_append, List.length_cons, List.length_nil, Int.toNat_natCast] at *; omega)))) ?_ | exact trivial | exact rfl | refine Exists.intro _ (And.intro rfl ?_) | refine' cut1 _ ?_ ?_ | refine And.intro (deep_ag (by exact rfl) (by exact rfl)) ?_ | refine And.intro (deep_ag2 (by repeat' first | exact trivial | refine And.intro (by exact rfl) ?_)) ?_ | refine And.intro (deep_sl (by exact rfl) (by first | exact (List.length_map _).symm | assumption | exact rfl | (simp; done))) ?_ | refine And.intro (deep_rows (by intro x hx; repeat' first | exact trivial | refine And.intro (by exact rfl) ?_)) ?_ | refine And.intro (by exact rfl) ?_ | refine And.intro (Or.inl (by exact rfl)) ?_ | refine And.intro (show ByteArray.size _ + ByteArray.size _ ≤ _ from by (first | omega | (simp only [size_mk, size_add, List.size_toArray, List.length_cons, List.length_nil, maxLen] at *; omega))) ?_ | refine Exists.intro _ (And.intro (by with_unfolding_all exact rfl) ?_) | refine And.intro (by decide +kernel) ?_ | refine Exists.intro _ (And.intro (at_map (by (first | omega | (simp only [wrap64, maxLen, List.length_map, List.length_append, List.length_cons, List.length_nil, Int.toNat_natCast] at *; omega)))) ?_) | (refine wrap_id' ?_; (first | omega | (simp only [wrap64, maxLen, List.length_map, List.length_append, List.length_cons, List.length_nil, Int.toNat_natCast] at *; omega))) | refine And.intro ?_ ?_ | fail
  all_goals first | omega
theorem impl_enqueue' (rows : List (List AV)) (r : Rec) (hq : rows.length ≤ 8) : Fn Cf Tryd.prog 29 [.ag [.sl 0 0 rows.length], .ag r.av] [some ⟨4, true, rows⟩] (.tp [.ag [.sl 1 0 (rows.length + 2)], .k true]) [none, some ⟨4, true, rows ++ [[.i .i64 1, .s r.key, .i .i64 r.what, .i .i64 0], [.i .i64 2, .s r.key, .i .i64 0, .i .i64 r.val]]⟩] := by
  refine fnP_Fn Cf_ok (by rfl) ?_
  repeat' first | refine And.intro rfl ?_ | (refine And.intro (fun h => ?_) (fun h => ?_) <;> (try simp only [decide_eq_true_eq, decide_eq_false_iff_not, Bool.not_eq_true', Bool.not_eq_false', Bool.and_eq_true, Bool.or_eq_true, Bool.not_eq_eq_eq_not, Bool.not_true, Bool.not_false, beq_iff_eq, bne_iff_ne, beq_eq_false_iff_ne, bne_eq_false_iff_eq, Nat.not_lt, Int.not_lt, Int.not_le, wrap_byteAt, List.length_map, eqB_Row, eqB_Op, eqB_Rec, toList_inj, toList_nil, ne_eq, Int.toNat_natCast] at h) <;> (try simp only [wrap64] at h) <;> (try (exfalso; first | (cases h; done) | exact h trivial | exact h rfl | omega))) | refine And.intro ⟨by (first | omega | (simp only [wrap64, maxLen, List.length_map, List.length_append, List.length_cons, List.length_nil, Int.toNat_natCast] at *; omega)), by (first | omega | (simp only [wrap64, maxLen, List.length_map, List.length_append, List.length_cons, List.length_nil, Int.toNat_natCast] at *; omega))⟩ ?_ | refine And.intro (show (_ : Int) ≠ 0 by decide) ?_ | refine And.intro ⟨by (first | omega | (simp only [wrap64, maxLen, List.length_map, List.length_append, List.length_cons, List.length_nil, Int.toNat_natCast] at *; omega)), by (first | omega | (simp only [wrap64, maxLen, List.length_map, List.length_append, List.length_cons, List.length_nil, Int.toNat_natCast] at *; omega)), room (by exact rfl) (by (first | omega | (simp only [wrap64, maxLen, List.length_map, List.length_append, List.length_cons, List.length_nil, Int.toNat_natCast] at *; omega))) (by (first | omega | (simp only [wrap64, maxLen, List.length_map, List.length_append, List.length_cons, List.length_nil, Int.toNat_natCast] at *; omega)))⟩ ?_ | refine And.intro (roomN (by exact rfl) (by (first | omega | (simp only [wrap64, maxLen, List.length_map, List.length_append, List.length_cons, List.length_nil, Int.toNat_natCast] at *; omega)))) ?_ | exact trivial | exact rfl | refine Exists.intro _ (And.intro rfl ?_) | refine' cut1 _ ?_ ?_ | refine And.intro (deep_ag (by exact rfl) (by exact rfl)) ?_ | refine And.intro (deep_ag2 (by repeat' first | exact trivial | refine And.intro (by exact rfl) ?_)) ?_ | refine And.intro (deep_sl (by exact rfl) (by first | exact (List.length_map _).symm | assumption | exact rfl | (simp; done))) ?_ | refine And.intro (deep_rows (by intro x hx; repeat' first | exact trivial | refine And.intro (by exact rfl) ?_)) ?_ | refine And.intro (by exact rfl) ?_ | refine And.intro (Or.inl (by exact rfl)) ?_ | (refine' Exists.intro _ (Exists.intro _ (And.intro (show rowsR _ _ _ _ _ from ?_) (And.intro (show bytesOf _ = _ from ?_) ?_)))) | (refine' Exists.intro _ (Exists.intro _ (And.intro (show rowsR _ _ _ _ _ from ?_) (And.intro (show rowsR _ _ _ _ _ from ?_) (And.intro ?_ ?_))))) | (refine cut_full _ ?_; first | assumption | exact (List.length_map _).symm | exact rfl | (simp; done)) | refine roomN (by exact rfl) (by (first | omega | (simp only [wrap64, maxLen, List.length_map, List.length_append, List.length_cons, List.length_nil, Int.toNat_natCast] at *; omega))) | refine And.intro (show ByteArray.size _ + ByteArray.size _ ≤ _ from by (first | omega | (simp only [size_mk, size_add, List.size_toArray, List.length_cons, List.length_nil, maxLen] at *; omega))) ?_ | refine Exists.intro _ (And.intro (by with_unfolding_all exact rfl) ?_) | refine And.intro (by decide +kernel) ?_ | refine Exists.intro _ (And.intro (at_map (by (first | omega | (simp only [wrap64, maxLen, List.length_map, List.length_append, List.length_cons, List.length_nil, Int.toNat_natCast] at *; omega)))) ?_) | (refine wrap_id' ?_; (first | omega | (simp only [wrap64, maxLen, List.length_map, List.length_append, List.length_cons, List.length_nil, Int.toNat_natCast] at *; omega))) | refine And.intro ?_ ?_ | fail
  all_goals first
    | omega
    | exact gh_ren (σ := [0, 2]) (h' := [none, some ⟨4, true, _⟩]) rfl rfl rfl ⟨Or.inl ⟨rfl, rfl⟩, trivial⟩
   
theorem impl_enqueue (q : List Op) (r : Rec) (hq : q.length ≤ 8) : Fn Cf Tryd.prog 29 [.ag [.sl 0 0 q.length], .ag r.av] [some ⟨4, true, q.map Op.av⟩] (.tp [.ag [.sl 1 0 (enq q r).length], .k true]) [none, some ⟨4, true, (enq q r).map Op.av⟩] := by
  have h := impl_enqueue' (q.map Op.av) r (by rw [List.length_map]; exact hq)
  rw [List.length_map] at h
  rw [enq_len, ← enq_map]
  exact h
theorem Fn_atn (i : Nat) {f : Nat} {args xs : List AV} {h : Hp} {ob ob' : Ob} {r r' : AV} (hF : Fn Cf Tryd.prog f xs [some ob] r [none, some ob']) (hi : Nat.blt i h.length = true) (hx : renL (idx [i]) args = xs) (ho : at? h i = some (some ob)) (h1 : ob.fl = true) (h2 : ob'.fl = true) (hr : ren (outId [i] h.length) r = r') :
    Fn Cf Tryd.prog f args h r' (upd h i none ++ [some ob']) := by
  have hi' : i < h.length := by simpa using hi
  refine Fn_frame [i] (hL := [some ob]) (hp' := [none, some ob']) (hr := [none, some ob']) hF ?_ hx ?_ hr ?_ (by simp [lay])
  · have : Nat.blt i (List.length h) = true := hi
    simp [nodupB, allLt] at hi' ⊢
    omega
  · refine ⟨?_, trivial⟩
    rw [ho]
    exact .inl ⟨rfl, by simp [h1]⟩
  · exact ⟨.inl ⟨rfl, by simp [h2]⟩, trivial⟩

end Go.Proofs.YtpgamddjpclbaaaDoor.Ev
