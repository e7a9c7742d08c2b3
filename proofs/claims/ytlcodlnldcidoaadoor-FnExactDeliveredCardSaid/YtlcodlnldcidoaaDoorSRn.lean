/- Contracts: what the functions of this part return, for arguments as each contract says. -/
import Derived.Test.YtlcodlnldcidoaaDoorEvD
import Derived.Test.YtlcodlnldcidoaaDoorEvTab
import Derived.Test.YtlcodlnldcidoaaDoorSTy
import Derived.Test.YtlcodlnldcidoaaDoorSKb
import Derived.Test.YtlcodlnldcidoaaDoorSLb
import Derived.Test.YtlcodlnldcidoaaDoorSSp
import Derived.Test.YtlcodlnldcidoaaDoorSSq
import Derived.Test.YtlcodlnldcidoaaDoorSLn
import Derived.Test.YtlcodlnldcidoaaDoorSPl
import Derived.Test.YtlcodlnldcidoaaDoorSCq
import Derived.Test.YtlcodlnldcidoaaDoorSPg
import Derived.Test.YtlcodlnldcidoaaDoorSMk
import Derived.Test.YtlcodlnldcidoaaDoorSMr
import Derived.Test.YtlcodlnldcidoaaDoorSPw
import Derived.Test.YtlcodlnldcidoaaDoorSNt
import Derived.Test.YtlcodlnldcidoaaDoorSMs
import Derived.Test.YtlcodlnldcidoaaDoorSRj
import Derived.Test.YtlcodlnldcidoaaDoorSRm
set_option linter.constructorNameAsVariable false
set_option linter.unusedVariables false
set_option linter.unusedSimpArgs false
set_option linter.unusedVariables false
set_option maxHeartbeats 4000000
set_option maxRecDepth 20000
set_option linter.unusedSimpArgs false
set_option linter.constructorNameAsVariable false
namespace Go.Proofs.YtlcodlnldcidoaaDoor.Ev
open Go Go.Proofs
attribute [local irreducible] RO Fn IntKind.wrap TriL
theorem mark4b (g : List ByteArray) (s : List Send) (f : Int) (p : List Int) (h1 : g.length ≤ 1048576) (h2 : s.length ≤ 1048576) (h3 : p.length ≤ 1048576) (ob : Option Ob) :
    Fn Cf Tryd.prog 17 [.ag [.sl 0 0 g.length, .sl 1 0 s.length, .i .i64 f, .sl 2 0 p.length], .i .i64 1] [some ⟨1, true, g.map sv⟩, some ⟨2, true, s.map Send.av⟩, some ⟨1, true, p.map iv⟩, ob]
      (.i .i64 (1 + 1 * g.length + 2 * s.length + 1 * p.length)) [some ⟨1, true, (mStr 1 g.length).map sv⟩, some ⟨2, true, (mSend (1 + 1 * g.length) s.length).map Send.av⟩, some ⟨1, true, (mInt (1 + 1 * g.length + 2 * s.length) p.length).map iv⟩, ob] :=
  Fn_frame [0, 1, 2] (fn_markNet g s f p h1 h2 h3) (by rfl) (by rfl) ⟨Or.inl ⟨rfl, rfl⟩, Or.inl ⟨rfl, rfl⟩, Or.inl ⟨rfl, rfl⟩, trivial⟩ (by rfl) (hr := [some ⟨1, true, (mStr 1 g.length).map sv⟩, some ⟨2, true, (mSend (1 + 1 * g.length) s.length).map Send.av⟩, some ⟨1, true, (mInt (1 + 1 * g.length + 2 * s.length) p.length).map iv⟩]) ⟨Or.inl ⟨rfl, rfl⟩, Or.inl ⟨rfl, rfl⟩, Or.inl ⟨rfl, rfl⟩, trivial⟩ (by rfl)
theorem deep_net2 {hp : Hp} {d i : Nat} {n : Net} {l : List AV} (hl : l = [.sl i 0 n.grams.length, .sl (i + 1) 0 n.sends.length, .i .i64 n.flushes, .sl (i + 2) 0 n.picks.length]) (h1 : at? hp i = some (some ⟨1, true, n.grams.map sv⟩)) (h2 : at? hp (i + 1) = some (some ⟨2, true, n.sends.map Send.av⟩)) (h3 : at? hp (i + 2) = some (some ⟨1, true, n.picks.map iv⟩)) : Deep hp (d + 2) (.ag l) (.ag (n.av true)) := by
  subst hl
  exact deep_ag2 ⟨deep_sl h1 (by simp), deep_sl h2 (by simp), rfl, deep_sl h3 (by simp), trivial⟩
theorem delivered_len (n : Net) (hg : ∀ s ∈ n.grams, s.size ≤ 1048576) : (delivered n).length ≤ 1452 := by
  rw [delivered]; split
  · rename_i h
    have := delT_len n hg _ (Nat.le_refl _)
    have := (netOk_len h).1
    omega
  · show (0 : Nat) ≤ 1452; omega
theorem ro_specDelivered (n : Net) (hn : n.ok) (hg : ∀ s ∈ n.grams, s.size ≤ 1048576) : RO Cf Tryd.prog 29 [.ag (n.av true)] (.ro false true 3 ((delivered n).map Rec.av)) :=
  RO_of_Fn (spec_Delivered n hn hg) ⟨_, cut_full _ (by simp), rfl⟩
theorem law_FnExactDelivered (n : Net) (hn : n.ok) : RO Cf Tryd.prog 5 [.ag (n.av true)] (.b true) := by
  have hz := laws_szNet n hn 1048576 (by omega) (by omega)
  by_cases h0 : szNet n 1048576 < 0
  · refine RO_of Cf_ok ?_
    repeat' first | refine And.intro rfl ?_ | (refine And.intro (fun h => ?_) (fun h => ?_) <;> (try simp only [decide_eq_true_eq, decide_eq_false_iff_not, Bool.not_eq_true', Bool.not_eq_false', Bool.and_eq_true, Bool.or_eq_true, Bool.not_eq_eq_eq_not, Bool.not_true, Bool.not_false, beq_iff_eq, bne_iff_ne, beq_eq_false_iff_ne, bne_eq_false_iff_eq, Nat.not_lt, Int.not_lt, Int.not_le, wrap_byteAt, List.length_map, eqB_Row, eqB_Op, eqB_Rec, toList_inj, toList_nil, ne_eq, Int.toNat_natCast] at h) <;> (try simp only [wrap64] at h) <;> (try (exfalso; first | (cases h; done) | exact h trivial | exact h rfl | omega))) | refine And.intro ⟨by (first | omega | (simp only [wrap64, maxLen, List.length_map, List.length_append, List.length_cons, List.length_nil, Int.toNat_natCast] at *; omega)), by (first | omega | (simp only [wrap64, maxLen, List.length_map, List.length_append, List.length_cons, List.length_nil, Int.toNat_natCast] at *; omega))⟩ ?_ | refine And.intro (show (_ : Int) ≠ 0 by decide) ?_ | refine And.intro ⟨by (first | omega | (simp only [wrap64, maxLen, List.length_map, List.length_append, List.length_cons, List.length_nil, Int.toNat_natCast] at *; omega)), by (first | omega | (simp only [wrap64, maxLen, List.length_map, List.length_append, List.length_cons, List.length_nil, Int.toNat_natCast] at *; omega)), room (by exact rfl) (by (first | omega | (simp only [wrap64, maxLen, List.length_map, List.length_append, List.length_cons, List.length_nil, Int.toNat_natCast] at *; omega))) (by (first | omega | (simp only [wrap64, maxLen, List.length_map, List.length_append, List.length_cons, List.length_nil, Int.toNat_natCast] at *; omega)))⟩ ?_ | refine And.intro (roomN (by exact rfl) (by (first | omega | (simp only [wrap64, maxLen, List.length_map, List.length_append, List.length_cons, List.length_nil, Int.toNat_natCast] at *; omega)))) ?_ | exact trivial | exact rfl | refine Exists.intro _ (And.intro rfl ?_) | refine' cut1 _ ?_ ?_ | refine And.intro (deep_ag (by exact rfl) (by exact rfl)) ?_ | refine And.intro (deep_ag2 (by repeat' first | exact trivial | refine And.intro (by exact rfl) ?_)) ?_ | refine And.intro (deep_sl (by exact rfl) (by first | exact (List.length_map _).symm | assumption | exact rfl | (simp; done))) ?_ | refine And.intro (deep_rows (by intro x hx; repeat' first | exact trivial | refine And.intro (by exact rfl) ?_)) ?_ | refine And.intro (by exact rfl) ?_ | refine And.intro (Or.inl (by exact rfl)) ?_ | refine' Or.inl (Exists.intro _ (And.intro ?_ (Exists.intro _ (And.intro (hz) (And.intro rfl ?_))))) | refine And.intro (show ByteArray.size _ + ByteArray.size _ ≤ _ from by (first | omega | (simp only [size_mk, size_add, List.size_toArray, List.length_cons, List.length_nil, maxLen] at *; omega))) ?_ | refine Exists.intro _ (And.intro (by with_unfolding_all exact rfl) ?_) | refine And.intro (by decide +kernel) ?_ | refine Exists.intro _ (And.intro (at_map (by (first | omega | (simp only [wrap64, maxLen, List.length_map, List.length_append, List.length_cons, List.length_nil, Int.toNat_natCast] at *; omega)))) ?_) | (refine wrap_id' ?_; (first | omega | (simp only [wrap64, maxLen, List.length_map, List.length_append, List.length_cons, List.length_nil, Int.toNat_natCast] at *; omega))) | refine And.intro ?_ ?_ | fail
    all_goals exact back_k rfl
  · obtain ⟨l1, l2, l3, l4⟩ := szNet_le n 1048576 (by omega) (by omega)
    have hg : ∀ s ∈ n.grams, s.size ≤ 1048576 := fun s hs => by have := l4 s hs; omega
    have c1 := ro_specDelivered n hn hg
    have c2 := impl_Delivered n hn hg
    have hB := delivered_len n hg
    generalize delivered n = B at *
    have m2 := laws_markRecS B (by omega) 1 (by omega) (by omega)
    have a2 : B.length ≤ 9223372036854775807 := by omega
    refine RO_of Cf_ok ?_
    repeat' first | refine And.intro rfl ?_ | (refine And.intro (fun h => ?_) (fun h => ?_) <;> (try simp only [decide_eq_true_eq, decide_eq_false_iff_not, Bool.not_eq_true', Bool.not_eq_false', Bool.and_eq_true, Bool.or_eq_true, Bool.not_eq_eq_eq_not, Bool.not_true, Bool.not_false, beq_iff_eq, bne_iff_ne, beq_eq_false_iff_ne, bne_eq_false_iff_eq, Nat.not_lt, Int.not_lt, Int.not_le, wrap_byteAt, List.length_map, eqB_Row, eqB_Op, eqB_Rec, toList_inj, toList_nil, ne_eq, Int.toNat_natCast] at h) <;> (try simp only [wrap64] at h) <;> (try (exfalso; first | (cases h; done) | exact h trivial | exact h rfl | omega))) | refine And.intro ⟨by (first | omega | (simp only [wrap64, maxLen, List.length_map, List.length_append, List.length_cons, List.length_nil, Int.toNat_natCast] at *; omega)), by (first | omega | (simp only [wrap64, maxLen, List.length_map, List.length_append, List.length_cons, List.length_nil, Int.toNat_natCast] at *; omega))⟩ ?_ | refine And.intro (show (_ : Int) ≠ 0 by decide) ?_ | refine And.intro ⟨by (first | omega | (simp only [wrap64, maxLen, List.length_map, List.length_append, List.length_cons, List.length_nil, Int.toNat_natCast] at *; omega)), by (first | omega | (simp only [wrap64, maxLen, List.length_map, List.length_append, List.length_cons, List.length_nil, Int.toNat_natCast] at *; omega)), room (by exact rfl) (by (first | omega | (simp only [wrap64, maxLen, List.length_map, List.length_append, List.length_cons, List.length_nil, Int.toNat_natCast] at *; omega))) (by (first | omega | (simp only [wrap64, maxLen, List.length_map, List.length_append, List.length_cons, List.length_nil, Int.toNat_natCast] at *; omega)))⟩ ?_ | refine And.intro (roomN (by exact rfl) (by (first | omega | (simp only [wrap64, maxLen, List.length_map, List.length_append, List.length_cons, List.length_nil, Int.toNat_natCast] at *; omega)))) ?_ | exact trivial | exact rfl | refine Exists.intro _ (And.intro rfl ?_) | refine' cut1 _ ?_ ?_ | refine And.intro (deep_ag (by exact rfl) (by exact rfl)) ?_ | refine And.intro (deep_ag2 (by repeat' first | exact trivial | refine And.intro (by exact rfl) ?_)) ?_ | refine And.intro (deep_sl (by exact rfl) (by first | exact (List.length_map _).symm | assumption | exact rfl | (simp; done))) ?_ | refine And.intro (deep_rows (by intro x hx; repeat' first | exact trivial | refine And.intro (by exact rfl) ?_)) ?_ | refine And.intro (by exact rfl) ?_ | refine And.intro (Or.inl (by exact rfl)) ?_ | refine' Or.inl (Exists.intro _ (And.intro ?_ (Exists.intro _ (And.intro (hz) (And.intro rfl ?_))))) | (have _q := mk2; refine' Or.inl (Exists.intro _ (And.intro ?_ (Exists.intro _ (And.intro (ro_toNet n (by omega) (by omega) (by omega)) (And.intro rfl ?_)))))) | (have _q := mk1; refine' Or.inr (Or.inl (And.intro rfl (Exists.intro _ (And.intro ?_ (Exists.intro _ (Exists.intro _ (And.intro (fn_toNet n (by omega) (by omega) (by omega)) (And.intro rfl ?_)))))))) <;> have mk2 : True := trivial) | (refine' Or.inl (Exists.intro _ (And.intro ?_ (Exists.intro _ (And.intro (ro_toNet n (by omega) (by omega) (by omega)) (And.intro rfl ?_))))) <;> have mk1 : True := trivial) | refine' Or.inl (Exists.intro _ (And.intro ?_ (Exists.intro _ (And.intro (c1) (And.intro rfl ?_))))) | (refine' Or.inl (Exists.intro _ (And.intro ?_ (Exists.intro _ (And.intro (laws_eqNet n n hn hn) (And.intro rfl ?_))))); focus (refine And.intro (deep_net2 (n := n) (i := 0) rfl rfl rfl rfl) (And.intro (deep_ag2 ?_) trivial); repeat' first | exact trivial | refine And.intro (by exact rfl) ?_)) | (refine' Or.inr (Or.inl (And.intro rfl (Exists.intro _ (And.intro ?_ (Exists.intro _ (Exists.intro _ (And.intro (c2) (And.intro rfl ?_)))))))); focus (exact And.intro (deep_net2 (n := n) (i := 0) rfl rfl rfl rfl) trivial)) | refine' Or.inr (Or.inl (And.intro rfl (Exists.intro _ (And.intro ?_ (Exists.intro _ (Exists.intro _ (And.intro (c2) (And.intro rfl ?_)))))))) | refine' Or.inl (Exists.intro _ (And.intro ?_ (Exists.intro _ (And.intro (laws_eqRecS _ _ _ _) (And.intro rfl ?_))))) | assumption | refine' Or.inr (Or.inr (Or.inl (And.intro rfl (And.intro rfl (Exists.intro _ (Exists.intro _ (And.intro (mark4b n.grams n.sends n.flushes n.picks (by omega) (by omega) (by omega) _) ?_))))))) | refine' Or.inr (Or.inr (Or.inl (And.intro rfl (And.intro rfl (Exists.intro _ (Exists.intro _ (And.intro (Fn_at1 3 m2 rfl rfl rfl rfl rfl rfl) ?_))))))) | refine' Or.inl (Exists.intro _ (And.intro ?_ (Exists.intro _ (And.intro (laws_heldRecS 1 (by omega) (by omega) B.length (by omega)) (And.intro rfl ?_))))) | refine And.intro (show ByteArray.size _ + ByteArray.size _ ≤ _ from by (first | omega | (simp only [size_mk, size_add, List.size_toArray, List.length_cons, List.length_nil, maxLen] at *; omega))) ?_ | refine Exists.intro _ (And.intro (by with_unfolding_all exact rfl) ?_) | refine And.intro (by decide +kernel) ?_ | refine Exists.intro _ (And.intro (at_map (by (first | omega | (simp only [wrap64, maxLen, List.length_map, List.length_append, List.length_cons, List.length_nil, Int.toNat_natCast] at *; omega)))) ?_) | (refine wrap_id' ?_; (first | omega | (simp only [wrap64, maxLen, List.length_map, List.length_append, List.length_cons, List.length_nil, Int.toNat_natCast] at *; omega))) | refine And.intro ?_ ?_ | fail
    all_goals first | exact back_k rfl

end Go.Proofs.YtlcodlnldcidoaaDoor.Ev
