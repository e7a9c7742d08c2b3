/- Contracts: what the functions of this part return, for arguments as each contract says. -/
import Derived.Test.YtmblcloikeobdaaEvD
import Derived.Test.YtmblcloikeobdaaEvTab
import Derived.Test.YtmblcloikeobdaaSTy
import Derived.Test.YtmblcloikeobdaaSKb
import Derived.Test.YtmblcloikeobdaaSLb
import Derived.Test.YtmblcloikeobdaaSRw
import Derived.Test.YtmblcloikeobdaaSFr
import Derived.Test.YtmblcloikeobdaaSMk
import Derived.Test.YtmblcloikeobdaaSTl
import Derived.Test.YtmblcloikeobdaaSDh
import Derived.Test.YtmblcloikeobdaaEvE
set_option linter.constructorNameAsVariable false
set_option linter.unusedVariables false
set_option linter.unusedSimpArgs false
set_option linter.unusedVariables false
set_option maxHeartbeats 4000000
set_option maxRecDepth 20000
set_option linter.unusedSimpArgs false
set_option linter.constructorNameAsVariable false
namespace Go.Proofs.Ytmblcloikeobdaa.Ev
open Go Go.Proofs
attribute [local irreducible] RO Fn IntKind.wrap TriL
/- slices.Insert of one row -/
theorem rows_at {hp : Hp} {id n wd : Nat} {rows : List (List AV)} (h : at? hp id = some (some ⟨wd, true, rows⟩)) (hn : n = rows.length) : rowsR hp true wd rows (.sl id 0 n) := by
  simp only [rowsR, h]; exact ⟨trivial, trivial, cut_full _ hn⟩
theorem cut_take {α : Type} : ∀ (l : List α) {n : Nat}, n ≤ l.length → cut n 0 l = some (l.take n)
  | _, 0, _ => by simp [cut]
  | [], n + 1, h => by simp at h
  | x :: l, n + 1, h => by
    simp only [cut]
    rw [cut_take l (by simpa using h)]
    rfl
theorem cut_drop {α : Type} : ∀ (l : List α) {n o : Nat}, o + n = l.length → cut n o l = some (l.drop o)
  | [], 0, o, h => by simp [cut]
  | x :: l, 0, o, h => by rw [List.drop_of_length_le (by omega)]; rfl
  | [], n + 1, o, h => by simp at h
  | x :: l, n + 1, 0, h => by rw [cut_full (x :: l) (by simpa using h)]; rfl
  | x :: l, n + 1, o + 1, h => by
    simp only [cut]
    exact cut_drop l (by simp at h; omega)
theorem rows_take {hp : Hp} {id n wd cap : Nat} {rows : List (List AV)} (h : at? hp id = some (some ⟨wd, true, rows⟩)) (hn : n ≤ rows.length) : rowsR hp true wd (rows.take n) (.sc id 0 n cap) := by
  simp only [rowsR, h]; exact ⟨trivial, trivial, cut_take _ hn⟩
theorem rows_drop {hp : Hp} {id i n wd cap : Nat} {rows : List (List AV)} (h : at? hp id = some (some ⟨wd, true, rows⟩)) (hn : i + n = rows.length) : rowsR hp true wd (rows.drop i) (.sc id i n cap) := by
  simp only [rowsR, h]; exact ⟨trivial, trivial, cut_drop _ hn⟩
theorem pre_sc {hp : Hp} {id i m wd len cap : Nat} {rows : List (List AV)} (h : at? hp id = some (some ⟨wd, true, rows⟩)) (hn : i + min len m = rows.length) : preR hp true wd len (rows.drop i) (.sc id i m cap) := by
  simp only [preR, h]; exact ⟨trivial, trivial, cut_drop _ hn⟩
theorem pre_one {hp : Hp} {id wd len : Nat} {x : List AV} (h : at? hp id = some (some ⟨wd, true, [x]⟩)) (hl : 1 ≤ len) : preR hp true wd len [x] (.sl id 0 1) := by
  refine ⟨[x], rows_at h rfl, ?_⟩
  rw [List.length_cons, List.length_nil, show min len (0 + 1) = 1 by omega]; rfl
structure InsQ (H : Hp) (id n : Nat) (new : List (List AV)) (r : AV) (hp : Hp) : Prop where
  ex : ∃ id', r = .sl id' 0 (n + 1) ∧ at? hp id' = some (some ⟨10, true, new⟩) ∧ (id' = id ∨ H.length ≤ id')
  len : H.length ≤ hp.length
  keep : ∀ j, j < H.length → j ≠ id → at? hp j = at? H j
theorem ins_app {H : Hp} {id n : Nat} {rows : List (List AV)} {x : List AV} (hn : n = rows.length) : InsQ H id n (rows ++ [x]) (.sl (upd H id none).length 0 (rows.length + [x].length)) (upd H id none ++ [some ⟨10, true, rows ++ [x]⟩]) := by
  have hl : (upd H id none).length = H.length := by rw [upd_eq, List.length_set]
  refine ⟨⟨(upd H id none).length, by rw [hn]; rfl, at_appE, Or.inr (by rw [hl]; exact Nat.le_refl _)⟩, by rw [List.length_append, hl]; omega, fun j hj hne => ?_⟩
  rw [at_appL (by rw [hl]; exact hj), at_updN (Ne.symm hne)]
theorem ins_end (H : Hp) (id n : Nat) (rows : List (List AV)) (x : List AV) (id2 : Nat) (hat : at? H id = some (some ⟨10, true, rows⟩)) (hn : n = rows.length) (hat2 : at? H id2 = some (some ⟨10, true, [x]⟩)) (hb : n ≤ 2000000) :
    Fx Cf Try.prog 28 [.sl id 0 n, .i .i64 n, .sl id2 0 1] H (InsQ H id n (rows ++ [x])) := by
  refine Fx_of Cf_ok ?_
  repeat' first | refine And.intro rfl ?_ | (refine And.intro (fun h => ?_) (fun h => ?_) <;> (try simp only [decide_eq_true_eq, decide_eq_false_iff_not, Bool.not_eq_true', Bool.not_eq_false', Bool.and_eq_true, Bool.or_eq_true, Bool.not_eq_eq_eq_not, Bool.not_true, Bool.not_false, beq_iff_eq, bne_iff_ne, beq_eq_false_iff_ne, bne_eq_false_iff_eq, Nat.not_lt, Int.not_lt, Int.not_le, wrap_byteAt, List.length_map, eqB_Row, eqB_Op, eqB_Rec, toList_inj, toList_nil, ne_eq, Int.toNat_natCast] at h) <;> (try simp only [wrap64] at h) <;> (try (exfalso; first | exact absurd h Bool.false_ne_true | exact absurd h.symm Bool.false_ne_true | exact h trivial | exact h rfl | omega))) | refine And.intro ⟨by (first | omega | (simp only [wrap64, maxLen, List.length_map, List.length_append, List.length_cons, List.length_nil, Int.toNat_natCast] at *; omega)), by (first | omega | (simp only [wrap64, maxLen, List.length_map, List.length_append, List.length_cons, List.length_nil, Int.toNat_natCast] at *; omega))⟩ ?_ | refine And.intro (show (_ : Int) ≠ 0 by decide) ?_ | refine And.intro ⟨by (first | omega | (simp only [wrap64, maxLen, List.length_map, List.length_append, List.length_cons, List.length_nil, Int.toNat_natCast] at *; omega)), by (first | omega | (simp only [wrap64, maxLen, List.length_map, List.length_append, List.length_cons, List.length_nil, Int.toNat_natCast] at *; omega)), room (by exact rfl) (by (first | omega | (simp only [wrap64, maxLen, List.length_map, List.length_append, List.length_cons, List.length_nil, Int.toNat_natCast] at *; omega))) (by (first | omega | (simp only [wrap64, maxLen, List.length_map, List.length_append, List.length_cons, List.length_nil, Int.toNat_natCast] at *; omega)))⟩ ?_ | refine And.intro (roomN (by exact rfl) (by (first | omega | (simp only [wrap64, maxLen, List.length_map, List.length_append, List.length_cons, List.length_nil, Int.toNat_natCast] at *; omega)))) ?_ | exact trivial | exact rfl | refine Exists.intro _ (And.intro rfl ?_) | refine' cut1 _ ?_ ?_ | refine And.intro (deep_ag (by exact rfl) (by exact rfl)) ?_ | refine And.intro (deep_ag2 (by repeat' first | exact trivial | refine And.intro (by exact rfl) ?_)) ?_ | refine And.intro (deep_sl (by exact rfl) (by first | exact (List.length_map _).symm | assumption | exact rfl | (simp; done))) ?_ | refine And.intro (deep_rows (by intro x hx; repeat' first | exact trivial | refine And.intro (by exact rfl) ?_)) ?_ | refine And.intro (by exact rfl) ?_ | refine And.intro (Or.inl (by exact rfl)) ?_ | refine And.intro (wd_at hat rfl) ?_ | refine' Exists.intro _ (Exists.intro _ (And.intro (rows_at hat hn) (And.intro (rows_at hat2 rfl) ?_))) | refine updK_mk ?_ | refine nk_mk ?_ | refine flH_mk ?_ | refine fl_mk ?_ | refine And.intro (show ByteArray.size _ + ByteArray.size _ ≤ _ from by (first | omega | (simp only [size_mk, size_add, List.size_toArray, List.length_cons, List.length_nil, maxLen] at *; omega))) ?_ | refine Exists.intro _ (And.intro (by with_unfolding_all exact rfl) ?_) | refine And.intro (by decide +kernel) ?_ | refine Exists.intro _ (And.intro (at_map (by (first | omega | (simp only [wrap64, maxLen, List.length_map, List.length_append, List.length_cons, List.length_nil, Int.toNat_natCast] at *; omega)))) ?_) | (refine wrap_id' ?_; (first | omega | (simp only [wrap64, maxLen, List.length_map, List.length_append, List.length_cons, List.length_nil, Int.toNat_natCast] at *; omega))) | refine And.intro ?_ ?_ | fail
  all_goals first
    | exact ins_app hn
   
theorem ins_rows {rows : List (List AV)} {x : List AV} {i : Nat} (hi : i < rows.length) (z : List (List AV)) (hz : z.length = rows.length + 1 - i) : setRows (setRows (rows.take i ++ z) i [x]) (i + 1) (rows.drop i) = rows.take i ++ [x] ++ rows.drop i := by
  have h1 : (rows.take i).length = i := by rw [List.length_take]; omega
  have h2 : (rows.drop i).length = rows.length - i := List.length_drop
  have e1 : setRows (rows.take i ++ z) i [x] = rows.take i ++ [x] ++ z.drop 1 := by
    rw [setRows, List.take_left' h1, List.drop_append, h1, List.drop_of_length_le (by simp; omega)]
    simp
  have h3 : (rows.take i ++ [x]).length = i + 1 := by rw [List.length_append, h1]; rfl
  rw [e1, setRows, List.take_left' h3, List.drop_of_length_le (l := rows.take i ++ [x] ++ z.drop 1) (by rw [List.length_append, h3, List.length_drop, h2]; omega), List.append_nil]
theorem ins_rows2 {rows : List (List AV)} {x : List AV} {i : Nat} (hi : i < rows.length) : setRows (setRows rows (i + 1) (rows.drop i)) i [x] = rows.take i ++ [x] ++ rows.drop i := by
  have h2 : (rows.drop i).length = rows.length - i := List.length_drop
  have h1 : (rows.take i).length = i := by rw [List.length_take]; omega
  have e1 : setRows rows (i + 1) (rows.drop i) = rows.take (i + 1) ++ rows.drop i := by
    rw [setRows, List.drop_of_length_le (l := rows) (i := i + 1 + (rows.drop i).length) (by rw [h2]; omega), List.append_nil]
  have h4 : rows.take (i + 1) = rows.take i ++ [rows[i]] := List.take_succ_eq_append_getElem hi
  have h3 : (rows.take i ++ [rows[i]]).length = i + [x].length := by rw [List.length_append, h1]; rfl
  rw [e1, h4, setRows, List.drop_left' h3, List.append_assoc (rows.take i), List.take_left' h1]
theorem ins_rows' {rows : List (List AV)} {x : List AV} {i L J M : Nat} (hi : i < rows.length) (z : List (List AV)) (hz : z.length = rows.length + 1 - i) (hL : 1 ≤ L) (hJ : J = i + 1) (hM : rows.length - i ≤ M) :
    setRows (setRows (rows.take i ++ z) i ([x].take (min L [x].length))) J ((rows.drop i).take (min M (rows.drop i).length)) = rows.take i ++ [x] ++ rows.drop i := by
  have h2 : (rows.drop i).length = rows.length - i := List.length_drop
  rw [show min L [x].length = 1 from by simp; omega, List.take_of_length_le (l := rows.drop i) (by omega), hJ]
  exact ins_rows hi z hz
theorem ins_fin {H : Hp} {id n m : Nat} {new : List (List AV)} {A B D : Option Ob} (hm : m = n + 1) (hD : D = some ⟨10, true, new⟩) : InsQ H id n new (asSl (.sl H.length 0 m)) (upd (upd (H ++ [A]) H.length B) H.length D) := by
  subst hm; subst hD
  have e : (upd (upd (H ++ [A]) H.length B) H.length (some ⟨10, true, new⟩)).length = H.length + 1 := by
    rw [upd_eq, upd_eq, List.length_set, List.length_set, List.length_append]; rfl
  refine ⟨⟨H.length, rfl, at_updS (by rw [upd_eq, List.length_set, List.length_append]; simp), Or.inr (Nat.le_refl _)⟩, by omega, fun j hj hne => ?_⟩
  rw [at_updN (by omega), at_updN (by omega), at_appL hj]
theorem appZ_mk {C : Cfg} {el id lo len cap k : Nat} {n : Int} {e : List AV} {bx : List (Option (List AV))} {hp : Hp} {K : AV → St → Prop} {old : List (List AV)} (hold : rowsR hp (allSc (tze C el)) (tsz C el) old (.sc id lo len cap)) (hk : n = (k : Int)) (h1 : 0 < k) (h2 : cap < len + k)
    (h3 : len + k ≤ 4000000) (hby : tby C el ≤ 1000) (q : K (.sl hp.length 0 (len + k)) ⟨e, bx, hp ++ [some ⟨tsz C el, allSc (tze C el), old ++ List.replicate k (tze C el)⟩]⟩) : appZ C el id lo len cap n ⟨e, bx, hp⟩ K := by
  subst hk
  refine ⟨old, hold, ⟨by omega, by omega, ?_⟩, ?_⟩
  · have : (len + k) * tby C el ≤ 4000000 * 1000 := Nat.mul_le_mul h3 hby
    have e9 : (((len + k) * tby C el : Nat) : Int) = ((len : Int) + (k : Int)) * (tby C el : Nat) := by rw [Int.natCast_mul, Int.natCast_add]
    rw [← e9]
    omega
  · simp only [pushK, fl_eq, flH_eq, nk_eq, Int.toNat_natCast]
    exact q
theorem copy_mk {F : Bool} {W : Nat} {e : List AV} {bx : List (Option (List AV))} {hp : Hp} {id lo len : Nat} {K : St → Prop} {ob : Ob} {new : List (List AV)} (h : at? hp id = some (some ob)) (h1 : ob.fl = F) (h2 : ob.wd = W) (h3 : lo + len ≤ ob.rows.length)
    (q : K ⟨e, bx, upd hp id (some ⟨ob.wd, ob.fl, setRows ob.rows lo (new.take (min len new.length))⟩)⟩) : (match at? (St.mk e bx hp).hp id with
        | some (some ob) => ob.fl = F ∧ ob.wd = W ∧ lo + len ≤ ob.rows.length ∧
          setK (St.mk e bx hp) id (some ⟨ob.wd, ob.fl, setRows ob.rows lo (new.take (min len new.length))⟩) fun st => K st
        | _ => False) := by
  simp only [h, setK, updK_eq]
  exact ⟨h1, h2, h3, q⟩
theorem copyS_mk {C : Cfg} {el id lo len : Nat} {y : AV} {e : List AV} {bx : List (Option (List AV))} {hp : Hp} {K : AV → St → Prop} {ob : Ob} {new : List (List AV)} (hpre : preR hp (allSc (tze C el)) (tsz C el) len new y) (h : at? hp id = some (some ob)) (h1 : ob.fl = allSc (tze C el)) (h2 : ob.wd = tsz C el) (h3 : lo ≤ ob.rows.length)
    (q : K (.i .i64 (new.length : Nat)) ⟨e, bx, upd hp id (some ⟨ob.wd, ob.fl, setRows ob.rows lo new⟩)⟩) : copyS C el id lo len y ⟨e, bx, hp⟩ K := by
  refine ⟨new, hpre, ?_⟩
  simp only [h, setK, updK_eq]
  exact ⟨h1, h2, h3, q⟩
theorem ins_grow (H : Hp) (id n : Nat) (rows : List (List AV)) (x : List AV) (i id2 : Nat) (hat : at? H id = some (some ⟨10, true, rows⟩)) (hn : n = rows.length) (hi : i < n) (hat2 : at? H id2 = some (some ⟨10, true, [x]⟩)) (hne : id2 ≠ id) (hb : n ≤ 2000000) (cap : Nat) (hc : n ≤ cap) (hg : cap < n + 1) :
    Fx Cf Try.prog 28 [.sc id 0 n cap, .i .i64 i, .sl id2 0 1] H (fun r hp => InsQ H id n (rows.take i ++ [x] ++ rows.drop i) (asSl r) hp) := by
  have hw1 : IntKind.i64.wrap ((n : Int) + 1) = n + 1 := wrap_id (by omega) (by omega)
  have hw2 : IntKind.i64.wrap (IntKind.i64.wrap ((n : Int) + ((1 : Nat) : Int)) - i) = ((n + 1 - i : Nat) : Int) := by rw [wrap_id (n := (n : Int) + ((1 : Nat) : Int)) (by omega) (by omega), wrap_id (by omega) (by omega)]; omega
  have hwi : IntKind.i64.wrap ((i : Int) + ((1 : Nat) : Int)) = ((i + 1 : Nat) : Int) := by rw [wrap_id (by omega) (by omega)]; omega
  have hidl := at_lt hat
  have hid2l := at_lt hat2
  have hA1 : ∀ Y, at? (H ++ [Y]) id2 = some (some ⟨10, true, [x]⟩) := fun Y => by rw [at_appL hid2l]; exact hat2
  have hA2 : ∀ Y Z, at? (upd (H ++ [Y]) H.length Z) H.length = some Z := fun Y Z => at_updS (by rw [List.length_append]; simp)
  have hA3 : ∀ Y Z, at? (upd (H ++ [Y]) H.length Z) id = some (some ⟨10, true, rows⟩) := fun Y Z => by rw [at_updN (by omega), at_appL hidl]; exact hat
  refine Fx_of Cf_ok ?_
  repeat' first | refine And.intro rfl ?_ | (refine And.intro (fun h => ?_) (fun h => ?_) <;> (try simp only [decide_eq_true_eq, decide_eq_false_iff_not, Bool.not_eq_true', Bool.not_eq_false', Bool.and_eq_true, Bool.or_eq_true, Bool.not_eq_eq_eq_not, Bool.not_true, Bool.not_false, beq_iff_eq, bne_iff_ne, beq_eq_false_iff_ne, bne_eq_false_iff_eq, Nat.not_lt, Int.not_lt, Int.not_le, wrap_byteAt, List.length_map, eqB_Row, eqB_Op, eqB_Rec, toList_inj, toList_nil, ne_eq, Int.toNat_natCast] at h) <;> (try simp only [wrap64] at h) <;> (try (exfalso; first | exact absurd h Bool.false_ne_true | exact absurd h.symm Bool.false_ne_true | exact h trivial | exact h rfl | omega))) | refine And.intro ⟨by (first | omega | (simp only [wrap64, maxLen, List.length_map, List.length_append, List.length_cons, List.length_nil, Int.toNat_natCast] at *; omega)), by (first | omega | (simp only [wrap64, maxLen, List.length_map, List.length_append, List.length_cons, List.length_nil, Int.toNat_natCast] at *; omega))⟩ ?_ | refine And.intro (show (_ : Int) ≠ 0 by decide) ?_ | refine And.intro ⟨by (first | omega | (simp only [wrap64, maxLen, List.length_map, List.length_append, List.length_cons, List.length_nil, Int.toNat_natCast] at *; omega)), by (first | omega | (simp only [wrap64, maxLen, List.length_map, List.length_append, List.length_cons, List.length_nil, Int.toNat_natCast] at *; omega)), room (by exact rfl) (by (first | omega | (simp only [wrap64, maxLen, List.length_map, List.length_append, List.length_cons, List.length_nil, Int.toNat_natCast] at *; omega))) (by (first | omega | (simp only [wrap64, maxLen, List.length_map, List.length_append, List.length_cons, List.length_nil, Int.toNat_natCast] at *; omega)))⟩ ?_ | refine And.intro (roomN (by exact rfl) (by (first | omega | (simp only [wrap64, maxLen, List.length_map, List.length_append, List.length_cons, List.length_nil, Int.toNat_natCast] at *; omega)))) ?_ | exact trivial | exact rfl | refine Exists.intro _ (And.intro rfl ?_) | refine' cut1 _ ?_ ?_ | refine And.intro (deep_ag (by exact rfl) (by exact rfl)) ?_ | refine And.intro (deep_ag2 (by repeat' first | exact trivial | refine And.intro (by exact rfl) ?_)) ?_ | refine And.intro (deep_sl (by exact rfl) (by first | exact (List.length_map _).symm | assumption | exact rfl | (simp; done))) ?_ | refine And.intro (deep_rows (by intro x hx; repeat' first | exact trivial | refine And.intro (by exact rfl) ?_)) ?_ | refine And.intro (by exact rfl) ?_ | refine And.intro (Or.inl (by exact rfl)) ?_ | refine And.intro (wd_at hat rfl) ?_ | refine And.intro ⟨by (first | omega | (simp only [wrap64, maxLen, List.length_map, List.length_append, List.length_cons, List.length_nil, Int.toNat_natCast] at *; omega)), by (first | omega | (simp only [wrap64, maxLen, List.length_map, List.length_append, List.length_cons, List.length_nil, Int.toNat_natCast] at *; omega)), by (first | omega | (simp only [wrap64, maxLen, List.length_map, List.length_append, List.length_cons, List.length_nil, Int.toNat_natCast] at *; omega)), by (first | omega | (simp only [wrap64, maxLen, List.length_map, List.length_append, List.length_cons, List.length_nil, Int.toNat_natCast] at *; omega))⟩ ?_ | refine appZ_mk (k := n + 1 - i) (rows_take hat (show i ≤ rows.length by omega)) hw2 (by omega) (by omega) (by omega) (Nat.le_of_ble_eq_true (by exact rfl)) ?_ | refine And.intro (wd_at at_appE rfl) ?_ | refine Exists.intro _ (And.intro (rows_at (hA1 _) rfl) ?_) | (refine copy_mk at_appE ?_ ?_ ?_ ?_; exact rfl; exact rfl; (simp only [pl_eq, List.length_append, List.length_take, List.length_replicate]; omega)) | refine Exists.intro _ (And.intro (rows_drop (i := i) (hA3 _ _) (by omega)) ?_) | (refine copy_mk (hA2 _ _) ?_ ?_ ?_ ?_; exact rfl; exact rfl; (simp only [hwi, setRows, pl_eq, List.length_append, List.length_take, List.length_drop, List.length_replicate, List.length_cons, List.length_nil, Int.toNat_natCast]; omega)) | refine And.intro (wd_at (hA2 _ _) rfl) ?_ | refine And.intro (wd_at (hA3 _ _) rfl) ?_ | refine updK_mk ?_ | refine nk_mk ?_ | refine flH_mk ?_ | refine fl_mk ?_ | refine And.intro (show ByteArray.size _ + ByteArray.size _ ≤ _ from by (first | omega | (simp only [size_mk, size_add, List.size_toArray, List.length_cons, List.length_nil, maxLen] at *; omega))) ?_ | refine Exists.intro _ (And.intro (by with_unfolding_all exact rfl) ?_) | refine And.intro (by decide +kernel) ?_ | refine Exists.intro _ (And.intro (at_map (by (first | omega | (simp only [wrap64, maxLen, List.length_map, List.length_append, List.length_cons, List.length_nil, Int.toNat_natCast] at *; omega)))) ?_) | (refine wrap_id' ?_; (first | omega | (simp only [wrap64, maxLen, List.length_map, List.length_append, List.length_cons, List.length_nil, Int.toNat_natCast] at *; omega))) | refine And.intro ?_ ?_ | fail
  all_goals (refine ins_fin ?_ (congrArg (fun r => some (⟨10, true, r⟩ : Ob)) (ins_rows' (i := i) ?_ _ ?_ ?_ ?_ ?_)))
  all_goals first
    | omega
    | (simp only [pl_eq, hwi, List.length_replicate, Int.toNat_natCast]; omega)
   
theorem copyS_mk2 {C : Cfg} {el id lo len : Nat} {y : AV} {e : List AV} {bx : List (Option (List AV))} {hp : Hp} {K : AV → St → Prop} {rows new : List (List AV)} {wd : Nat} (hf : allSc (tze C el) = true) (hw : tsz C el = wd) (hpre : preR hp true wd len new y) (h : at? hp id = some (some ⟨wd, true, rows⟩)) (h3 : lo ≤ rows.length)
    (q : K (.i .i64 (new.length : Nat)) ⟨e, bx, upd hp id (some ⟨wd, true, setRows rows lo new⟩)⟩) : copyS C el id lo len y ⟨e, bx, hp⟩ K := by
  refine ⟨new, by rw [hf, hw]; exact hpre, ?_⟩
  simp only [h, setK, updK_eq]
  exact ⟨hf.symm, hw.symm, h3, q⟩
theorem ins_fin2 {H : Hp} {id n m lo cap : Nat} {new : List (List AV)} {A D : Option Ob} (hid : id < H.length) (hlo : lo = 0) (hm : m = n + 1) (hD : D = some ⟨10, true, new⟩) : InsQ H id n new (asSl (.sc id lo m cap)) (upd (upd H id A) id D) := by
  subst hm; subst hD; subst hlo
  have e : (upd (upd H id A) id (some ⟨10, true, new⟩)).length = H.length := by rw [upd_eq, upd_eq, List.length_set, List.length_set]
  refine ⟨⟨id, rfl, at_updS (by rw [upd_eq, List.length_set]; exact hid), Or.inl rfl⟩, by omega, fun j hj hne => ?_⟩
  rw [at_updN (Ne.symm hne), at_updN (Ne.symm hne)]
theorem ins_rows2' {rows : List (List AV)} {x : List AV} {i L J : Nat} (hi : i < rows.length) (hL : L = i + 1) (hJ : J = i) : setRows (setRows rows L (rows.drop i)) J [x] = rows.take i ++ [x] ++ rows.drop i := by
  subst hL; subst hJ; exact ins_rows2 hi
theorem ins_room (H : Hp) (id n : Nat) (rows : List (List AV)) (x : List AV) (i id2 : Nat) (hat : at? H id = some (some ⟨10, true, rows⟩)) (hn : n = rows.length) (hi : i < n) (hat2 : at? H id2 = some (some ⟨10, true, [x]⟩)) (hne : id2 ≠ id) (hb : n ≤ 2000000) (cap : Nat) (hc : n + 1 ≤ cap) :
    Fx Cf Try.prog 28 [.sc id 0 n cap, .i .i64 i, .sl id2 0 1] H (fun r hp => InsQ H id n (rows.take i ++ [x] ++ rows.drop i) (asSl r) hp) := by
  have hw1 : IntKind.i64.wrap ((n : Int) + ((1 : Nat) : Int)) = ((n + 1 : Nat) : Int) := by rw [wrap_id (by omega) (by omega)]; omega
  have hwi : IntKind.i64.wrap ((i : Int) + ((1 : Nat) : Int)) = ((i + 1 : Nat) : Int) := by rw [wrap_id (by omega) (by omega)]; omega
  have hidl := at_lt hat
  have hid2l := at_lt hat2
  have hB1 : ∀ Y, at? (upd H id Y) id2 = some (some ⟨10, true, [x]⟩) := fun Y => by rw [at_updN (Ne.symm hne)]; exact hat2
  have hB2 : ∀ Y, at? (upd H id Y) id = some Y := fun Y => at_updS hidl
  have cO : ∀ lo len cap', 0 < len → 0 < cap' → Fn Cf Try.prog 31 [.sl id2 0 1, .sc id lo len cap'] H (.k false) H := fun lo len cap' h1 h2 => ro_overlaps Cf_ok (wd := 10) (by decide +kernel) (by omega) hat hat2 hne rfl rfl h1 h2
  refine Fx_of Cf_ok ?_
  repeat' first | refine And.intro rfl ?_ | (refine And.intro (fun h => ?_) (fun h => ?_) <;> (try simp only [decide_eq_true_eq, decide_eq_false_iff_not, Bool.not_eq_true', Bool.not_eq_false', Bool.and_eq_true, Bool.or_eq_true, Bool.not_eq_eq_eq_not, Bool.not_true, Bool.not_false, beq_iff_eq, bne_iff_ne, beq_eq_false_iff_ne, bne_eq_false_iff_eq, Nat.not_lt, Int.not_lt, Int.not_le, wrap_byteAt, List.length_map, eqB_Row, eqB_Op, eqB_Rec, toList_inj, toList_nil, ne_eq, Int.toNat_natCast] at h) <;> (try simp only [wrap64] at h) <;> (try (exfalso; first | exact absurd h Bool.false_ne_true | exact absurd h.symm Bool.false_ne_true | exact h trivial | exact h rfl | omega))) | refine And.intro ⟨by (first | omega | (simp only [wrap64, maxLen, List.length_map, List.length_append, List.length_cons, List.length_nil, Int.toNat_natCast] at *; omega)), by (first | omega | (simp only [wrap64, maxLen, List.length_map, List.length_append, List.length_cons, List.length_nil, Int.toNat_natCast] at *; omega))⟩ ?_ | refine And.intro (show (_ : Int) ≠ 0 by decide) ?_ | refine And.intro ⟨by (first | omega | (simp only [wrap64, maxLen, List.length_map, List.length_append, List.length_cons, List.length_nil, Int.toNat_natCast] at *; omega)), by (first | omega | (simp only [wrap64, maxLen, List.length_map, List.length_append, List.length_cons, List.length_nil, Int.toNat_natCast] at *; omega)), room (by exact rfl) (by (first | omega | (simp only [wrap64, maxLen, List.length_map, List.length_append, List.length_cons, List.length_nil, Int.toNat_natCast] at *; omega))) (by (first | omega | (simp only [wrap64, maxLen, List.length_map, List.length_append, List.length_cons, List.length_nil, Int.toNat_natCast] at *; omega)))⟩ ?_ | refine And.intro (roomN (by exact rfl) (by (first | omega | (simp only [wrap64, maxLen, List.length_map, List.length_append, List.length_cons, List.length_nil, Int.toNat_natCast] at *; omega)))) ?_ | exact trivial | exact rfl | refine Exists.intro _ (And.intro rfl ?_) | refine' cut1 _ ?_ ?_ | refine And.intro (deep_ag (by exact rfl) (by exact rfl)) ?_ | refine And.intro (deep_ag2 (by repeat' first | exact trivial | refine And.intro (by exact rfl) ?_)) ?_ | refine And.intro (deep_sl (by exact rfl) (by first | exact (List.length_map _).symm | assumption | exact rfl | (simp; done))) ?_ | refine And.intro (deep_rows (by intro x hx; repeat' first | exact trivial | refine And.intro (by exact rfl) ?_)) ?_ | refine And.intro (by exact rfl) ?_ | refine And.intro (Or.inl (by exact rfl)) ?_ | refine And.intro (wd_at hat rfl) ?_ | refine And.intro ⟨by (first | omega | (simp only [wrap64, maxLen, List.length_map, List.length_append, List.length_cons, List.length_nil, Int.toNat_natCast] at *; omega)), by (first | omega | (simp only [wrap64, maxLen, List.length_map, List.length_append, List.length_cons, List.length_nil, Int.toNat_natCast] at *; omega)), by (first | omega | (simp only [wrap64, maxLen, List.length_map, List.length_append, List.length_cons, List.length_nil, Int.toNat_natCast] at *; omega)), by (first | omega | (simp only [wrap64, maxLen, List.length_map, List.length_append, List.length_cons, List.length_nil, Int.toNat_natCast] at *; omega))⟩ ?_ | refine' Or.inr (Or.inr (Or.inl (And.intro rfl (And.intro rfl (Exists.intro _ (Exists.intro _ (And.intro (cO _ _ _ (by simp only [hwi]; omega) (by simp only [hwi]; omega)) ?_))))))) | refine copyS_mk2 rfl rfl (pre_sc (i := i) hat (by simp only [hw1, hwi]; omega)) hat (by simp only [pl_eq, hwi]; omega) ?_ | refine copyS_mk2 rfl rfl (pre_one (hB1 _) (by simp only [hw1]; omega)) (hB2 _) (by simp only [pl_eq, setRows, List.length_append, List.length_take, List.length_drop, hwi, Int.toNat_natCast]; omega) ?_ | refine And.intro (wd_at (hB2 _) rfl) ?_ | refine updK_mk ?_ | refine nk_mk ?_ | refine flH_mk ?_ | refine fl_mk ?_ | refine And.intro (show ByteArray.size _ + ByteArray.size _ ≤ _ from by (first | omega | (simp only [size_mk, size_add, List.size_toArray, List.length_cons, List.length_nil, maxLen] at *; omega))) ?_ | refine Exists.intro _ (And.intro (by with_unfolding_all exact rfl) ?_) | refine And.intro (by decide +kernel) ?_ | refine Exists.intro _ (And.intro (at_map (by (first | omega | (simp only [wrap64, maxLen, List.length_map, List.length_append, List.length_cons, List.length_nil, Int.toNat_natCast] at *; omega)))) ?_) | (refine wrap_id' ?_; (first | omega | (simp only [wrap64, maxLen, List.length_map, List.length_append, List.length_cons, List.length_nil, Int.toNat_natCast] at *; omega))) | refine And.intro ?_ ?_ | fail
  all_goals (refine ins_fin2 hidl ?_ ?_ (congrArg (fun r => some (⟨10, true, r⟩ : Ob)) (ins_rows2' (i := i) ?_ ?_ ?_)))
  all_goals first
    | rfl
    | omega
    | (simp only [pl_eq, hw1, hwi, Int.toNat_natCast]; omega)
   
theorem slices_InsertRow (H : Hp) (id n : Nat) (rows : List (List AV)) (x : List AV) (i id2 : Nat) (hat : at? H id = some (some ⟨10, true, rows⟩)) (hn : n = rows.length) (hi : i ≤ n) (hat2 : at? H id2 = some (some ⟨10, true, [x]⟩)) (hne : id2 ≠ id) (hb : n ≤ 2000000) :
    Fx Cf Try.prog 28 [.sl id 0 n, .i .i64 i, .sl id2 0 1] H (InsQ H id n (rows.take i ++ [x] ++ rows.drop i)) := by
  by_cases h : i = n
  · have := ins_end H id n rows x id2 hat hn hat2 hb
    rw [h, List.take_of_length_le (by omega), List.drop_of_length_le (by omega), List.append_nil]
    exact this
  · refine Fx_cap (by omega) fun cap hc => Fx_asSl ?_
    by_cases hg : cap < n + 1
    · exact ins_grow H id n rows x i id2 hat hn (by omega) hat2 hne hb cap hc hg
    · exact ins_room H id n rows x i id2 hat hn (by omega) hat2 hne hb cap (by omega)

end Go.Proofs.Ytmblcloikeobdaa.Ev
