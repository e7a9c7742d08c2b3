/- The evaluator, fifth part: functions that are rules of the model, contracts that lie in the library, nil slices as empty objects, and slices of known capacity. -/
import Derived.Test.YtmblcloikeobdaaEvD
import Derived.Lib.Overlaps
set_option linter.constructorNameAsVariable false
set_option linter.unusedVariables false
set_option linter.unusedSimpArgs false
namespace Go.Proofs.Ytmblcloikeobdaa.Ev
open Go
set_option linter.unusedVariables false
set_option linter.unusedSimpArgs false
variable {C : Cfg} {P : Program}

/-! # The place of a byte, a rule of the model -/
/-- The place of the first byte 'c' of a list, counted from 'k' on; -1 where there is none. -/
def idxB (c : Int) : List UInt8 → Int → Int
  | [], _ => -1
  | x :: l, k => if (x.toNat : Int) = c then k else idxB c l (k + 1)
theorem idxB_cons (c : Int) (x : UInt8) (l : List UInt8) (k : Int) : idxB c (x :: l) k = if (x.toNat : Int) = c then k else idxB c l (k + 1) := rfl
theorem idxB_rng (c : Int) : ∀ (l : List UInt8) (k : Int), idxB c l k = -1 ∨ k ≤ idxB c l k ∧ idxB c l k < k + l.length
  | [], k => .inl rfl
  | x :: l, k => by
    rw [idxB_cons]
    split
    · right; simp only [List.length_cons]; omega
    · rcases idxB_rng c l (k + 1) with h | h
      · exact .inl h
      · right; simp only [List.length_cons]; omega
theorem idxB_add (c : Int) : ∀ (l : List UInt8) (k : Int), idxB c l k = if idxB c l 0 = -1 then -1 else idxB c l 0 + k
  | [], k => rfl
  | x :: l, k => by
    rw [idxB_cons, idxB_cons]
    by_cases h : (x.toNat : Int) = c
    · rw [if_pos h, if_pos h, if_neg (by omega)]; omega
    · rw [if_neg h, if_neg h, idxB_add c l (k + 1), idxB_add c l (0 + 1)]
      have := idxB_rng c l 0
      by_cases h2 : idxB c l 0 = -1
      · rw [if_pos h2, if_pos h2]; rfl
      · rw [if_neg h2, if_neg h2, if_neg (by omega)]; omega
theorem idx_range (s : ByteArray) (c : UInt8) : ∀ (n k : Nat), k + n = s.size →
    (match (List.range' k n).find? (fun i => s[i]! == c) with | some i => (i : Int) | none => -1) = idxB c.toNat ((bs s).drop k) k
  | 0, k, h => by
    rw [show k = s.size by omega, drop_size]; rfl
  | n + 1, k, h => by
    have hk : k < s.size := by omega
    rw [drop_bs hk, idxB_cons, List.range'_succ, List.find?_cons]
    have e : s[k]! = (bs s)[k]'(by rw [bs_len]; exact hk) := by
      rw [getElem!_pos s k hk]; rfl
    rw [e]
    have e2 : ((((bs s)[k]'(by rw [bs_len]; exact hk)).toNat : Int) = (c.toNat : Int)) ↔ ((bs s)[k]'(by rw [bs_len]; exact hk) == c) = true := by
      rw [beq_iff_eq, ← UInt8.toNat_inj]; omega
    have ih := idx_range s c n (k + 1) (by omega)
    by_cases h3 : ((bs s)[k]'(by rw [bs_len]; exact hk) == c) = true
    · rw [h3, if_pos (e2.2 h3)]
    · rw [if_neg (fun q => h3 (e2.1 q))]
      have h4 : ((bs s)[k]'(by rw [bs_len]; exact hk) == c) = false := by simpa using h3
      rw [h4, ← show ((k + 1 : Nat) : Int) = (k : Int) + 1 from rfl]
      exact ih
theorem rows_idx : Extern.allRows.lookup "internal/bytealg.IndexByteString" = some Extern.BytealgIndexByte.indexByte := by kernel_rfl
theorem find_idx {F : Func} (hn : F.name = "internal/bytealg.IndexByteString") : Extern.find F = some Extern.BytealgIndexByte.indexByte := by
  have h1 : (Extern.allGenericRows.lookup "internal/bytealg.IndexByteString").isNone = true := by decide +kernel
  have h2 : (Extern.allTypedRows.lookup "internal/bytealg.IndexByteString").isNone = true := by decide +kernel
  rw [Option.isNone_iff_eq_none] at h1 h2
  simp only [Extern.find, hn, h1, h2, rows_idx]
  rfl
theorem idx_run (s : ByteArray) (c : Int) : Extern.BytealgIndexByte.indexByte #[.string s, .int .u8 c] =
    (match (List.range s.size).find? fun i => s[i]! == c.toNat.toUInt8 with | some i => pure (goInt i) | none => pure (goInt (-1))) := by
  rfl
theorem ro_idx {f : Nat} (hx : (match P.funcs[f]? with | some F => decide (F.name = "internal/bytealg.IndexByteString") && (Extern.findNext F).isNone && F.body.isNone | none => false) = true)
    (s : ByteArray) (c : Int) (hc : 0 ≤ c) (hc' : c < 256) : RO C P f [.s s, .i .u8 c] (.i .i64 (idxB c (bs s) 0)) := by
  intro J w vals hG hI hv
  split at hx
  · rename_i F hF
    simp only [Bool.and_eq_true, decide_eq_true_eq, Option.isNone_iff_eq_none] at hx
    obtain ⟨⟨h1, h2⟩, h3⟩ := hx
    have h4 := find_idx h1
    match vals, hv with
    | [v1, v2], hv =>
      obtain ⟨hv1, hv2, _⟩ := hv
      simp only [VR] at hv1 hv2
      subst hv1; subst hv2
      right
      refine ⟨.int .i64 (idxB c (bs s) 0), w, ?_, .i .i64 (idxB c (bs s) 0), [], J, by simp [Back], Ext.refl J w, hI, rfl⟩
      have hr := idx_range s c.toNat.toUInt8 s.size 0 (by omega)
      rw [List.drop_zero] at hr
      have e : ((c.toNat.toUInt8.toNat : Nat) : Int) = c := by
        simp; omega
      rw [e] at hr
      rw [← List.range_eq_range'] at hr
      have hn' : ¬ F.name = "runtime.NumGoroutine" := by rw [h1]; decide
      simp [callFunc, hF, hn', h3, h2, h4, idx_run]
      have hr' : idxB c (bs s) 0 = (match List.find? (fun i => s[i]! == UInt8.ofNat c.toNat) (List.range s.size) with | some i => (i : Int) | none => -1) := hr.symm
      rw [hr']
      cases List.find? (fun i => s[i]! == UInt8.ofNat c.toNat) (List.range s.size) <;> rfl
  · cases hx
/-! # The count of a byte, a rule of the model -/
def cntB (c : Int) : List UInt8 → Nat
  | [] => 0
  | x :: l => (if (x.toNat : Int) = c then 1 else 0) + cntB c l
theorem cnt_loop (s : ByteArray) (c : UInt8) : ∀ (i j : Nat) (n : Int), i + j = s.size → 
    ByteArray.foldlM.loop (m := _root_.Id) (fun (n : Int) x => pure (if (x == c) = true then n + 1 else n)) s s.size (Nat.le_refl _) i j n = (pure (n + (cntB c.toNat ((bs s).drop j) : Nat)) : _root_.Id Int)
  | 0, j, n, h => by
    rw [ByteArray.foldlM.loop, dif_neg (by omega), show j = s.size by omega, drop_size]
    simp [cntB]
  | i + 1, j, n, h => by
    have hj : j < s.size := by omega
    rw [ByteArray.foldlM.loop, dif_pos hj]
    simp only [pure_bind]
    rw [cnt_loop s c i (j + 1) _ (by omega), drop_bs hj, cntB]
    have e : s[j] = (bs s)[j]'(by rw [bs_len]; exact hj) := rfl
    rw [e]
    by_cases h3 : (bs s)[j]'(by rw [bs_len]; exact hj) = c
    · rw [if_pos (by simp [h3]), if_pos (by rw [h3])]
      congr 1; omega
    · rw [if_neg (by simpa using h3), if_neg (fun q => h3 (by rw [← UInt8.toNat_inj]; omega))]
      congr 1; omega
theorem cnt_fold (s : ByteArray) (c : UInt8) : s.foldl (fun (n : Int) x => if (x == c) = true then n + 1 else n) 0 = (cntB c.toNat (bs s) : Nat) := by
  have := cnt_loop s c s.size 0 0 (by omega)
  rw [List.drop_zero, Int.zero_add] at this
  unfold ByteArray.foldl ByteArray.foldlM
  simp only [Nat.sub_zero, Nat.le_refl, dite_true]
  exact this
theorem rows_count : Extern.allRows.lookup "internal/bytealg.CountString" = some Extern.BytealgCount.count := by kernel_rfl
theorem find_count {F : Func} (hn : F.name = "internal/bytealg.CountString") : Extern.find F = some Extern.BytealgCount.count := by
  have h1 : (Extern.allGenericRows.lookup "internal/bytealg.CountString").isNone = true := by decide +kernel
  have h2 : (Extern.allTypedRows.lookup "internal/bytealg.CountString").isNone = true := by decide +kernel
  rw [Option.isNone_iff_eq_none] at h1 h2
  simp only [Extern.find, hn, h1, h2, rows_count]
  rfl
theorem count_run (s : ByteArray) (c : Int) : Extern.BytealgCount.count #[.string s, .int .u8 c] =
    pure (goInt (s.foldl (fun (n : Int) x => if (x == c.toNat.toUInt8) = true then n + 1 else n) 0)) := by
  rfl
theorem ro_count {f : Nat} (hx : (match P.funcs[f]? with | some F => decide (F.name = "internal/bytealg.CountString") && (Extern.findNext F).isNone && F.body.isNone | none => false) = true)
    (s : ByteArray) (c : Int) (hc : 0 ≤ c) (hc' : c < 256) : RO C P f [.s s, .i .u8 c] (.i .i64 (cntB c (bs s))) := by
  intro J w vals hG hI hv
  split at hx
  · rename_i F hF
    simp only [Bool.and_eq_true, decide_eq_true_eq, Option.isNone_iff_eq_none] at hx
    obtain ⟨⟨h1, h2⟩, h3⟩ := hx
    have h4 := find_count h1
    match vals, hv with
    | [v1, v2], hv =>
      obtain ⟨hv1, hv2, _⟩ := hv
      simp only [VR] at hv1 hv2
      subst hv1; subst hv2
      right
      refine ⟨.int .i64 (cntB c (bs s)), w, ?_, .i .i64 (cntB c (bs s)), [], J, by simp [Back], Ext.refl J w, hI, rfl⟩
      have hr := cnt_fold s c.toNat.toUInt8
      have e : ((c.toNat.toUInt8.toNat : Nat) : Int) = c := by
        simp; omega
      rw [e] at hr
      have hn' : ¬ F.name = "runtime.NumGoroutine" := by rw [h1]; decide
      have hq : Extern.BytealgCount.count #[.string s, .int .u8 c] = pure (goInt (cntB c (bs s) : Nat)) := by rw [count_run, hr]
      simp [callFunc, hF, hn', h3, h2, h4, hq]
      rfl
  · cases hx
end Go.Proofs.Ytmblcloikeobdaa.Ev

namespace Go.Proofs.Ytmblcloikeobdaa.Ev
open Go
set_option linter.unusedVariables false
set_option linter.unusedSimpArgs false
variable {J : Inj} {lb : Nat → Nat} {w : World} {a : Act} {n : Nat}

/-! # Nil slices as empty objects of one's own -/
def Nl (x x' : AV) : Prop := x' = x ∨ (x = .nl ∧ ∃ k, x' = .sl k 0 0)
theorem VR_nl {x x' : AV} {v : Value} (h : Nl x x') (hv : VR J w x v) : VR J w x' v := by
  rcases h with rfl | ⟨rfl, k, rfl⟩
  · exact hv
  · obtain ⟨a, rfl⟩ := hv
    exact ⟨a, 0, rfl, Nat.le_refl _, .inl rfl⟩
theorem EV_nl {x x' : AV} {v : Value} (h : Nl x x') (hv : EV J lb w x v) : EV J lb w x' v := by
  rcases h with rfl | ⟨rfl, k, rfl⟩
  · exact hv
  · exact VR_nl (.inr ⟨rfl, k, rfl⟩) hv
theorem VRcells_nl : ∀ (l l' : List AV) (blk o : Nat), All2 Nl l l' → VRcells J w l blk o → VRcells J w l' blk o
  | [], [], _, _, _, _ => trivial
  | x :: l, y :: l', blk, o, h, hv => ⟨by obtain ⟨v, h1, h2, h3⟩ := hv.1; exact ⟨v, h1, h2, VR_nl h.1 h3⟩, VRcells_nl l l' blk (o + 1) h.2 hv.2⟩
  | [], _ :: _, _, _, h, _ => h.elim
  | _ :: _, [], _, _, h, _ => h.elim
theorem All2_ln {α β : Type} {R : α → β → Prop} : ∀ {l : List α} {r : List β}, All2 R l r → l.length = r.length
  | [], [], _ => rfl
  | _ :: l, _ :: r, h => by simp [All2_ln h.2]
  | [], _ :: _, h => h.elim
  | _ :: _, [], h => h.elim
theorem VRrows_nl : ∀ (l l' : List (List AV)) (wd blk off : Nat), All2 (All2 Nl) l l' → VRrows J w l wd blk off → VRrows J w l' wd blk off
  | [], [], _, _, _, _, _ => trivial
  | x :: l, y :: l', wd, blk, o, h, hv => ⟨⟨(All2_ln h.1).symm.trans hv.1.1, VRcells_nl x y blk o h.1 hv.1.2⟩, VRrows_nl l l' wd blk _ h.2 hv.2⟩
  | [], _ :: _, _, _, _, h, _ => h.elim
  | _ :: _, [], _, _, _, h, _ => h.elim
def NlBx : Option (List AV) → Option (List AV) → Prop
  | none, none => True
  | some c, some c' => All2 Nl c c'
  | _, _ => False
def NlOb : Option Ob → Option Ob → Prop
  | none, none => True
  | some o, some o' => o'.wd = o.wd ∧ o'.fl = o.fl ∧ (o'.rows = o.rows ∨ (o.fl = false ∧ All2 (All2 Nl) o.rows o'.rows))
  | _, _ => False
theorem All2_get {α β : Type} {R : α → β → Prop} : ∀ {l : List α} {r : List β}, All2 R l r → ∀ (i : Nat) (y : β), r[i]? = some y → ∃ x, l[i]? = some x ∧ R x y
  | [], [], _, i, y, e => by simp at e
  | x :: l, z :: r, h, 0, y, e => by simp at e; subst e; exact ⟨x, by simp, h.1⟩
  | x :: l, z :: r, h, i + 1, y, e => by simp at e; obtain ⟨q, h1, h2⟩ := All2_get h.2 i y e; exact ⟨q, by simpa using h1, h2⟩
  | [], _ :: _, h, _, _, _ => h.elim
  | _ :: _, [], h, _, _, _ => h.elim
/-- Empty objects. -/
def Emp : Hp → Prop
  | [] => True
  | some ob :: l => ob.rows = [] ∧ Emp l
  | none :: _ => False
theorem Emp_get : ∀ {l : Hp}, Emp l → ∀ (i : Nat) (x : Option Ob), l[i]? = some x → ∃ ob : Ob, x = some ob ∧ ob.rows = []
  | [], _, i, x, e => by simp at e
  | some ob :: l, h, 0, x, e => by simp at e; subst e; exact ⟨ob, rfl, h.1⟩
  | some ob :: l, h, i + 1, x, e => by simp at e; exact Emp_get h.2 i x e
  | none :: _, h, _, _, _ => h.elim
theorem gh_nil {env env' : List AV} {bx bx' : List (Option (List AV))} {h h' e : Hp} (he : All2 Nl env env') (hb : All2 NlBx bx bx') (hh : All2 NlOb h h') (hx : Emp e) :
    GhS n ⟨env, bx, h⟩ ⟨env', bx', h' ++ e⟩ := by
  intro J lb w a R
  have hl : h.length = h'.length := All2_ln hh
  have hbx : ∀ s c', at? bx' s = some (some c') → ∃ c, at? bx s = some (some c) ∧ All2 Nl c c' := by
    intro s c' hc
    rw [at?_eq] at hc
    obtain ⟨x, h1, h2⟩ := All2_get hb s _ hc
    cases x with
    | none => exact h2.elim
    | some c => exact ⟨c, by rw [at?_eq]; exact h1, h2⟩
  have hob : ∀ id ob', at? (h' ++ e) id = some (some ob') → (id < h.length ∧ ∃ ob, at? h id = some (some ob) ∧ NlOb (some ob) (some ob')) ∨ (h.length ≤ id ∧ ob'.rows = []) := by
    intro id ob' hc
    rw [at?_eq] at hc
    by_cases hi : id < h.length
    · rw [List.getElem?_append_left (by omega)] at hc
      obtain ⟨x, h1, h2⟩ := All2_get hh id _ hc
      cases x with
      | none => exact h2.elim
      | some ob => exact .inl ⟨hi, ob, by rw [at?_eq]; exact h1, h2⟩
    · rw [List.getElem?_append_right (by omega)] at hc
      obtain ⟨ob, h1, h2⟩ := Emp_get hx _ _ hc
      injection h1 with h1; subst h1
      exact .inr ⟨by omega, h2⟩
  have hlive : ∀ id x, live (h' ++ e) id → J.m id = some x → live h id := by
    rintro id x ⟨ob', hl'⟩ hm
    rcases hob id ob' hl' with ⟨_, ob, h1, _⟩ | ⟨h1, _⟩
    · exact ⟨ob, h1⟩
    · have := R.inv.dom id x hm; exact absurd this (by simp only []; omega)
  refine ⟨J, Ext.refl_low _ _ _, ⟨⟨R.inv.bnd, R.inv.Fb, R.inv.Kb, ?_, ?_, ?_, R.inv.gl⟩, by have := All2_ln he; have := R.sz; simp only [] at *; omega, ?_, ?_, ?_, ?_, R.dfr⟩⟩
  · intro id ob' hid
    rcases hob id ob' hid with ⟨_, ob, h1, h2⟩ | ⟨h1, h2⟩
    · obtain ⟨g1, g2⟩ := R.inv.ob id ob h1
      obtain ⟨q1, q2, q3⟩ := h2
      rcases q3 with q3 | ⟨q3, q4⟩
      · refine ⟨(by rw [q2, q3]; exact g1), ?_⟩
        rw [q1, q3]; exact g2
      · refine ⟨(by rw [q2, q3]; intro h; cases h), ?_⟩
        rw [q1]
        cases hm : J.m id with
        | none =>
          rw [hm] at g2
          simp only [] at g2 ⊢
          rw [g2] at q4
          cases hr : ob'.rows with
          | nil => rfl
          | cons x l => rw [hr] at q4; exact q4.elim
        | some y =>
          obtain ⟨blk, base, wd⟩ := y
          rw [hm] at g2
          simp only [] at g2 ⊢
          obtain ⟨z1, z2, z3, z4, z5, z6⟩ := g2
          exact ⟨z1, z2, z3, z4, z5, VRrows_nl _ _ _ _ _ q4 z6⟩
    · refine ⟨fun _ => by rw [h2]; rfl, ?_⟩
      cases hm : J.m id with
      | none => exact h2
      | some y => have := R.inv.dom id y hm; exact absurd this (by simp only []; omega)
  · intro id id' x x' l1 l2 m1 m2 e1
    exact R.inv.inj id id' x x' (hlive _ _ l1 m1) (hlive _ _ l2 m2) m1 m2 e1
  · intro id x hm
    have := R.inv.dom id x hm
    simp only [List.length_append] at *
    omega
  · intro t ht
    have hle := All2_ln he
    simp only [] at ht hle
    have : t < env.length := by omega
    have hE := R.env t this
    simp only [nth_eq] at hE ⊢
    obtain ⟨x, h1, h2⟩ := All2_get he t (env'[t]) (List.getElem?_eq_getElem ht)
    rw [h1] at hE
    rw [List.getElem?_eq_getElem ht]
    exact EV_nl h2 hE
  · intro s c' hc
    obtain ⟨c, h1, h2⟩ := hbx s c' hc
    obtain ⟨b1, b2, b3, b4⟩ := R.box s c h1
    exact ⟨b1, b2, b3, VRcells_nl _ _ _ _ h2 b4⟩
  · rintro s s' ⟨c, hc⟩ ⟨c', hc'⟩ e1
    obtain ⟨c0, h0, _⟩ := hbx s c hc
    obtain ⟨c1, h1, _⟩ := hbx s' c' hc'
    exact R.binj s s' ⟨c0, h0⟩ ⟨c1, h1⟩ e1
  · rintro s id x ⟨c, hc⟩ hl' hm
    obtain ⟨c0, h0, _⟩ := hbx s c hc
    exact R.bobj s id x ⟨c0, h0⟩ (hlive _ _ hl' hm) hm
end Go.Proofs.Ytmblcloikeobdaa.Ev

namespace Go.Proofs.Ytmblcloikeobdaa.Ev
open Go
set_option linter.unusedVariables false
set_option linter.unusedSimpArgs false
variable {C : Cfg} {P : Program}

/-! # Slices of known capacity: into and out of a contract; whether two overlap -/
theorem Fx_cap {f id lo len : Nat} {rest : List AV} {hp : Hp} {Q : AV → Hp → Prop} (hlen : 0 < len) (h : ∀ cap, len ≤ cap → Fx C P f (.sc id lo len cap :: rest) hp Q) : Fx C P f (.sl id lo len :: rest) hp Q := by
  intro J w vals hG hI hv
  match vals, hv with
  | v :: vs, hv =>
    obtain ⟨⟨a, cap, rfl, hl, hc⟩, hv2⟩ := hv
    rcases hc with rfl | ⟨blk, base, wd, c, e, fz, hm, rfl, hh, hs⟩
    · omega
    · exact h cap hl J w _ hG hI ⟨⟨blk, base, wd, c, e, fz, hm, rfl, hl, hh, hs⟩, hv2⟩
/-- A result of known capacity told as a slice. -/
def asSl : AV → AV
  | .sc id lo len _ => .sl id lo len
  | v => v
theorem asSl_VR {J : Inj} {w : World} {v : Value} : ∀ (x : AV), VR J w x v → VR J w (asSl x) v
  | .sc _ _ _ _, h => sc_sl h
  | .u, h | .k _, h | .i _ _, h | .b _, h | .s _, h | .ag _, h | .tp _, h | .ro _ _ _ _, h | .rp _ _ _ _ _ _, h | .nl, h | .sl _ _ _, h | .pt _ _ _, h | .lp _ _, h | .np, h | .fn _ _, h => h
theorem Fx_asSl {f : Nat} {args : List AV} {hp : Hp} {Q : AV → Hp → Prop} (h : Fx C P f args hp fun r hp' => Q (asSl r) hp') : Fx C P f args hp Q := by
  intro J w vals hG hI hv
  refine (h J w vals hG hI hv).mono ?_
  rintro v w' ⟨r, hp', J', q, E, I, hr⟩
  exact ⟨asSl r, hp', J', q, E, I, asSl_VR r hr⟩
theorem lk_g : (Extern.allGenericRows.lookup "slices.overlaps").isNone = true := by decide +kernel
theorem lk_t : (Extern.allTypedRows.lookup "slices.overlaps") = some Extern.SlicesOverlaps.overlaps := by kernel_rfl
theorem find_ov {F : Func} (hn : F.origin = "slices.overlaps") (h1 : (Extern.allGenericRows.lookup F.name).isNone = true) (h2 : (Extern.allTypedRows.lookup F.name).isNone = true) (h3 : (Extern.allRows.lookup F.name).isNone = true) :
    Extern.find F = some (Extern.SlicesOverlaps.overlaps F.params F.resultTypes) := by
  have h4 := lk_g
  rw [Option.isNone_iff_eq_none] at h1 h2 h3 h4
  simp only [Extern.find, hn, h1, h2, h3, h4, lk_t]
  rfl
def ovOk (C : Cfg) (P : Program) (f wd : Nat) : Bool := match P.funcs[f]? with
  | some F => decide (F.origin = "slices.overlaps") && (Extern.allGenericRows.lookup F.name).isNone && (Extern.allTypedRows.lookup F.name).isNone && (Extern.allRows.lookup F.name).isNone &&
      (Extern.findNext F).isNone && F.body.isNone && !(F.name == "runtime.NumGoroutine") && F.params.size == 2 && F.params[0]! == F.params[1]! && F.resultTypes.size == 1 &&
      (match tyd C F.params[0]! with | .slice e => tsz C e == wd | _ => false)
  | none => false
theorem ro_overlaps (O : ProgOk C P) {f wd : Nat} (hx : ovOk C P f wd = true) (hwd : wd ≠ 0) {hp : Hp} {id id2 lo len cap : Nat} {ob ob2 : Ob} (ho : at? hp id = some (some ob)) (ho2 : at? hp id2 = some (some ob2)) (hne : id2 ≠ id)
    (hw1 : ob.wd = wd) (hw2 : ob2.wd = wd) (hlen : 0 < len) (hc : 0 < cap) :
    Fn C P f [.sl id2 0 1, .sc id lo len cap] hp (.k false) hp := by
  intro J w vals hG hI hv
  have T := O.ty
  unfold ovOk at hx
  split at hx
  · rename_i F hF
    simp only [Bool.and_eq_true, decide_eq_true_eq, Bool.not_eq_true'] at hx
    obtain ⟨⟨⟨⟨⟨⟨⟨⟨⟨⟨h1, h2⟩, h3⟩, h4⟩, h5⟩, h6⟩, h7⟩, h8⟩, h9⟩, h10⟩, h11⟩ := hx
    have hfind := find_ov h1 h2 h3 h4
    rw [Option.isNone_iff_eq_none] at h5
    obtain ⟨tS, hS⟩ : ∃ tS, F.params = #[tS, tS] := by
      have h8' : F.params.size = 2 := by simpa using h8
      have h9' : F.params[0]! = F.params[1]! := by simpa using h9
      refine ⟨F.params[0]!, ?_⟩
      apply Array.ext
      · simp [h8']
      · intro i q1 q2
        rcases (by omega : i = 0 ∨ i = 1) with rfl | rfl
        · simp [getElem!_pos, h8']
        · rw [h9']; simp [getElem!_pos, h8']
    obtain ⟨tR, hR⟩ : ∃ tR, F.resultTypes = #[tR] := by
      have h10' : F.resultTypes.size = 1 := by simpa using h10
      refine ⟨F.resultTypes[0]!, ?_⟩
      apply Array.ext
      · simp [h10']
      · intro i q1 q2
        have : i = 0 := by omega
        subst this
        simp [getElem!_pos, h10']
    rw [hS, hR] at hfind
    have h11' : ∃ e, tyd C tS = .slice e ∧ tsz C e = wd := by
      rw [hS] at h11
      simp only [show (#[tS, tS] : Array TypeId)[0]! = tS from rfl] at h11
      split at h11
      · rename_i e he
        exact ⟨e, he, by simpa using h11⟩
      · cases h11
    obtain ⟨e, he, hse⟩ := h11'
    have hu : P.underlying tS = some (.slice e) := by
      have hd := T.d tS
      rw [he] at hd; exact hd
    match vals, hv with
    | [v1, v2], hv =>
      obtain ⟨⟨a1, c1, rfl, hl1, hc1⟩, ⟨blk, base, wd', cc, e', fz, hm, rfl, hle, hh, hs⟩, _⟩ := hv
      rcases hc1 with rfl | ⟨blk1, base1, wd1, cc1, e1, fz1, hm1, rfl, hh1, hs1⟩
      · omega
      have hO := (hI.ob id ob ho).2
      rw [hm] at hO
      obtain ⟨rfl, _, _, _, hOw, _⟩ := hO
      have hOwd : ob.wd ≠ 0 := by rw [hw1]; exact hwd
      have hO1 := (hI.ob id2 ob2 ho2).2
      rw [hm1] at hO1
      obtain ⟨rfl, _, _, _, hOw1, _⟩ := hO1
      obtain ⟨_, _, _, _, hfr1⟩ := hOw1
      have hbne : blk1 ≠ blk := fun q => hne (hI.inj id2 id _ _ ⟨_, ho2⟩ ⟨_, ho⟩ hm1 hm q)
      right
      refine ⟨.bool false, w, ?_, J, Ext.refl J w, hI, rfl⟩
      rw [run_callFunc_extern hF h7 h6 h5 hfind]
      have hsz0 : cc1.size ≠ 0 := by
        have : 1 * ob2.wd ≤ (0 + c1) * ob2.wd := Nat.mul_le_mul_right _ (by omega)
        omega
      have hcc0 : cc.size ≠ 0 := by
        have : 1 * ob.wd ≤ (lo + cap) * ob.wd := Nat.mul_le_mul_right _ (by omega)
        have := hOwd
        omega
      have hz : ∀ w, (Go.sizeOf e).run P w = .ok (tsz C e) w := fun w => size_run T (by rw [hse]; exact hwd)
      rw [Lib.run_overlaps_apart w tS tR e hu (tsz C e) hz ⟨blk1, base1 + 0 * ob2.wd, none⟩ ⟨blk, base + lo * ob.wd, none⟩ 1 c1 len cap hbne e1 e' cc1.size cc.size (by simp [World.shape?, hh1]) (by simp [World.shape?, hh]) hcc0 (hfr1 _) (hfr1 _)]
      rfl
  · cases hx
end Go.Proofs.Ytmblcloikeobdaa.Ev
