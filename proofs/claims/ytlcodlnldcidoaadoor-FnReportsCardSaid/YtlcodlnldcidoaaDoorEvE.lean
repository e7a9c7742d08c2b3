/- The evaluator, fifth part: functions that are rules of the model, contracts that lie in the library, and nil slices as empty objects. -/
import Derived.Test.YtlcodlnldcidoaaDoorEvD
import Derived.Lib.LaidTab
import Derived.Sort.Grow
import Derived.Deep.Draws
set_option linter.constructorNameAsVariable false
set_option linter.unusedVariables false
set_option linter.unusedSimpArgs false
namespace Go.Proofs.YtlcodlnldcidoaaDoor.Ev
open Go
set_option linter.unusedVariables false
set_option linter.unusedSimpArgs false
variable {C : Cfg} {P : Program}

/-! # The place of a byte, a rule of the model -/
/-- The place of the first byte 'c' of a list, counted from 'k' on; -1 where there is none. -/
def idxB (c : Int) : List UInt8 → Int → Int
  | [], _ => -1
  | x :: l, k => if (x.toNat : Int) = c then k else idxB c l (k + 1)
theorem idxB_cons (c : Int) (x : UInt8) (l : List UInt8) (k : Int) : idxB c (x :: l) k = if (x.toNat : Int) = c then k else idxB c l (k + 1) := rfl
theorem idxB_rng (c : Int) : ∀ (l : List UInt8) (k : Int), idxB c l k = -1 ∨ k ≤ idxB c l k ∧ idxB c l k < k + l.length
  | [], k => .inl rfl
  | x :: l, k => by
    rw [idxB_cons]
    split
    · right; simp only [List.length_cons]; omega
    · rcases idxB_rng c l (k + 1) with h | h
      · exact .inl h
      · right; simp only [List.length_cons]; omega
theorem idxB_add (c : Int) : ∀ (l : List UInt8) (k : Int), idxB c l k = if idxB c l 0 = -1 then -1 else idxB c l 0 + k
  | [], k => rfl
  | x :: l, k => by
    rw [idxB_cons, idxB_cons]
    by_cases h : (x.toNat : Int) = c
    · rw [if_pos h, if_pos h, if_neg (by omega)]; omega
    · rw [if_neg h, if_neg h, idxB_add c l (k + 1), idxB_add c l (0 + 1)]
      have := idxB_rng c l 0
      by_cases h2 : idxB c l 0 = -1
      · rw [if_pos h2, if_pos h2]; rfl
      · rw [if_neg h2, if_neg h2, if_neg (by omega)]; omega
theorem idx_range (s : ByteArray) (c : UInt8) : ∀ (n k : Nat), k + n = s.size →
    (match (List.range' k n).find? (fun i => s[i]! == c) with | some i => (i : Int) | none => -1) = idxB c.toNat ((bs s).drop k) k
  | 0, k, h => by
    rw [show k = s.size by omega, drop_size]; rfl
  | n + 1, k, h => by
    have hk : k < s.size := by omega
    rw [drop_bs hk, idxB_cons, List.range'_succ, List.find?_cons]
    have e : s[k]! = (bs s)[k]'(by rw [bs_len]; exact hk) := by
      rw [getElem!_pos s k hk]; rfl
    rw [e]
    have e2 : ((((bs s)[k]'(by rw [bs_len]; exact hk)).toNat : Int) = (c.toNat : Int)) ↔ ((bs s)[k]'(by rw [bs_len]; exact hk) == c) = true := by
      rw [beq_iff_eq, ← UInt8.toNat_inj]; omega
    have ih := idx_range s c n (k + 1) (by omega)
    by_cases h3 : ((bs s)[k]'(by rw [bs_len]; exact hk) == c) = true
    · rw [h3, if_pos (e2.2 h3)]
    · rw [if_neg (fun q => h3 (e2.1 q))]
      have h4 : ((bs s)[k]'(by rw [bs_len]; exact hk) == c) = false := by simpa using h3
      rw [h4, ← show ((k + 1 : Nat) : Int) = (k : Int) + 1 from rfl]
      exact ih
theorem rows_idx : Extern.allRows.lookup "internal/bytealg.IndexByteString" = some Extern.BytealgIndexByte.indexByte := by kernel_rfl
theorem find_idx {F : Func} (hn : F.name = "internal/bytealg.IndexByteString") : Extern.find F = some Extern.BytealgIndexByte.indexByte := by
  have h1 : (Extern.allGenericRows.lookup "internal/bytealg.IndexByteString").isNone = true := by decide +kernel
  have h2 : (Extern.allTypedRows.lookup "internal/bytealg.IndexByteString").isNone = true := by decide +kernel
  rw [Option.isNone_iff_eq_none] at h1 h2
  simp only [Extern.find, hn, h1, h2, rows_idx]
  rfl
theorem idx_run (s : ByteArray) (c : Int) : Extern.BytealgIndexByte.indexByte #[.string s, .int .u8 c] =
    (match (List.range s.size).find? fun i => s[i]! == c.toNat.toUInt8 with | some i => pure (goInt i) | none => pure (goInt (-1))) := by
  rfl
theorem ro_idx {f : Nat} (hx : (match P.funcs[f]? with | some F => decide (F.name = "internal/bytealg.IndexByteString") && (Extern.findNext F).isNone && F.body.isNone | none => false) = true)
    (s : ByteArray) (c : Int) (hc : 0 ≤ c) (hc' : c < 256) : RO C P f [.s s, .i .u8 c] (.i .i64 (idxB c (bs s) 0)) := by
  intro J w vals hG hI hv
  split at hx
  · rename_i F hF
    simp only [Bool.and_eq_true, decide_eq_true_eq, Option.isNone_iff_eq_none] at hx
    obtain ⟨⟨h1, h2⟩, h3⟩ := hx
    have h4 := find_idx h1
    match vals, hv with
    | [v1, v2], hv =>
      obtain ⟨hv1, hv2, _⟩ := hv
      simp only [VR] at hv1 hv2
      subst hv1; subst hv2
      right
      refine ⟨.int .i64 (idxB c (bs s) 0), w, ?_, .i .i64 (idxB c (bs s) 0), [], J, by simp [Back], Ext.refl J w, hI, rfl⟩
      have hr := idx_range s c.toNat.toUInt8 s.size 0 (by omega)
      rw [List.drop_zero] at hr
      have e : ((c.toNat.toUInt8.toNat : Nat) : Int) = c := by
        simp; omega
      rw [e] at hr
      rw [← List.range_eq_range'] at hr
      have hn' : ¬ F.name = "runtime.NumGoroutine" := by rw [h1]; decide
      simp [callFunc, hF, hn', h3, h2, h4, idx_run]
      have hr' : idxB c (bs s) 0 = (match List.find? (fun i => s[i]! == UInt8.ofNat c.toNat) (List.range s.size) with | some i => (i : Int) | none => -1) := hr.symm
      rw [hr']
      cases List.find? (fun i => s[i]! == UInt8.ofNat c.toNat) (List.range s.size) <;> rfl
  · cases hx
/-! # The count of a byte, a rule of the model -/
def cntB (c : Int) : List UInt8 → Nat
  | [] => 0
  | x :: l => (if (x.toNat : Int) = c then 1 else 0) + cntB c l
theorem cnt_loop (s : ByteArray) (c : UInt8) : ∀ (i j : Nat) (n : Int), i + j = s.size → 
    ByteArray.foldlM.loop (m := _root_.Id) (fun (n : Int) x => pure (if (x == c) = true then n + 1 else n)) s s.size (Nat.le_refl _) i j n = (pure (n + (cntB c.toNat ((bs s).drop j) : Nat)) : _root_.Id Int)
  | 0, j, n, h => by
    rw [ByteArray.foldlM.loop, dif_neg (by omega), show j = s.size by omega, drop_size]
    simp [cntB]
  | i + 1, j, n, h => by
    have hj : j < s.size := by omega
    rw [ByteArray.foldlM.loop, dif_pos hj]
    simp only [pure_bind]
    rw [cnt_loop s c i (j + 1) _ (by omega), drop_bs hj, cntB]
    have e : s[j] = (bs s)[j]'(by rw [bs_len]; exact hj) := rfl
    rw [e]
    by_cases h3 : (bs s)[j]'(by rw [bs_len]; exact hj) = c
    · rw [if_pos (by simp [h3]), if_pos (by rw [h3])]
      congr 1; omega
    · rw [if_neg (by simpa using h3), if_neg (fun q => h3 (by rw [← UInt8.toNat_inj]; omega))]
      congr 1; omega
theorem cnt_fold (s : ByteArray) (c : UInt8) : s.foldl (fun (n : Int) x => if (x == c) = true then n + 1 else n) 0 = (cntB c.toNat (bs s) : Nat) := by
  have := cnt_loop s c s.size 0 0 (by omega)
  rw [List.drop_zero, Int.zero_add] at this
  unfold ByteArray.foldl ByteArray.foldlM
  simp only [Nat.sub_zero, Nat.le_refl, dite_true]
  exact this
theorem rows_count : Extern.allRows.lookup "internal/bytealg.CountString" = some Extern.BytealgCount.count := by kernel_rfl
theorem find_count {F : Func} (hn : F.name = "internal/bytealg.CountString") : Extern.find F = some Extern.BytealgCount.count := by
  have h1 : (Extern.allGenericRows.lookup "internal/bytealg.CountString").isNone = true := by decide +kernel
  have h2 : (Extern.allTypedRows.lookup "internal/bytealg.CountString").isNone = true := by decide +kernel
  rw [Option.isNone_iff_eq_none] at h1 h2
  simp only [Extern.find, hn, h1, h2, rows_count]
  rfl
theorem count_run (s : ByteArray) (c : Int) : Extern.BytealgCount.count #[.string s, .int .u8 c] =
    pure (goInt (s.foldl (fun (n : Int) x => if (x == c.toNat.toUInt8) = true then n + 1 else n) 0)) := by
  rfl
theorem ro_count {f : Nat} (hx : (match P.funcs[f]? with | some F => decide (F.name = "internal/bytealg.CountString") && (Extern.findNext F).isNone && F.body.isNone | none => false) = true)
    (s : ByteArray) (c : Int) (hc : 0 ≤ c) (hc' : c < 256) : RO C P f [.s s, .i .u8 c] (.i .i64 (cntB c (bs s))) := by
  intro J w vals hG hI hv
  split at hx
  · rename_i F hF
    simp only [Bool.and_eq_true, decide_eq_true_eq, Option.isNone_iff_eq_none] at hx
    obtain ⟨⟨h1, h2⟩, h3⟩ := hx
    have h4 := find_count h1
    match vals, hv with
    | [v1, v2], hv =>
      obtain ⟨hv1, hv2, _⟩ := hv
      simp only [VR] at hv1 hv2
      subst hv1; subst hv2
      right
      refine ⟨.int .i64 (cntB c (bs s)), w, ?_, .i .i64 (cntB c (bs s)), [], J, by simp [Back], Ext.refl J w, hI, rfl⟩
      have hr := cnt_fold s c.toNat.toUInt8
      have e : ((c.toNat.toUInt8.toNat : Nat) : Int) = c := by
        simp; omega
      rw [e] at hr
      have hn' : ¬ F.name = "runtime.NumGoroutine" := by rw [h1]; decide
      have hq : Extern.BytealgCount.count #[.string s, .int .u8 c] = pure (goInt (cntB c (bs s) : Nat)) := by rw [count_run, hr]
      simp [callFunc, hF, hn', h3, h2, h4, hq]
      rfl
  · cases hx
end Go.Proofs.YtlcodlnldcidoaaDoor.Ev

namespace Go.Proofs.YtlcodlnldcidoaaDoor.Ev
open Go
set_option linter.unusedVariables false
set_option linter.unusedSimpArgs false
variable {C : Cfg} {P : Program} {J J' : Inj} {w w' : World}

/-! # Contracts that lie in the library -/
/-- The value of a number, a bool, a string. -/
def scV : AV → Value
  | .k b => .bool b
  | .i k n => .int k n
  | .b b => .bool b
  | .s z => .string z
  | _ => undef
theorem scV_VR {x : AV} {v : Value} (h : isSc x = true) (hv : VR J w x v) : v = scV x := by
  cases x <;> simp [isSc] at h <;> exact hv
theorem VR_scV {x : AV} (h : isSc x = true) : VR J w x (scV x) := by
  cases x <;> simp [isSc] at h <;> rfl
theorem scV_VRs : ∀ {l : List AV} {vs : List Value}, allSc l = true → VRs J w l vs → vs = l.map scV
  | [], [], _, _ => rfl
  | x :: l, v :: vs, h, hv => by
    simp only [allSc, Bool.and_eq_true] at h
    rw [List.map_cons, scV_VR h.1 hv.1, scV_VRs h.2 hv.2]
  | [], _ :: _, _, hv => hv.elim
  | _ :: _, [], _, hv => hv.elim
theorem grow_ok (hI : Inv J w []) : ∀ (os : List Obj), Ext J J w (Sort.grow w os.toArray) ∧ Inv J (Sort.grow w os.toArray) [] := by
  suffices h : ∀ (os : List Obj) (w : World), Inv J w [] → Ext J J w (Sort.grow w os.toArray) ∧ Inv J (Sort.grow w os.toArray) [] from fun os => h os w hI
  intro os
  induction os with
  | nil => intro w hI; rw [Sort.grow_empty]; exact ⟨Ext.refl J w, hI⟩
  | cons o os ih =>
    intro w hI
    have e : Sort.grow w (o :: os).toArray = Sort.grow (w.alloc o) os.toArray := by
      rw [Sort.alloc_eq_grow, Sort.grow_grow]; simp
    rw [e]
    obtain ⟨h1, h2⟩ := ih (w.alloc o) (Inv_push hI o)
    exact ⟨(Ext_push hI o).trans h1, h2⟩
/-- A call that is told from the outside: numbers, bools and strings in, one of them out; new blocks and draws beside. -/
theorem RO_shelf {f : Nat} {args : List AV} {r : AV} (he : ∀ vals w, (callFunc f vals).run P w = .ok (.enter f vals) w) (ha : allSc args = true) (hr : isSc r = true) (hb : ∀ b, r ≠ .k b)
    (h : ∀ (J : Inj) (w : World), J.G = C.gl → Inv J w [] → Calls P f (args.map scV).toArray w fun e w' => e = .returned (scV r) ∧ ∃ k os, w' = Sort.grow (w.drewN k) os) : RO C P f args r := by
  intro J w vals hG hI hv
  rw [scV_VRs ha hv]
  refine .inl ⟨he _ _, Calls.mono (h J w hG hI) ?_⟩
  rintro e w' ⟨rfl, k, os, rfl⟩
  have hs : Same3 w (w.drewN k) := ⟨rfl, rfl, rfl⟩
  have hI1 : Inv J (w.drewN k) [] := heap_inv (w := w) (w' := w.drewN k) rfl hs hI
  obtain ⟨h1, h2⟩ := grow_ok hI1 os.toList
  simp only [Array.toArray_toList] at h1 h2
  refine ⟨_, rfl, r, [], J, ?_, (heap_ext (w := w) (w' := w.drewN k) rfl hs).trans h1, h2, VR_scV hr⟩
  cases r <;> simp [isSc] at hr <;> simp [Back]
theorem tab_cells : ∀ (l : List (List AV)) (c : Array Value) (b o : Nat) (e : TypeId) (fz : Nat × Nat), w.heap[b]? = some (.cells c e fz) → (∀ r ∈ l, ∃ x, r = [x] ∧ isSc x = true) → VRrows J w l 1 b o → ∀ i r, l[i]? = some r → c[o + i]? = some (scV (nth r 0))
  | [], _, _, _, _, _, _, _, _, _, _, h => by simp at h
  | r0 :: l, c, b, o, e, fz, hb, hs, hv, 0, r, h => by
    simp at h; subst h
    obtain ⟨x, rfl, hx⟩ := hs r0 List.mem_cons_self
    obtain ⟨⟨_, ⟨v, h1, _, h3⟩, _⟩, _⟩ := hv
    rw [scV_VR hx h3] at h1
    simp only [World.cell?, hb] at h1
    simpa [nth] using h1
  | r0 :: l, c, b, o, e, fz, hb, hs, hv, i + 1, r, h => by
    have := tab_cells l c b (o + 1) e fz hb (fun r hr => hs r (List.mem_cons_of_mem _ hr)) hv.2 i r (by simpa using h)
    rw [show o + (i + 1) = o + 1 + i by omega]; exact this
/-- A table of numbers that is known of a package's variable. -/
theorem tab_is (hG : J.G = C.gl) (hI : Inv J w []) {name : String} {g : Nat} {k : IntKind} {zs : List Int} (hn : P.globalNamed name = some g) (hx : (g, 1, zs.map fun z => [AV.i k z]) ∈ C.gl) : Lib.TabIs P w name k zs := by
  rw [← hG] at hx
  obtain ⟨_, _, h3, c, e, fz, h4, h5⟩ := hI.gl _ hx
  simp only [List.length_map, Nat.one_mul] at h3 h4 h5
  unfold Lib.TabIs World.var?
  rw [hn]
  simp only [Option.bind_some, h4]
  congr 1
  apply Array.ext'
  simp only []
  apply List.ext_getElem?
  intro i
  have h6 := tab_cells _ c g 0 e fz h4 (by intro r hr; obtain ⟨z, _, rfl⟩ := List.mem_map.1 hr; exact ⟨_, rfl, rfl⟩) h3 i
  rw [Nat.zero_add] at h6
  rw [List.getElem?_map]
  cases hz : zs[i]? with
  | none =>
    have : zs.length ≤ i := by
      rcases Nat.lt_or_ge i zs.length with q | q
      · rw [List.getElem?_eq_getElem q] at hz; simp at hz
      · exact q
    simp only [Option.map_none]
    exact List.getElem?_eq_none (by simpa [h5] using this)
  | some z =>
    have := h6 [.i k z] (by rw [List.getElem?_map, hz]; rfl)
    simpa [nth, scV] using this
/-- From the outside: what a table that is laid gives. -/
theorem gl_tab {W : World} {name : String} {g : Nat} {k : IntKind} {zs : List Int} (h : Lib.TabIs P W name k zs) (hn : P.globalNamed name = some g) :
    g < W.heap.size ∧ flatRows (zs.map fun z => [AV.i k z]) = true ∧ VRrows (rowJ W) W (zs.map fun z => [AV.i k z]) 1 g 0 ∧ blkSz W g (1 * (zs.map fun z => [AV.i k z]).length) := by
  have hc := fun i => World.var?_cell hn h i
  unfold Lib.TabIs World.var? at h
  rw [hn] at h
  simp only [Option.bind_some] at h
  split at h
  · rename_i cs e fz hb
    have hlt : g < W.heap.size := by
      rcases Nat.lt_or_ge g W.heap.size with q | q
      · exact q
      · rw [Array.getElem?_eq_none q] at hb; simp at hb
    simp only [Option.some.injEq] at h
    refine ⟨hlt, ?_, ?_, cs, e, fz, hb, by rw [h]; simp⟩
    · have : ∀ l : List Int, flatRows (l.map fun z => [AV.i k z]) = true := by
        intro l; induction l with
        | nil => rfl
        | cons z l ih => simp only [List.map_cons, flatRows, allSc, isSc, Bool.and_self, Bool.true_and]; exact ih
      exact this zs
    · have key : ∀ (l : List Int) (o : Nat), (∀ i z, l[i]? = some z → W.cell? ⟨g, o + i, none⟩ = some (.int k z)) → VRrows (rowJ W) W (l.map fun z => [AV.i k z]) 1 g o := by
        intro l
        induction l with
        | nil => intro o _; trivial
        | cons z l ih =>
          intro o hz
          refine ⟨⟨rfl, ⟨.int k z, by simpa using hz 0 z rfl, rfl, rfl⟩, trivial⟩, ih (o + 1) fun i z' hi => ?_⟩
          rw [show o + 1 + i = o + (i + 1) by omega]
          exact hz (i + 1) z' (by simpa using hi)
      refine key zs 0 fun i z hz => ?_
      rw [Nat.zero_add, hc i]
      simp [hz]
  · cases h
end Go.Proofs.YtlcodlnldcidoaaDoor.Ev
