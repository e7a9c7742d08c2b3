/- The evaluator, second part: operations that write or make memory, and calls, for every program whose tables are checked. -/
import Derived.Test.YtmblcloikeobdaaEvA
import Derived.Laws.Append
import Derived.Laws.AppendOwn
import Derived.Laws.IdiomStrings
set_option linter.constructorNameAsVariable false
set_option linter.unusedVariables false
set_option linter.unusedSimpArgs false
namespace Go.Proofs.Ytmblcloikeobdaa.Ev
open Go
set_option linter.unusedVariables false
set_option linter.unusedSimpArgs false
variable {C : Cfg} {P : Program} {J J' : Inj} {lb : Nat → Nat} {w w' : World} {a : Act} {st : St} {hp : Hp} {o : Oper} {K : AV → St → Prop} {Q : Exit → Act → World → Prop}

/-! # Memory that changes -/
theorem Own.lt {blk : Nat} (h : Own w blk) : blk < w.heap.size := by
  obtain ⟨c, e, fz, h, _⟩ := h
  rcases Nat.lt_or_ge blk w.heap.size with h' | h'
  · exact h'
  · rw [Array.getElem?_eq_none h'] at h; simp at h
theorem frozen_of_heap {b : Nat} (h : w'.heap[b]? = w.heap[b]?) (o : Nat) : w'.frozen? ⟨b, o, none⟩ = w.frozen? ⟨b, o, none⟩ := by
  simp [World.frozen?, h]
theorem Own.of_same {blk : Nat} (h : Own w blk) (hb : w'.heap[blk]? = w.heap[blk]?) : Own w' blk := by
  obtain ⟨c, e, fz, h1, h2⟩ := h
  exact ⟨c, e, fz, hb.trans h1, fun o => by rw [frozen_of_heap hb]; exact h2 o⟩
theorem notF (E : Ext J J' w w') {b : Nat} (hb : b < w.heap.size) (h : ¬ J.F b) : ¬ J'.F b := fun h' => by
  rcases E.Fnew b h' with h1 | h1
  · exact h h1
  · omega
theorem ObR_ext (E : Ext J J' w w') {id : Nat} {ob : Ob} (h : ObR J w id ob) (hm : J'.m id = J.m id)
    (hb : ∀ x, J.m id = some x → w'.heap[x.1]? = w.heap[x.1]?) : ObR J' w' id ob := by
  refine ⟨h.1, ?_⟩
  rw [hm]
  have h2 := h.2
  cases hx : J.m id with
  | none => rw [hx] at h2; exact h2
  | some x =>
    obtain ⟨blk, base, wd⟩ := x
    rw [hx] at h2
    obtain ⟨h3, h4, h5, h6, h7, h8⟩ := h2
    have hh := hb _ hx
    exact ⟨h3, notF E h7.lt h4, by rw [E.K]; exact h5, by rw [E.base]; exact h6, h7.of_same hh, VRrows_ext E _ _ _ _ hh h8⟩
theorem rel_step (R : Rel J lb w a st) (E : Ext J J' w w') {hp' : Hp} (hI : Inv J' w' hp')
    (hbox : ∀ s, boxed st s → w'.heap[lb s]? = w.heap[lb s]?)
    (hob : ∀ s id x, boxed st s → live hp' id → J'.m id = some x → x.1 ≠ lb s) : Rel J' lb w' a ⟨st.env, st.bx, hp'⟩ where
  inv := hI
  sz := R.sz
  env t ht := EV_ext E _ _ (R.env t ht)
  box s cells h := by
    obtain ⟨h1, h2, h3, h4⟩ := R.box s cells h
    have hh := hbox s ⟨cells, h⟩
    exact ⟨notF E h3.lt h1, by rw [E.K]; exact h2, h3.of_same hh, VRcells_ext E _ _ _ hh h4⟩
  binj := R.binj
  bobj := hob
  dfr := R.dfr
theorem heap_push_lt (o : Obj) {b : Nat} (h : b < w.heap.size) : (w.alloc o).heap[b]? = w.heap[b]? := by
  show (w.heap.push o)[b]? = _
  simp [Array.getElem?_push, Nat.ne_of_lt h]
theorem Ext_push (hI : Inv J w hp) (o : Obj) : Ext J J w (w.alloc o) where
  G := rfl
  base := rfl
  K := rfl
  F _ h := h
  Fnew _ h := .inl h
  m _ _ h := h
  size := by simp
  keep b h := heap_push_lt o (h.elim (hI.Fb b) (hI.Kb b))
  shape b c e fz h := ⟨c, fz, by
    rw [heap_push_lt o]
    · exact h
    · rcases Nat.lt_or_ge b w.heap.size with h' | h'
      · exact h'
      · rw [Array.getElem?_eq_none h'] at h; simp at h, rfl⟩
  same := ⟨rfl, rfl, rfl⟩
theorem Own_push (c : Array Value) (e : TypeId) : Own (w.alloc (.cells c e)) w.heap.size :=
  ⟨c, e, (0, 0), by show (w.heap.push _)[_]? = _; simp, fun o => by simp⟩
theorem Inv_push (hI : Inv J w hp) (o : Obj) : Inv J (w.alloc o) hp where
  bnd := by simp; exact Nat.le_succ_of_le hI.bnd
  Fb b h := by simp; exact Nat.lt_succ_of_lt (hI.Fb b h)
  Kb b h := by simp; exact Nat.lt_succ_of_lt (hI.Kb b h)
  ob id ob h := ObR_ext (Ext_push hI o) (hI.ob id ob h) rfl fun x hx => by
    have := (hI.ob id ob h).2
    obtain ⟨blk, base, wd⟩ := x
    rw [hx] at this
    exact heap_push_lt o this.2.2.2.2.1.lt
  inj := hI.inj
  dom := hI.dom
  gl := gl_ext (Ext_push hI o) hI.gl
/-- Values that stand for leaves of one cell each lie in one cell each. -/
theorem cellv_one {x : AV} {v : Value} (h : VR J w x v) (hc : cellv x = true) : oneV v = true := by
  cases x <;> simp [cellv] at hc <;> simp only [VR] at h
  case nl => obtain ⟨_, rfl⟩ := h; rfl
  case ro => obtain ⟨_, _, rfl, _⟩ := h; rfl
  case rp => obtain ⟨_, _, _, rfl, _⟩ := h; rfl
  case sl => obtain ⟨_, _, rfl, _⟩ := h; rfl
  case pt => obtain ⟨_, _, _, _, rfl⟩ := h; rfl
  case sc => obtain ⟨_, _, _, _, _, _, _, rfl, _⟩ := h; rfl
  case fn => obtain ⟨_, rfl, _⟩ := h; rfl
  all_goals (subst h; rfl)
theorem cellvs_ones : ∀ (l : List AV) (cs : List Value), VRs J w l cs → cellvs l = true → ∀ v ∈ cs, oneV v = true
  | [], [], _, _ => by simp
  | x :: l, c :: cs, h, hc => by
    simp [cellvs] at hc
    intro v hv
    rcases List.mem_cons.1 hv with rfl | hv
    · exact cellv_one h.1 hc.1
    · exact cellvs_ones l cs h.2 hc.2 v hv
  | [], _ :: _, h, _ => h.elim
  | _ :: _, [], h, _ => h.elim
theorem VRcells_of (blk : Nat) : ∀ (l : List AV) (cs : List Value) (o : Nat), VRs J w l cs → (∀ v ∈ cs, oneV v = true) → (∀ j v, cs[j]? = some v → w.cell? ⟨blk, o + j, none⟩ = some v) → VRcells J w l blk o
  | [], _, _, _, _, _ => trivial
  | x :: l, [], _, h, _, _ => h.elim
  | x :: l, c :: cs, o, h, hc, hw => by
    refine ⟨⟨c, by simpa using hw 0 c rfl, hc c (List.mem_cons_self), h.1⟩, VRcells_of blk l cs (o + 1) h.2 (fun v hv => hc v (List.mem_cons_of_mem _ hv)) ?_⟩
    intro j v hj
    have := hw (j + 1) v (by simpa using hj)
    rwa [show o + (j + 1) = o + 1 + j from by omega] at this
/-- A value's leaves and its cells. -/
theorem leaves_VRs {x : AV} {v : Value} (h : VR J w x v) (hc : cellvs (leaves x) = true) : VRs J w (leaves x) v.cells.toList := by
  cases x
  case ag l => obtain ⟨cs, rfl, hcs⟩ := h; simpa [leaves, Value.cells] using hcs
  all_goals
    have h1 := cellv_one h (by simpa [leaves, cellvs] using hc)
    have h2 : v.cells.toList = [v] := by cases v <;> first | rfl | simp [oneV] at h1
    rw [h2]
    exact ⟨h, trivial⟩
theorem okv_cell {x : AV} (h : cellvs (leaves x) = true) : okv x = true := by
  cases x <;> first | rfl | simp [leaves, cellvs, cellv] at h
theorem noLp_nth (d : Nat) : ∀ (l : List AV) (t : Nat), nth (noLp d l) t = nth l t ∨ nth (noLp d l) t = .u ∧ ∃ o, nth l t = .lp d o
  | [], t => .inl rfl
  | v :: l, 0 => by
    cases v <;> simp [noLp, nth]
    rename_i s o
    by_cases h : s = d
    · subst h; simp
    · simp [h]
  | v :: l, t + 1 => by
    have := noLp_nth d l t
    cases v <;> simpa [noLp, nth] using this
theorem noLp_no (d : Nat) : ∀ (l : List AV) (t : Nat) (o : Nat), nth (noLp d l) t ≠ .lp d o
  | [], t, o => by simp [noLp, nth]
  | v :: l, 0, o => by
    cases v <;> simp [noLp, nth]
    rename_i s o'
    by_cases h : s = d
    · simp [h]
    · simp [h]
  | v :: l, t + 1, o => by
    have := noLp_no d l t o
    cases v <;> simpa [noLp, nth] using this
theorem noLp_len (d : Nat) : ∀ (l : List AV), (noLp d l).length = l.length
  | [] => rfl
  | v :: l => by cases v <;> simp [noLp, noLp_len d l]
theorem box_rel (R : Rel J lb w a st) {d : Nat} {l : List AV} {cs : List Value} (t : TypeId) (hl : VRs J w l cs) (hc : cellvs l = true) :
    Rel J (fun s => if s = d then w.heap.size else lb s) (w.alloc (.cells cs.toArray t)) a ⟨noLp d st.env, upd st.bx d (some l), st.hp⟩ := by
  have E := Ext_push R.inv (.cells cs.toArray t)
  have hlt : ∀ s, boxed st s → lb s < w.heap.size := fun s ⟨c, h⟩ => (R.box s c h).2.2.1.lt
  have hbx : ∀ s c, at? (upd st.bx d (some l)) s = some (some c) → (s = d ∧ c = l) ∨ (s ≠ d ∧ at? st.bx s = some (some c)) := by
    intro s c h
    rw [at?_eq, upd_eq] at h
    by_cases e : d = s
    · subst e
      by_cases hd : d < st.bx.length
      · simp [hd] at h; exact .inl ⟨rfl, h.symm⟩
      · rw [List.getElem?_eq_none (by simp; omega)] at h; simp at h
    · rw [List.getElem?_set_ne e] at h
      exact .inr ⟨fun e' => e e'.symm, by rw [at?_eq]; exact h⟩
  refine ⟨Inv_push R.inv _, by simp [noLp_len, R.sz], ?_, ?_, ?_, ?_, R.dfr⟩
  · intro t' ht
    rw [noLp_len] at ht
    have h0 := EV_ext E _ _ (R.env t' ht)
    rcases noLp_nth d st.env t' with h | ⟨h, _⟩
    · rw [h]
      have hno := noLp_no d st.env t'
      rw [h] at hno
      cases hv : nth st.env t' <;> rw [hv] at h0 <;> try exact h0
      rename_i s o'
      simp only [EV] at h0 ⊢
      have : s ≠ d := fun e => hno o' (by rw [hv, e])
      simp [this, h0]
    · rw [h]; trivial
  · intro s c h
    rcases hbx s c h with ⟨rfl, rfl⟩ | ⟨hs, h⟩
    · refine ⟨?_, ?_, ?_, ?_⟩
      · simp; exact fun h => Nat.lt_irrefl _ (R.inv.Fb _ h)
      · simp; exact fun h => Nat.lt_irrefl _ (R.inv.Kb _ h)
      · simp; exact Own_push _ _
      · simp only [↓reduceIte]
        refine VRcells_of _ _ _ _ (VRs_ext E _ _ hl) (cellvs_ones _ _ hl hc) ?_
        intro j v hj
        simp [World.cell?_alloc_new, hj]
    · obtain ⟨h1, h2, h3, h4⟩ := R.box s c h
      have hh := heap_push_lt (w := w) (.cells cs.toArray t) h3.lt
      simp only [BoxR, hs, ↓reduceIte]
      exact ⟨h1, h2, h3.of_same hh, VRcells_ext E _ _ _ hh h4⟩
  · intro s s' ⟨c, h⟩ ⟨c', h'⟩ he
    rcases hbx s c h with ⟨e1, _⟩ | ⟨hs, h⟩ <;> rcases hbx s' c' h' with ⟨e2, _⟩ | ⟨hs', h'⟩
    · rw [e1, e2]
    · simp [e1, hs'] at he
      have := hlt s' ⟨c', h'⟩; omega
    · simp [e2, hs] at he
      have := hlt s ⟨c, h⟩; omega
    · simp [hs, hs'] at he
      exact R.binj s s' ⟨c, h⟩ ⟨c', h'⟩ he
  · intro s id x ⟨c, h⟩ hlv hm
    rcases hbx s c h with ⟨e1, _⟩ | ⟨hs, h⟩
    · simp only [e1, ↓reduceIte]
      obtain ⟨ob, hob⟩ := hlv
      have := (R.inv.ob id ob hob).2
      obtain ⟨blk, base, wd⟩ := x
      rw [hm] at this
      exact Nat.ne_of_lt this.2.2.2.2.1.lt
    · simp only [hs, ↓reduceIte]
      exact R.bobj s id x ⟨c, h⟩ hlv hm
/-! ## New rows -/
theorem VRs_app : ∀ (l l' : List AV) (c c' : List Value), VRs J w l c → VRs J w l' c' → VRs J w (l ++ l') (c ++ c')
  | [], _, [], _, _, h => h
  | x :: l, l', v :: c, c', h, h' => ⟨h.1, VRs_app l l' c c' h.2 h'⟩
  | [], _, _ :: _, _, h, _ => h.elim
  | _ :: _, _, [], _, h, _ => h.elim
theorem VRs_split : ∀ (l l' : List AV) (c : List Value), VRs J w (l ++ l') c → VRs J w l (c.take l.length) ∧ VRs J w l' (c.drop l.length)
  | [], _, _, h => ⟨by simp [VRs], by simpa using h⟩
  | x :: l, l', [], h => h.elim
  | x :: l, l', v :: c, h => by
    have := VRs_split l l' c h.2
    exact ⟨⟨h.1, this.1⟩, this.2⟩
/-- The values that lie in rows. -/
theorem rows_vals (blk wd : Nat) : ∀ (rows : List (List AV)) (off : Nat), VRrows J w rows wd blk off →
    ∃ cs : List Value, cs.length = rows.length * wd ∧ (∀ j v, cs[j]? = some v → w.cell? ⟨blk, off + j, none⟩ = some v) ∧ VRs J w rows.flatten cs ∧ (∀ v ∈ cs, oneV v = true) ∧ ∀ r ∈ rows, r.length = wd
  | [], off, _ => ⟨[], by simp, by simp, by simp [VRs], by simp, by simp⟩
  | r :: rows, off, h => by
    have one : ∀ (l : List AV) (o : Nat), VRcells J w l blk o → ∃ cs : List Value, cs.length = l.length ∧ (∀ j v, cs[j]? = some v → w.cell? ⟨blk, o + j, none⟩ = some v) ∧ VRs J w l cs ∧ ∀ v ∈ cs, oneV v = true := by
      intro l
      induction l with
      | nil => intro o _; exact ⟨[], rfl, by simp, trivial, by simp⟩
      | cons x l ih =>
        intro o h
        obtain ⟨v, hv, h1, hx⟩ := h.1
        obtain ⟨cs, c1, c2, c3, c4⟩ := ih (o + 1) h.2
        refine ⟨v :: cs, by simp [c1], ?_, ⟨hx, c3⟩, by intro u hu; rcases List.mem_cons.1 hu with rfl | hu; exact h1; exact c4 u hu⟩
        intro j u hu
        cases j with
        | zero => simp at hu; subst hu; simpa using hv
        | succ j =>
          simp at hu
          have := c2 j u hu
          rwa [show o + 1 + j = o + (j + 1) from by omega] at this
    obtain ⟨c1, h1, h2, h3, h4⟩ := one r off h.1.2
    obtain ⟨c2, g1, g2, g3, g4, g5⟩ := rows_vals blk wd rows (off + wd) h.2
    have hr := h.1.1
    refine ⟨c1 ++ c2, by simp [h1, g1, hr, Nat.add_mul, Nat.add_comm], ?_, by simpa using VRs_app _ _ _ _ h3 g3, ?_, ?_⟩
    · intro j v hj
      by_cases hlt : j < c1.length
      · rw [List.getElem?_append_left hlt] at hj; exact h2 j v hj
      · rw [List.getElem?_append_right (by omega)] at hj
        have := g2 _ v hj
        rwa [show off + wd + (j - c1.length) = off + j from by omega] at this
    · intro v hv
      rcases List.mem_append.1 hv with hv | hv
      · exact h4 v hv
      · exact g4 v hv
    · intro x hx
      rcases List.mem_cons.1 hx with rfl | hx
      · exact hr
      · exact g5 x hx
theorem VRrows_of (blk wd : Nat) : ∀ (rows : List (List AV)) (cs : List Value) (off : Nat), (∀ r ∈ rows, r.length = wd) → VRs J w rows.flatten cs → (∀ v ∈ cs, oneV v = true) →
    (∀ j v, cs[j]? = some v → w.cell? ⟨blk, off + j, none⟩ = some v) → VRrows J w rows wd blk off
  | [], _, _, _, _, _, _ => trivial
  | r :: rows, cs, off, hw, h, h1, hc => by
    have hr := hw r (List.mem_cons_self)
    obtain ⟨h2, h3⟩ := VRs_split r rows.flatten cs (by simpa using h)
    refine ⟨⟨hr, VRcells_of blk r _ off h2 (fun v hv => h1 v (List.mem_of_mem_take hv)) ?_⟩, VRrows_of blk wd rows _ (off + wd) (fun r hr => hw r (List.mem_cons_of_mem _ hr)) h3 (fun v hv => h1 v (List.mem_of_mem_drop hv)) ?_⟩
    · intro j v hj
      refine hc j v ?_
      rw [List.getElem?_take] at hj
      split at hj
      · exact hj
      · simp at hj
    · intro j v hj
      have := hc (r.length + j) v (by simpa using hj)
      rwa [hr, ← Nat.add_assoc] at this
def newJ (J : Inj) (n blk wd : Nat) : Inj := { J with m := fun i => if i = n then some (blk, 0, wd) else J.m i }
theorem Ext_new (hI : Inv J w hp) (o : Obj) (blk wd : Nat) : Ext J (newJ J hp.length blk wd) w (w.alloc o) where
  G := rfl
  base := rfl
  K := rfl
  F _ h := h
  Fnew _ h := .inl h
  m id x h := by
    have := hI.dom id x h
    simp [newJ, Nat.ne_of_lt this, h]
  size := by simp
  keep b h := heap_push_lt o (h.elim (hI.Fb b) (hI.Kb b))
  shape := (Ext_push hI o).shape
  same := ⟨rfl, rfl, rfl⟩
theorem at?_app_old {α : Type} {l : List α} {x : α} {i : Nat} {y : α} (h : at? (l ++ [x]) i = some y) : (i < l.length ∧ at? l i = some y) ∨ (i = l.length ∧ y = x) := by
  rw [at?_eq] at h
  by_cases hi : i < l.length
  · rw [List.getElem?_append_left hi] at h; exact .inl ⟨hi, by rw [at?_eq]; exact h⟩
  · have : i = l.length := by
      rcases Nat.lt_or_ge i (l.length + 1) with h1 | h1
      · omega
      · rw [List.getElem?_eq_none (by simp; omega)] at h; simp at h
    subst this
    simp at h; exact .inr ⟨rfl, h.symm⟩
theorem Inv_new (hI : Inv J w hp) {c : Array Value} {e : TypeId} {ob : Ob} {cs : List Value} (hfl : ob.fl = true → flatRows ob.rows = true) (hwd : ∀ r ∈ ob.rows, r.length = ob.wd)
    (hv : VRs J w ob.rows.flatten cs) (h1 : ∀ v ∈ cs, oneV v = true) (hc : ∀ (j : Nat) (v : Value), cs[j]? = some v → c[j]? = some v) :
    Inv (newJ J hp.length w.heap.size ob.wd) (w.alloc (.cells c e)) (hp ++ [some ob]) := by
  have E := Ext_new hI (.cells c e) w.heap.size ob.wd
  have hold := Inv_push hI (.cells c e)
  refine ⟨hold.bnd, hold.Fb, hold.Kb, ?_, ?_, ?_, gl_ext E hI.gl⟩
  · intro id ob' h
    rcases at?_app_old h with ⟨hlt, h⟩ | ⟨rfl, h2⟩
    · refine ObR_ext E (hI.ob id ob' h) (by simp [newJ, Nat.ne_of_lt hlt]) ?_
      intro x hx
      have := (hI.ob id ob' h).2
      obtain ⟨blk, base, wd⟩ := x
      rw [hx] at this
      exact heap_push_lt _ this.2.2.2.2.1.lt
    · have h : ob' = ob := by simpa using h2
      subst h
      refine ⟨hfl, ?_⟩
      have hm : (newJ J hp.length w.heap.size ob'.wd).m hp.length = some (w.heap.size, 0, ob'.wd) := by simp [newJ]
      rw [hm]
      refine ⟨rfl, fun h => Nat.lt_irrefl _ (hI.Fb _ h), fun h => Nat.lt_irrefl _ (hI.Kb _ h), hI.bnd, Own_push _ _, ?_⟩
      refine VRrows_of _ _ _ cs 0 hwd (VRs_ext E _ _ hv) h1 ?_
      intro j v hj
      simp [World.cell?_alloc_new, hc j v hj]
  · intro id id' x x' ⟨o1, h1⟩ ⟨o2, h2⟩ hm hm' he
    have low : ∀ i o y, at? hp i = some (some o) → J.m i = some y → y.1 < w.heap.size := by
      intro i o y hi hy
      have := (hI.ob i o hi).2
      obtain ⟨blk, base, wd⟩ := y
      rw [hy] at this
      exact this.2.2.2.2.1.lt
    rcases at?_app_old h1 with ⟨hlt, h1⟩ | ⟨rfl, h1⟩ <;> rcases at?_app_old h2 with ⟨hlt', h2⟩ | ⟨rfl, h2⟩
    · simp only [newJ, Nat.ne_of_lt hlt, Nat.ne_of_lt hlt', ↓reduceIte] at hm hm'
      exact hI.inj id id' x x' ⟨_, h1⟩ ⟨_, h2⟩ hm hm' he
    · simp only [newJ, Nat.ne_of_lt hlt, ↓reduceIte] at hm
      simp [newJ] at hm'
      subst hm'
      have := low _ _ _ h1 hm
      simp at he; omega
    · simp only [newJ, Nat.ne_of_lt hlt', ↓reduceIte] at hm'
      simp [newJ] at hm
      subst hm
      have := low _ _ _ h2 hm'
      simp at he; omega
    · rfl
  · intro id x hm
    simp only [newJ] at hm
    split at hm
    · simp; omega
    · have := hI.dom id x hm; simp; omega
theorem rel_new (R : Rel J lb w a st) {c : Array Value} {e : TypeId} {ob : Ob} {cs : List Value} (hfl : ob.fl = true → flatRows ob.rows = true) (hwd : ∀ r ∈ ob.rows, r.length = ob.wd)
    (hv : VRs J w ob.rows.flatten cs) (h1 : ∀ v ∈ cs, oneV v = true) (hc : ∀ (j : Nat) (v : Value), cs[j]? = some v → c[j]? = some v) :
    Rel (newJ J st.hp.length w.heap.size ob.wd) lb (w.alloc (.cells c e)) a ⟨st.env, st.bx, st.hp ++ [some ob]⟩ := by
  refine rel_step R (Ext_new R.inv _ _ _) (Inv_new R.inv hfl hwd hv h1 hc) ?_ ?_
  · intro s ⟨cl, h⟩
    exact heap_push_lt _ (R.box s cl h).2.2.1.lt
  · intro s id x ⟨cl, h⟩ ⟨o', ho⟩ hm
    have hl := (R.box s cl h).2.2.1.lt
    rcases at?_app_old ho with ⟨hlt, ho⟩ | ⟨rfl, ho⟩
    · simp only [newJ, Nat.ne_of_lt hlt, ↓reduceIte] at hm
      exact R.bobj s id x ⟨cl, h⟩ ⟨o', ho⟩ hm
    · simp [newJ] at hm
      subst hm
      simp; omega
end Go.Proofs.Ytmblcloikeobdaa.Ev

namespace Go.Proofs.Ytmblcloikeobdaa.Ev
open Go
set_option linter.unusedVariables false
set_option linter.unusedSimpArgs false
variable {C : Cfg} {P : Program} {J J' : Inj} {lb : Nat → Nat} {w w' : World} {a : Act} {st : St} {hp : Hp} {o : Oper} {K : AV → St → Prop} {Q : Exit → Act → World → Prop}

/-! # Writing -/
/-- 'w'' is 'w' with 'vs' in block 'blk' from cell 'o' on. -/
structure Wrote (w w' : World) (blk o : Nat) (vs : List Value) : Prop where
  size : w'.heap.size = w.heap.size
  other : ∀ b, b ≠ blk → w'.heap[b]? = w.heap[b]?
  same : ∀ (c : Array Value) (e : TypeId) (fz : Nat × Nat), w.heap[blk]? = some (Obj.cells c e fz) → ∃ c' : Array Value, w'.heap[blk]? = some (Obj.cells c' e fz) ∧ c'.size = c.size ∧
    ∀ j, c'[j]? = if o ≤ j ∧ j < o + vs.length then vs[j - o]? else c[j]?
  three : Same3 w w'
theorem set_heap (w : World) (blk o : Nat) (v : Value) {c : Array Value} {e : TypeId} {fz : Nat × Nat} (h : w.heap[blk]? = some (.cells c e fz)) :
    (w.setCell ⟨blk, o, none⟩ v).heap[blk]? = some (.cells (c.setIfInBounds o v) e fz) ∧ ∀ b, b ≠ blk → (w.setCell ⟨blk, o, none⟩ v).heap[b]? = w.heap[b]? := by
  constructor
  · simp [World.setCell, Array.getElem?_modify, h]
  · intro b hb
    simp [World.setCell, Array.getElem?_modify, Ne.symm hb]
theorem cell_at {blk o : Nat} {c : Array Value} {e : TypeId} {fz : Nat × Nat} (h : w.heap[blk]? = some (.cells c e fz)) : w.cell? ⟨blk, o, none⟩ = c[o]? := by
  simp [World.cell?, h]
theorem storeCells_run (blk b : Nat) : ∀ (vs : List Value) (i : Nat) (w : World), Own w blk → (∀ v ∈ vs, oneV v = true) → (∀ j, j < vs.length → (w.cell? ⟨blk, b + i + j, none⟩).isSome = true) →
    ∃ w', (storeCells ⟨blk, b, none⟩ vs i).run P w = .ok () w' ∧ Wrote w w' blk (b + i) vs ∧ Own w' blk
  | [], i, w, hO, _, _ => ⟨w, rfl, ⟨rfl, fun _ _ => rfl, fun c e fz h => ⟨c, h, rfl, fun j => by rw [if_neg (fun h => by simp at h; omega)]⟩, rfl, rfl, rfl⟩, hO⟩
  | v :: vs, i, w, hO, h1, hc => by
    obtain ⟨c, e, fz, hh, hf⟩ := hO
    have hO : Own w blk := ⟨c, e, fz, hh, hf⟩
    have hcell := hc 0 (by simp)
    rw [Nat.add_zero, cell_at hh] at hcell
    have hlt : b + i < c.size := by
      rcases Nat.lt_or_ge (b + i) c.size with h | h
      · exact h
      · rw [Array.getElem?_eq_none h] at hcell; simp at hcell
    have hone := h1 v (List.mem_cons_self)
    have hst : (store ((⟨blk, b, none⟩ : Addr).add i) v).run P w = .ok () (w.setCell ⟨blk, b + i, none⟩ v) := by
      rw [Addr.add_lit]
      have hsome : w.cell? ⟨blk, b + i, none⟩ = some c[b + i] := by rw [cell_at hh]; simp [hlt]
      have hfr := hf (b + i)
      cases v <;> simp [oneV] at hone <;> simp [store, Sem.run, hsome, hfr]
    obtain ⟨s1, s2⟩ := set_heap w blk (b + i) v hh
    have hO1 : Own (w.setCell ⟨blk, b + i, none⟩ v) blk := ⟨_, e, fz, s1, fun o => by
      rw [World.frozen?_setCell]; exact hf o⟩
    obtain ⟨w', r1, r2, r3⟩ := storeCells_run blk b vs (i + 1) (w.setCell ⟨blk, b + i, none⟩ v) hO1 (fun v hv => h1 v (List.mem_cons_of_mem _ hv)) (by
      intro j hj
      have := hc (j + 1) (by simpa using hj)
      rw [cell_at hh] at this
      rw [cell_at s1]
      rw [show b + (i + 1) + j = b + i + (j + 1) from by omega]
      simpa [Array.getElem?_setIfInBounds, show ¬ (b + i = b + i + (j + 1)) from by omega] using this)
    refine ⟨w', ?_, ⟨?_, ?_, ?_, ⟨r2.three.1, r2.three.2.1, r2.three.2.2⟩⟩, r3⟩
    · simp only [storeCells, Sem.run_bind, hst, Result.andThen_ok, r1]
    · rw [r2.size]; simp
    · intro b' hb'
      rw [r2.other b' hb', s2 b' hb']
    · intro c0 e0 fz0 h0
      rw [hh] at h0
      simp at h0
      obtain ⟨rfl, rfl, rfl⟩ := h0
      obtain ⟨c', k1, k2, k3⟩ := r2.same _ _ _ s1
      refine ⟨c', k1, by simpa using k2, ?_⟩
      intro j
      rw [k3 j]
      by_cases hj : j = b + i
      · subst hj
        simp [hlt]
        omega
      · by_cases hj2 : b + (i + 1) ≤ j ∧ j < b + (i + 1) + vs.length
        · rw [if_pos hj2, if_pos (by simp; omega)]
          rw [show j - (b + i) = (j - (b + (i + 1))) + 1 from by omega]
          simp
        · rw [if_neg hj2, if_neg (by simp; omega)]
          simp [Array.getElem?_setIfInBounds, show ¬ (b + i = j) from fun h => hj h.symm]
theorem Wrote.cell {blk o b j : Nat} {vs : List Value} (W : Wrote w w' blk o vs) (hO : Own w blk) : w'.cell? ⟨b, j, none⟩ = if b = blk ∧ o ≤ j ∧ j < o + vs.length then vs[j - o]? else w.cell? ⟨b, j, none⟩ := by
  by_cases hb : b = blk
  · subst hb
    obtain ⟨c, e, fz, hh, _⟩ := hO
    obtain ⟨c', k1, k2, k3⟩ := W.same c e fz hh
    rw [cell_at k1, cell_at hh, k3 j]
    by_cases h : o ≤ j ∧ j < o + vs.length
    · rw [if_pos h, if_pos ⟨rfl, h⟩]
    · rw [if_neg h, if_neg (fun h' => h h'.2)]
  · rw [if_neg (fun h => hb h.1), cell_of_heap (W.other b hb)]
theorem Wrote.ext {blk o : Nat} {vs : List Value} (W : Wrote w w' blk o vs) (hF : ¬ J.F blk) (hK : ¬ J.K blk) : Ext J J w w' where
  G := rfl
  base := rfl
  K := rfl
  F _ h := h
  Fnew _ h := .inl h
  m _ _ h := h
  size := by rw [W.size]; exact Nat.le_refl _
  keep b h := W.other b fun e => by subst e; exact h.elim hF hK
  shape b c e fz h := by
    by_cases hb : b = blk
    · subst hb
      obtain ⟨c', k1, k2, _⟩ := W.same c e fz h
      exact ⟨c', fz, k1, k2⟩
    · exact ⟨c, fz, by rw [W.other b hb]; exact h, rfl⟩
  same := W.three
/-- Leaves behind each other, some of them written anew. -/
theorem VRcells_wrote (E : Ext J J' w w') {blk : Nat} : ∀ (cells vs' r : List AV) (n : Nat) (vs : List Value) (b : Nat), over vs' n cells = some r →
    VRs J w vs' vs → (∀ v ∈ vs, oneV v = true) → VRcells J w cells blk b → (∀ j v, vs[j]? = some v → w'.cell? ⟨blk, b + n + j, none⟩ = some v) →
    (∀ j, b ≤ j → j < b + cells.length → (j < b + n ∨ b + n + vs.length ≤ j) → w'.cell? ⟨blk, j, none⟩ = w.cell? ⟨blk, j, none⟩) → VRcells J' w' r blk b := by
  intro cells
  induction cells with
  | nil =>
    intro vs' r n vs b ho hv h1 hc g1 g2
    cases vs' with
    | nil => simp [over] at ho; subst ho; trivial
    | cons x vs' => cases n <;> simp [over] at ho
  | cons y cells ih =>
    intro vs' r n vs b ho hv h1 hc g1 g2
    obtain ⟨⟨u, q1, q2, q3⟩, hl⟩ := hc
    cases vs' with
    | nil =>
      simp [over] at ho; subst ho
      have hvs : vs = [] := by cases vs with | nil => rfl | cons _ _ => exact hv.elim
      subst hvs
      refine ⟨⟨u, ?_, q2, VR_ext E _ _ q3⟩, ih [] cells n [] (b + 1) (by cases n <;> simp [over]) trivial (by simp) hl (by simp) ?_⟩
      · rw [g2 b (Nat.le_refl _) (by simp) (by simp; omega)]; exact q1
      · intro j h1 h2 h3
        exact g2 j (by omega) (by simp; omega) (by simp; omega)
    | cons x vs' =>
    cases vs with
    | nil => exact hv.elim
    | cons v vs =>
    cases n with
    | zero =>
      simp only [over, Option.bind_eq_some_iff] at ho
      obtain ⟨r', ho1, ho2⟩ := ho
      simp at ho2; subst ho2
      refine ⟨⟨v, by simpa using g1 0 v rfl, h1 v (List.mem_cons_self), VR_ext E _ _ hv.1⟩, ih vs' r' 0 vs (b + 1) ho1 hv.2 (fun v hv => h1 v (List.mem_cons_of_mem _ hv)) hl ?_ ?_⟩
      · intro j u' hj
        have := g1 (j + 1) u' (by simpa using hj)
        rwa [show b + 0 + (j + 1) = b + 1 + 0 + j from by omega] at this
      · intro j k1 k2 k3
        exact g2 j (by omega) (by simp; omega) (by simp; omega)
    | succ n =>
      simp only [over, Option.bind_eq_some_iff] at ho
      obtain ⟨r', ho1, ho2⟩ := ho
      simp at ho2; subst ho2
      refine ⟨⟨u, ?_, q2, VR_ext E _ _ q3⟩, ih (x :: vs') r' n (v :: vs) (b + 1) ho1 hv h1 hl ?_ ?_⟩
      · rw [g2 b (Nat.le_refl _) (by simp) (by omega)]; exact q1
      · intro j u' hj
        have := g1 j u' hj
        rwa [show b + (n + 1) + j = b + 1 + n + j from by omega] at this
      · intro j k1 k2 k3
        exact g2 j (by omega) (by simp; omega) (by omega)
/-- Rows of which some cells are written anew. -/
theorem VRcells_same (E : Ext J J' w w') {blk : Nat} : ∀ (l : List AV) (o : Nat), VRcells J w l blk o → (∀ j, o ≤ j → j < o + l.length → w'.cell? ⟨blk, j, none⟩ = w.cell? ⟨blk, j, none⟩) → VRcells J' w' l blk o
  | [], _, _, _ => trivial
  | x :: l, o, ⟨⟨u, q1, q2, q3⟩, hl⟩, g => ⟨⟨u, by rw [g o (Nat.le_refl _) (by simp)]; exact q1, q2, VR_ext E _ _ q3⟩,
      VRcells_same E l (o + 1) hl fun j h1 h2 => g j (by omega) (by simp; omega)⟩
theorem VRrows_upd (E : Ext J J' w w') {blk wd : Nat} : ∀ (rows : List (List AV)) (i : Nat) (row c : List AV) (off : Nat), VRrows J w rows wd blk off → rows[i]? = some row →
    c.length = wd → VRcells J' w' c blk (off + i * wd) → (∀ j, (j < off + i * wd ∨ off + i * wd + wd ≤ j) → w'.cell? ⟨blk, j, none⟩ = w.cell? ⟨blk, j, none⟩) → VRrows J' w' (upd rows i c) wd blk off
  | [], _, _, _, _, _, h, _, _, _ => by simp at h
  | r :: rows, 0, row, c, off, h, hr, hl, hc, g => by
    have same : ∀ (rows : List (List AV)) (o : Nat), off + wd ≤ o → VRrows J w rows wd blk o → VRrows J' w' rows wd blk o := by
      intro rows
      induction rows with
      | nil => intros; trivial
      | cons r rows ih => intro o ho h; exact ⟨⟨h.1.1, VRcells_same E r o h.1.2 fun j h1 h2 => g j (by omega)⟩, ih _ (by omega) h.2⟩
    refine ⟨⟨hl, by simpa using hc⟩, same rows _ (Nat.le_refl _) h.2⟩
  | r :: rows, i + 1, row, c, off, h, hr, hl, hc, g => by
    have e1 : off + wd + i * wd = off + (i + 1) * wd := by rw [Nat.add_mul]; omega
    have hwd := h.1.1
    refine ⟨⟨hwd, VRcells_same E r off h.1.2 fun j h1 h2 => g j (.inl ?_)⟩, ?_⟩
    · rw [← e1]; omega
    · have := VRrows_upd E rows i row c (off + wd) h.2 (by simpa using hr) hl (by rw [e1]; exact hc) (fun j hj => g j (by rw [e1] at hj; exact hj))
      simpa [upd] using this
theorem over_len {α : Type} {vs : List α} {o : Nat} {l r : List α} (h : over vs o l = some r) : r.length = l.length := by
  rcases over_eq vs o l r h with ⟨rfl, h2⟩ | ⟨_, rfl⟩
  · simp; omega
  · rfl
theorem allSc_over : ∀ (l vs r : List AV) (o : Nat), over vs o l = some r → allSc l = true → allSc vs = true → allSc r = true
  | l, [], r, o, h, hl, hv => by simp [over] at h; subst h; exact hl
  | x :: l, v :: vs, r, 0, h, hl, hv => by
    simp only [over, Option.bind_eq_some_iff] at h
    obtain ⟨r', h1, h2⟩ := h
    simp at h2; subst h2
    simp [allSc] at hl hv ⊢
    exact ⟨hv.1, allSc_over l vs r' 0 h1 hl.2 hv.2⟩
  | x :: l, v :: vs, r, o + 1, h, hl, hv => by
    simp only [over, Option.bind_eq_some_iff] at h
    obtain ⟨r', h1, h2⟩ := h
    simp at h2; subst h2
    simp [allSc] at hl ⊢
    exact ⟨hl.1, allSc_over l (v :: vs) r' o h1 hl.2 hv⟩
  | [], v :: vs, r, 0, h, _, _ => by simp [over] at h
  | [], v :: vs, r, o + 1, h, _, _ => by simp [over] at h
theorem flat_at : ∀ (rows : List (List AV)) (i : Nat) (r : List AV), flatRows rows = true → rows[i]? = some r → allSc r = true
  | [], _, _, _, h => by simp at h
  | x :: rows, 0, r, h, hr => by simp at hr; subst hr; simp [flatRows] at h; exact h.1
  | x :: rows, i + 1, r, h, hr => by simp [flatRows] at h; exact flat_at rows i r h.2 (by simpa using hr)
theorem flat_upd : ∀ (rows : List (List AV)) (i : Nat) (c : List AV), flatRows rows = true → allSc c = true → flatRows (upd rows i c) = true
  | [], _, _, _, _ => rfl
  | x :: rows, 0, c, h, hc => by simp [flatRows, upd] at h ⊢; exact ⟨hc, h.2⟩
  | x :: rows, i + 1, c, h, hc => by simp [flatRows, upd] at h ⊢; exact ⟨h.1, flat_upd rows i c h.2 hc⟩
theorem at?_upd {α : Type} {l : List α} {i j : Nat} {v x : α} (h : at? (upd l i v) j = some x) : (i = j ∧ x = v ∧ i < l.length) ∨ (i ≠ j ∧ at? l j = some x) := by
  rw [at?_eq, upd_eq] at h
  by_cases e : i = j
  · subst e
    by_cases hi : i < l.length
    · simp [hi] at h; exact .inl ⟨rfl, h.symm, hi⟩
    · rw [List.getElem?_eq_none (by simp; omega)] at h; simp at h
  · rw [List.getElem?_set_ne e] at h
    exact .inr ⟨e, by rw [at?_eq]; exact h⟩
/-- Own rows, one object written anew in place. -/
theorem Inv_wrote (hI : Inv J w hp) {id blk base wd n : Nat} {ob ob' : Ob} {vs : List Value} (hob : at? hp id = some (some ob)) (hm : J.m id = some (blk, base, wd))
    (W : Wrote w w' blk n vs) (hwd : ob'.wd = ob.wd) (hfl : ob'.fl = true → flatRows ob'.rows = true) (hr : VRrows J w' ob'.rows ob'.wd blk base) : Inv J w' (upd hp id (some ob')) := by
  have h0 := (hI.ob id ob hob).2
  rw [hm] at h0
  obtain ⟨rfl, hF, hK, hb, hO, _⟩ := h0
  have E : Ext J J w w' := W.ext hF hK
  refine ⟨by rw [W.size]; exact hI.bnd, fun b h => by rw [W.size]; exact hI.Fb b h, fun b h => by rw [W.size]; exact hI.Kb b h, ?_, ?_, ?_, gl_ext E hI.gl⟩
  · intro id' ob1 h
    rcases at?_upd h with ⟨rfl, h, _⟩ | ⟨hne, h⟩
    · simp at h; subst h
      refine ⟨hfl, ?_⟩
      rw [hm]
      refine ⟨hwd.symm, hF, hK, hb, ?_, hr⟩
      obtain ⟨c, e, fz, hh, hf⟩ := hO
      obtain ⟨c', k1, k2, _⟩ := W.same c e fz hh
      refine ⟨c', e, fz, k1, fun o => ?_⟩
      have := hf o
      simp [World.frozen?, hh] at this
      simp [World.frozen?, k1]
      exact this
    · refine ObR_ext E (hI.ob id' ob1 h) rfl ?_
      intro x hx
      refine W.other _ fun e => hne ?_
      exact hI.inj id id' _ _ ⟨_, hob⟩ ⟨_, h⟩ hm hx e.symm
  · intro i i' x x' ⟨o1, h1⟩ ⟨o2, h2⟩ hx hx' he
    have l1 : live hp i := by
      rcases at?_upd h1 with ⟨rfl, _, _⟩ | ⟨_, h⟩
      · exact ⟨_, hob⟩
      · exact ⟨_, h⟩
    have l2 : live hp i' := by
      rcases at?_upd h2 with ⟨rfl, _, _⟩ | ⟨_, h⟩
      · exact ⟨_, hob⟩
      · exact ⟨_, h⟩
    exact hI.inj i i' x x' l1 l2 hx hx' he
  · intro i x hx
    have := hI.dom i x hx
    rw [upd_eq]; simpa using this
theorem rel_wrote (R : Rel J lb w a st) {id blk base wd n : Nat} {ob ob' : Ob} {vs : List Value} (hob : at? st.hp id = some (some ob)) (hm : J.m id = some (blk, base, wd))
    (W : Wrote w w' blk n vs) (hwd : ob'.wd = ob.wd) (hfl : ob'.fl = true → flatRows ob'.rows = true) (hr : VRrows J w' ob'.rows ob'.wd blk base) :
    Rel J lb w' a ⟨st.env, st.bx, upd st.hp id (some ob')⟩ ∧ Ext J J w w' := by
  have h0 := (R.inv.ob id ob hob).2
  rw [hm] at h0
  have E : Ext J J w w' := W.ext h0.2.1 h0.2.2.1
  refine ⟨rel_step R E (Inv_wrote R.inv hob hm W hwd hfl hr) ?_ ?_, E⟩
  · intro s hs
    exact W.other _ fun e => R.bobj s id _ hs ⟨_, hob⟩ hm e.symm
  · intro s i x hs ⟨o1, h1⟩ hx
    have l1 : live st.hp i := by
      rcases at?_upd h1 with ⟨rfl, _, _⟩ | ⟨_, h⟩
      · exact ⟨_, hob⟩
      · exact ⟨_, h⟩
    exact R.bobj s i x hs l1 hx
theorem store_sound (T : TyOk C P) (R : Rel J lb w a st) {t : Nat} {p v : AV} {K : St → Prop} {cp cv : Value} (hp : EV J lb w p cp) (hv : EV J lb w v cv) (h : storeP C st t v K p) :
    ∃ w' st', K st' ∧ (Instr.storeAt t cp cv).run P w = .ok () w' ∧ Rel J lb w' a st' ∧ Ext J J w w' := by
  unfold storeP at h
  split at h
  · rename_i s o
    obtain ⟨hc, h⟩ := h
    simp only [Bool.and_eq_true, beq_iff_eq, bne_iff_ne] at hc
    obtain ⟨⟨hc, hlen⟩, hz⟩ := hc
    simp only [EV] at hp; subst hp
    split at h
    · rename_i cells hb
      split at h
      · rename_i c ho
        have hvv := leaves_VRs (EV_VR hv (okv_cell hc)) hc
        have hl := VRs_len _ _ hvv
        obtain ⟨hF, hK, hO, hcells⟩ := R.box s cells hb
        have hover := over_eq _ _ _ _ ho
        have hdom : ∀ j, j < cv.cells.toList.length → (w.cell? ⟨lb s, o + 0 + j, none⟩).isSome = true := by
          intro j hj
          rcases hover with ⟨_, h2⟩ | ⟨h2, _⟩
          · have : o + j < cells.length := by omega
            obtain ⟨u, hu, _⟩ := VRcells_at cells (lb s) 0 (o + j) cells[o + j] hcells (by simp [this])
            simp at hu; simp [hu]
          · have : cv.cells.toList.length = 0 := by rw [← hl, h2]; rfl
            omega
        obtain ⟨w', r1, W, r3⟩ := storeCells_run (P := P) (lb s) o cv.cells.toList 0 w hO (cellvs_ones _ _ hvv hc) hdom
        simp only [Nat.add_zero] at W
        have E : Ext J J w w' := W.ext hF hK
        simp only [fl_eq, flH_eq, nk_eq, updK_eq] at h
        refine ⟨w', _, h, ?_, ⟨?_, R.sz, fun t' ht => EV_ext E _ _ (R.env t' ht), ?_, ?_, ?_, R.dfr⟩, E⟩
        · have hn : cv.cells.size = tsz C t := by rw [← hlen, hl]; simp
          simp [Instr.storeAt, Instr.sureAddr, storeVar, size_run T hz, hn]
          simpa using r1
        · -- Inv
          refine ⟨by rw [W.size]; exact R.inv.bnd, fun b h => by rw [W.size]; exact R.inv.Fb b h, fun b h => by rw [W.size]; exact R.inv.Kb b h, ?_, R.inv.inj, R.inv.dom, gl_ext E R.inv.gl⟩
          intro id ob hid
          refine ObR_ext E (R.inv.ob id ob hid) rfl fun x hx => W.other _ ?_
          exact R.bobj s id x ⟨_, hb⟩ ⟨_, hid⟩ hx
        · intro s' c' h'
          rcases at?_upd h' with ⟨rfl, h', _⟩ | ⟨hne, h'⟩
          · simp at h'; subst h'
            refine ⟨hF, hK, r3, ?_⟩
            refine VRcells_wrote E cells _ _ o cv.cells.toList 0 ho hvv (cellvs_ones _ _ hvv hc) hcells ?_ ?_
            · intro j u hj
              have hjl : j < cv.cells.toList.length := by
                rcases Nat.lt_or_ge j cv.cells.toList.length with h | h
                · exact h
                · rw [List.getElem?_eq_none h] at hj; simp at hj
              rw [W.cell hO, if_pos ⟨rfl, by omega, by omega⟩, show 0 + o + j - o = j from by omega]; exact hj
            · intro j _ _ h3
              rw [W.cell hO, if_neg (by omega)]
          · obtain ⟨h1, h2, h3, h4⟩ := R.box s' c' h'
            have hh : w'.heap[lb s']? = w.heap[lb s']? := W.other _ fun e => hne (R.binj s s' ⟨_, hb⟩ ⟨_, h'⟩ e.symm)
            exact ⟨h1, h2, h3.of_same hh, VRcells_ext E _ _ _ hh h4⟩
        · intro s1 s2 ⟨c1, h1⟩ ⟨c2, h2⟩ he
          have b1 : boxed st s1 := by
            rcases at?_upd h1 with ⟨rfl, _, _⟩ | ⟨_, h⟩
            · exact ⟨_, hb⟩
            · exact ⟨_, h⟩
          have b2 : boxed st s2 := by
            rcases at?_upd h2 with ⟨rfl, _, _⟩ | ⟨_, h⟩
            · exact ⟨_, hb⟩
            · exact ⟨_, h⟩
          exact R.binj s1 s2 b1 b2 he
        · intro s1 id x ⟨c1, h1⟩ hlv hm
          have b1 : boxed st s1 := by
            rcases at?_upd h1 with ⟨rfl, _, _⟩ | ⟨_, h⟩
            · exact ⟨_, hb⟩
            · exact ⟨_, h⟩
          exact R.bobj s1 id x b1 hlv hm
      · exact h.elim
    · exact h.elim
  · rename_i id i o
    obtain ⟨hc, h⟩ := h
    simp only [Bool.and_eq_true, beq_iff_eq, bne_iff_ne] at hc
    obtain ⟨⟨hc, hlen⟩, hz⟩ := hc
    obtain ⟨blk, base, wd, hm, rfl⟩ := hp
    split at h
    · rename_i ob hob
      obtain ⟨hfl, row, hrow, h⟩ := h
      split at h
      · rename_i c ho
        rw [at?_eq] at hrow
        have hvv := leaves_VRs (EV_VR hv (okv_cell hc)) hc
        have hl := VRs_len _ _ hvv
        have h0 := R.inv.ob id ob hob
        obtain ⟨hflat, h0⟩ := h0
        rw [hm] at h0
        obtain ⟨rfl, hF, hK, hb, hO, hrows⟩ := h0
        obtain ⟨hrl, hcells⟩ := VRrows_at _ _ _ _ _ _ hrows hrow
        have hover := over_eq _ _ _ _ ho
        have hdom : ∀ j, j < cv.cells.toList.length → (w.cell? ⟨blk, base + i * ob.wd + o + 0 + j, none⟩).isSome = true := by
          intro j hj
          rcases hover with ⟨_, h2⟩ | ⟨h2, _⟩
          · have : o + j < row.length := by omega
            obtain ⟨u, hu, _⟩ := VRcells_at row blk _ (o + j) row[o + j] hcells (by simp [this])
            rw [show base + i * ob.wd + o + 0 + j = base + i * ob.wd + (o + j) from by omega]; simp [hu]
          · have : cv.cells.toList.length = 0 := by rw [← hl, h2]; rfl
            omega
        obtain ⟨w', r1, W, r3⟩ := storeCells_run (P := P) blk (base + i * ob.wd + o) cv.cells.toList 0 w hO (cellvs_ones _ _ hvv hc) hdom
        simp only [Nat.add_zero] at W
        have E : Ext J J w w' := W.ext hF hK
        simp only [fl_eq, flH_eq, nk_eq, updK_eq] at h
        have hlo : o + cv.cells.toList.length ≤ row.length ∨ cv.cells.toList.length = 0 := by
          rcases hover with ⟨_, h2⟩ | ⟨h2, _⟩
          · exact .inl (by omega)
          · rw [h2] at hl; exact .inr hl.symm
        have hcc : VRcells J w' c blk (base + i * ob.wd) := by
          refine VRcells_wrote E row _ _ o cv.cells.toList _ ho hvv (cellvs_ones _ _ hvv hc) hcells ?_ ?_
          · intro j u hj
            have hjl : j < cv.cells.toList.length := by
              rcases Nat.lt_or_ge j cv.cells.toList.length with h | h
              · exact h
              · rw [List.getElem?_eq_none h] at hj; simp at hj
            rw [W.cell hO, if_pos ⟨rfl, by omega, by omega⟩, show base + i * ob.wd + o + j - (base + i * ob.wd + o) = j from by omega]; exact hj
          · intro j _ _ h3
            rw [W.cell hO, if_neg (by omega)]
        obtain ⟨R', _⟩ := rel_wrote (ob' := ⟨ob.wd, ob.fl, upd ob.rows i c⟩) R hob hm W rfl (by
            intro hf
            refine flat_upd _ _ _ (hflat hf) (allSc_over _ _ _ _ ho (flat_at _ _ _ (hflat hf) hrow) ?_)
            simpa [show ob.fl = true from hf] using hfl)
          (VRrows_upd E _ _ _ _ _ hrows hrow (by rw [over_len ho, hrl]) hcc (by
            intro j hj
            have hj' : j < base + i * ob.wd ∨ base + i * ob.wd + ob.wd ≤ j := hj
            rw [W.cell hO, if_neg (by omega)]))
        refine ⟨w', _, h, ?_, R', E⟩
        have hn : cv.cells.size = tsz C t := by rw [← hlen, hl]; simp
        simp [Instr.storeAt, Instr.sureAddr, storeVar, size_run T hz, hn]
        simpa using r1
      · exact h.elim
    · exact h.elim
  · exact h.elim
end Go.Proofs.Ytmblcloikeobdaa.Ev

namespace Go.Proofs.Ytmblcloikeobdaa.Ev
open Go
set_option linter.unusedVariables false
set_option linter.unusedSimpArgs false
variable {C : Cfg} {P : Program} {J J' : Inj} {lb : Nat → Nat} {w w' : World} {a : Act} {st : St} {hp : Hp} {o : Oper} {K : AV → St → Prop} {Q : Exit → Act → World → Prop}

theorem zero_run (T : TyOk C P) {t : Nat} (h : tsz C t ≠ 0) : ∃ z, (zeroValue t).run P w = .ok z w ∧ zeroOk (tze C t) z.cells.toList = true ∧ z.cells.size = tsz C t := by
  obtain ⟨x, h1, _, _, z, h4, h5, h6, _⟩ := T.i t h
  exact ⟨z, by simp [zeroValue, typeInfo, h1, h4], h5, h6⟩
theorem box_sound {me : Nat} {q : Bool} {t : Nat} {l : List AV} {cs : List Value} (R : Rel J lb w a st) (hl : VRs J w l cs)
    (hr : (execOp a.eval o).run P w = .ok (.value (.pointer (some ⟨w.heap.size, 0, none⟩))) (w.alloc (.cells cs.toArray t)))
    (h : boxP C me q o.dst l st K) : o.wp P a w (Nx J w o.dst K) Q := by
  unfold boxP at h
  split at h
  · exact h.elim
  · rename_i st' d e b hp hd
    obtain ⟨hc, h⟩ := h
    simp only [fl_eq, flH_eq, nk_eq] at h
    split at h
    · obtain ⟨_, h⟩ := h
      have hones := cellvs_ones _ _ hl hc
      have R' := rel_new (ob := ⟨l.length, allSc l, [l]⟩) (c := cs.toArray) (e := t) (cs := cs) R (by simp [flatRows]) (by simp) (by simpa using hl) hones (by intro j v hj; simpa using hj)
      refine done hr R' ?_ (Ext_new R.inv _ _ _) h Q
      exact ⟨w.heap.size, 0, l.length, by simp [newJ], by simp⟩
    · obtain ⟨_, h⟩ := h
      simp only [noLpK_eq, updK_eq] at h
      have R' := box_rel (d := d) R t hl hc
      refine done hr R' ?_ (Ext_push R.inv _) h Q
      simp [EV]
theorem op_alloc (T : TyOk C P) {me : Nat} {q : Bool} {t : Nat} (R : Rel J lb w a st) (e : o.op = .alloc t)
    (h : (tsz C t != 0) = true ∧ boxP C me q o.dst (tze C t) st K) : o.wp P a w (Nx J w o.dst K) Q := by
  obtain ⟨hz, h⟩ := h
  obtain ⟨z, h1, h2, h3⟩ := zero_run (w := w) T (t := t) (by simpa using hz)
  refine box_sound (cs := z.cells.toList) (t := t) R (zero_VRs J w _ _ h2) ?_ h
  simp [execOp, e, Instr.alloc, h1, newVar, newRow]
theorem op_box {me : Nat} {q : Bool} {t : Nat} {x : Operand} (R : Rel J lb w a st) (e : o.op = .box t x)
    (h : optK (arg st x) fun v => boxP C me q o.dst (leaves v) st K) : o.wp P a w (Nx J w o.dst K) Q := by
  obtain ⟨v, hv, h⟩ := optK_some h
  have hc : cellvs (leaves v) = true := by
    unfold boxP at h
    split at h
    · exact h.elim
    · exact h.1
  have hx := leaves_VRs (EV_VR (arg_EV R x v hv) (okv_cell hc)) hc
  refine box_sound (cs := (a.eval x).cells.toList) (t := t) R hx ?_ h
  simp [execOp, e, Instr.box, newVar, newRow]
/-- Parts laid into zero cells. -/
theorem fill_sound (R : Rel J lb w a st) (place : Nat → Option (Nat × Nat)) : ∀ (parts : List (Nat × Operand)) (l r : List AV) (cs : List Value), VRs J w l cs → fill st place parts l = some r →
    ∃ cs' : List Value, Instr.fill place cs.toArray (parts.map fun (i, x) => (i, a.eval x)) = some cs'.toArray ∧ VRs J w r cs' ∧ cs'.length = cs.length
  | [], l, r, cs, hl, h => by simp [fill] at h; subst h; exact ⟨cs, rfl, hl, rfl⟩
  | (i, x) :: parts, l, r, cs, hl, h => by
    simp only [fill] at h
    split at h
    · rename_i p v hp hv
      split at h
      · rename_i hc
        simp only [Bool.and_eq_true, beq_iff_eq, bne_iff_ne] at hc
        obtain ⟨⟨hc1, hc0⟩, hc2⟩ := hc
        simp only [Option.bind_eq_some_iff] at h
        obtain ⟨l', ho, h⟩ := h
        have hx := leaves_VRs (EV_VR (arg_EV R x v hv) (okv_cell hc2)) hc2
        have hlen := VRs_len _ _ hx
        have put : ∀ (l vs l' : List AV) (n : Nat) (cs us : List Value), VRs J w l cs → VRs J w vs us → over vs n l = some l' →
            VRs J w l' (cs.take n ++ us ++ cs.drop (n + us.length)) ∧ (us = [] ∨ n + us.length ≤ cs.length) := by
          intro l
          induction l with
          | nil =>
            intro vs l' n cs us h1 h2 h3
            cases cs with
            | cons c cs => exact h1.elim
            | nil =>
            cases vs with
            | nil =>
              cases us with
              | nil => simp [over] at h3; subst h3; simp [VRs]
              | cons u us => exact h2.elim
            | cons v vs => cases n <;> simp [over] at h3
          | cons y l ih =>
            intro vs l' n cs us h1 h2 h3
            cases cs with
            | nil => exact h1.elim
            | cons c cs =>
            cases vs with
            | nil =>
              cases us with
              | nil => simp [over] at h3; subst h3; simp; exact h1
              | cons u us => exact h2.elim
            | cons v vs =>
            cases us with
            | nil => exact h2.elim
            | cons u us =>
            cases n with
            | zero =>
              simp only [over, Option.bind_eq_some_iff] at h3
              obtain ⟨r', k1, k2⟩ := h3
              simp at k2; subst k2
              obtain ⟨g1, g2⟩ := ih vs r' 0 cs us h1.2 h2.2 k1
              refine ⟨⟨h2.1, by simpa using g1⟩, .inr ?_⟩
              rcases g2 with rfl | g2
              · simp
              · simp at g2 ⊢; omega
            | succ n =>
              simp only [over, Option.bind_eq_some_iff] at h3
              obtain ⟨r', k1, k2⟩ := h3
              simp at k2; subst k2
              obtain ⟨g1, g2⟩ := ih (v :: vs) r' n cs (u :: us) h1.2 h2 k1
              refine ⟨⟨h1.1, ?_⟩, .inr ?_⟩
              · rw [show n + 1 + (u :: us).length = (n + (u :: us).length) + 1 from by omega]
                simpa using g1
              · rcases g2 with g2 | g2
                · simp at g2
                · simp at g2 ⊢; omega
        obtain ⟨h4, h5⟩ := put _ _ _ _ _ _ hl hx ho
        have hfold : ∀ (us : List Value) (k : Nat) (n : Nat) (c : Array Value),
            ((us.zipIdx k).foldl (fun cs (p : Value × Nat) => cs.setIfInBounds (n + p.2) p.1) c).size = c.size ∧
            ∀ j, ((us.zipIdx k).foldl (fun cs (p : Value × Nat) => cs.setIfInBounds (n + p.2) p.1) c)[j]? = if n + k ≤ j ∧ j < n + k + us.length ∧ j < c.size then us[j - (n + k)]? else c[j]? := by
          intro us
          induction us with
          | nil => intro k n c; refine ⟨rfl, fun j => ?_⟩; rw [if_neg (by simp; omega)]; rfl
          | cons u us ih =>
            intro k n c
            obtain ⟨i1, i2⟩ := ih (k + 1) n (c.setIfInBounds (n + k) u)
            simp only [List.zipIdx_cons, List.foldl_cons]
            refine ⟨by rw [i1]; simp, fun j => ?_⟩
            rw [i2 j]
            simp only [Array.size_setIfInBounds]
            by_cases h1 : n + (k + 1) ≤ j ∧ j < n + (k + 1) + us.length ∧ j < c.size
            · rw [if_pos h1, if_pos (by simp; omega), show j - (n + k) = j - (n + (k + 1)) + 1 from by omega]; simp
            · rw [if_neg h1]
              by_cases h2 : n + k = j
              · subst h2
                by_cases h3 : n + k < c.size
                · rw [if_pos (by simp; omega)]; simp [h3]
                · rw [if_neg (by omega)]; simp [h3]
              · rw [if_neg (by simp; omega)]
                simp [Array.getElem?_setIfInBounds, h2]
        obtain ⟨f1, f2⟩ := hfold (a.eval x).cells.toList 0 p.1 cs.toArray
        have hfin : ((a.eval x).cells.toList.zipIdx.foldl (fun cs (q : Value × Nat) => cs.setIfInBounds (p.1 + q.2) q.1) cs.toArray) =
            (cs.take p.1 ++ (a.eval x).cells.toList ++ cs.drop (p.1 + (a.eval x).cells.toList.length)).toArray := by
          apply Array.ext'
          apply List.ext_getElem?
          intro j
          have := f2 j
          rw [← Array.getElem?_toList] at this
          rw [this]
          simp only [List.toList_toArray, Nat.add_zero, List.size_toArray, List.getElem?_toArray]
          rcases h5 with h5 | h5
          · rw [h5]; rw [if_neg (by simp; omega)]; simp
          · by_cases h1 : j < p.1
            · rw [if_neg (by omega), List.append_assoc, List.getElem?_append_left (by simp; omega)]
              simp [h1]
            · by_cases h2 : j < p.1 + (a.eval x).cells.toList.length
              · rw [if_pos (by omega), List.getElem?_append_left (by simp; simp at h2; omega), List.getElem?_append_right (by simp; omega)]
                simp [Nat.min_eq_left (show p.1 ≤ cs.length from by omega)]
              · rw [if_neg (by omega), List.getElem?_append_right (by simp; simp at h2; omega)]
                rw [List.getElem?_drop]
                congr 1
                simp at h2 ⊢
                omega
        obtain ⟨cs', g1, g2, g3⟩ := fill_sound R place parts l' r _ h4 h
        refine ⟨cs', ?_, g2, ?_⟩
        · have hsz : (a.eval x).cells.size = p.2 := by rw [← hc1, hlen]; simp
          have hin : ¬ (p.1 + (a.eval x).cells.size > cs.length) := by
            rcases h5 with h5 | h5
            · rw [h5] at hlen; simp at hlen; rw [hlen] at hc1; simp at hc1; omega
            · simp at h5; omega
          obtain ⟨p1, p2⟩ := p
          simp only [List.map_cons, Instr.fill, hp]
          simp only [] at hsz hin hfin
          rw [if_neg (by simp [hsz]; simp at hin; omega)]
          rw [← Array.foldl_toList, Array.toList_zipIdx]
          rw [hfin]
          exact g1
        · rw [g3]
          rcases h5 with h5 | h5
          · rw [h5]; simp
          · simp at h5 ⊢; omega
      · simp at h
    · simp at h
theorem places_run (T : TyOk C P) : ∀ (F : List Field), (∀ f ∈ F, tsz C f.type ≠ 0) →
    (F.mapM fun f => (do pure (f.offset, ← sizeOf f.type) : Sem (Nat × Nat))).run P w = .ok (F.map fun f => (f.offset, tsz C f.type)) w
  | [], _ => by simp
  | f :: F, h => by
    have h0 := size_run (w := w) T (h f (List.mem_cons_self))
    have ih := places_run T F (fun f hf => h f (List.mem_cons_of_mem _ hf))
    rw [List.mapM_cons]
    simp only [Sem.run_bind, h0, Result.andThen_ok, Sem.run_pure, ih, List.map_cons]
theorem op_build (T : TyOk C P) (R : Rel J lb w a st) {t : Nat} {parts : Array (Nat × Operand)} (e : o.op = .build t parts)
    (h : (tsz C t != 0) = true ∧ match tyd C t with
    | .strct fs => optK (fill st (place C fs) parts.toList (tze C t)) fun l => K (.ag l) st
    | .arr _ e => (tsz C e != 0) = true ∧ optK (fill st (fun i => some (i * tsz C e, tsz C e)) parts.toList (tze C t)) fun l => K (.ag l) st
    | _ => False) : o.wp P a w (Nx J w o.dst K) Q := by
  have hd := T.d t
  obtain ⟨hz, h⟩ := h
  obtain ⟨z, z1, z2, z3⟩ := zero_run (w := w) T (t := t) (by simpa using hz)
  have hzv := zero_VRs J w _ _ z2
  have hmap : (parts.map fun (i, x) => (i, a.eval x)).toList = parts.toList.map fun (i, x) => (i, a.eval x) := by simp
  split at h
  · rename_i fs he
    rw [he] at hd
    obtain ⟨F, f1, rfl, f2, _, _⟩ := hd
    obtain ⟨l, hl, hk⟩ := optK_some h
    obtain ⟨cs, c1, c2, _⟩ := fill_sound R _ _ _ _ _ hzv hl
    refine done_val R (v := .ag l) (cv := .agg cs.toArray) ?_ ⟨cs, rfl, c2⟩ hk Q
    have hp := places_run (w := w) T F.toList (fun f hf => (f2 f hf).2)
    have hpl : (fun i => (F.toList.map fun f => (f.offset, tsz C f.type)).toArray[i]?) = place C (F.toList.map fun f => (f.type, f.offset)) := by
      funext i
      unfold place
      rw [at?_eq]
      cases hF : F.toList[i]? <;> simp at hF <;> simp [hF]
    have hmm : ((F.mapM fun f => (do pure (f.offset, ← sizeOf f.type) : Sem (Nat × Nat))) : Sem (Array (Nat × Nat))).run P w = .ok (F.toList.map fun f => (f.offset, tsz C f.type)).toArray w := by
      rw [Array.mapM_eq_mapM_toList, Sem.run_map, hp]; rfl
    have hfill : Instr.fill (fun i => (F.toList.map fun f => (f.offset, tsz C f.type)).toArray[i]?) z.cells (parts.toList.map fun (i, x) => (i, a.eval x)) = some cs.toArray := by
      rw [hpl]
      simpa using c1
    simp only [execOp, e, Instr.build, Sem.run_bind, z1, Result.andThen_ok, run_underlying f1, hmm, hmap, hfill, Sem.run_pure]
  · rename_i n el he
    rw [he] at hd
    simp only [] at hd
    obtain ⟨hz', h⟩ := h
    obtain ⟨l, hl, hk⟩ := optK_some h
    obtain ⟨cs, c1, c2, _⟩ := fill_sound R _ _ _ _ _ hzv hl
    refine done_val R (v := .ag l) (cv := .agg cs.toArray) ?_ ⟨cs, rfl, c2⟩ hk Q
    have hsz := size_run (w := w) T (t := el) (by simpa using hz')
    have hfill : Instr.fill (fun i => some (i * tsz C el, tsz C el)) z.cells (parts.toList.map fun (i, x) => (i, a.eval x)) = some cs.toArray := by
      simpa using c1
    simp only [execOp, e, Instr.build, Sem.run_bind, z1, Result.andThen_ok, run_underlying hd, hsz, hmap, hfill, Sem.run_pure]
  · exact h.elim
/-! ## New slices -/
theorem flatten_chunk (wd : Nat) (hw : wd ≠ 0) : ∀ (n : Nat) (l : List AV), l.length = n * wd → (chunk wd n l).flatten = l ∧ (∀ r ∈ chunk wd n l, r.length = wd) ∧ (chunk wd n l).length = n
  | 0, l, h => by simp at h; simp [chunk, h]
  | n + 1, l, h => by
    have h1 : l.length = n * wd + wd := by rw [h, Nat.add_mul]; omega
    obtain ⟨h2, h3, h4⟩ := flatten_chunk wd hw n (l.drop wd) (by simp; omega)
    refine ⟨by simp [chunk, h2], ?_, by simp [chunk, h4]⟩
    intro r hr
    simp only [chunk, List.mem_cons] at hr
    rcases hr with rfl | hr
    · simp; omega
    · exact h3 r hr
theorem allSc_app : ∀ (l r : List AV), allSc (l ++ r) = (allSc l && allSc r)
  | [], r => by simp [allSc]
  | x :: l, r => by simp [allSc, allSc_app l r, Bool.and_assoc]
theorem flatRows_of : ∀ (rows : List (List AV)), allSc rows.flatten = true → flatRows rows = true
  | [], _ => rfl
  | r :: rows, h => by
    simp only [List.flatten_cons, allSc_app, Bool.and_eq_true] at h
    simp [flatRows, h.1, flatRows_of rows h.2]
theorem VRs_reps : ∀ (n : Nat) (l : List AV) (cs : List Value), VRs J w l cs → VRs J w (List.replicate n l).flatten (List.replicate n cs).flatten
  | 0, l, cs, h => by simp [VRs]
  | n + 1, l, cs, h => by simpa [List.replicate_succ] using VRs_app _ _ _ _ h (VRs_reps n l cs h)
theorem range_zero (z : Array Value) (n : Nat) (hz : z.size ≠ 0) : ((Array.range (n * z.size)).map fun i => z[i % z.size]!) = (List.replicate n z.toList).flatten.toArray := by
  have key : ∀ n, (List.range (n * z.size)).map (fun i => z[i % z.size]!) = (List.replicate n z.toList).flatten := by
    intro n
    induction n with
    | zero => simp
    | succ n ih =>
      rw [List.replicate_succ', List.flatten_append, ← ih, Nat.add_mul, Nat.one_mul, List.range_add, List.map_append, List.map_map]
      congr 1
      apply List.ext_getElem
      · simp
      · intro i h1 h2
        simp at h1 h2
        simp [Nat.mod_eq_of_lt h2, h2]
  apply Array.ext'
  simp [key]
end Go.Proofs.Ytmblcloikeobdaa.Ev

namespace Go.Proofs.Ytmblcloikeobdaa.Ev
open Go
set_option linter.unusedVariables false
set_option linter.unusedSimpArgs false
variable {C : Cfg} {P : Program} {J J' : Inj} {lb : Nat → Nat} {w w' : World} {a : Act} {st : St} {hp : Hp} {o : Oper} {K : AV → St → Prop} {Q : Exit → Act → World → Prop}

theorem slice_d (T : TyOk C P) {t : Nat} (h : tsz C (elemT C t) ≠ 0) (h0 : tsz C 0 = 0) : P.underlying t = some (.slice (elemT C t)) := by
  have hd := T.d t
  unfold elemT at h ⊢
  split
  · rename_i e he
    rw [he] at hd; exact hd
  · rename_i hno
    exfalso
    apply h
    split
    · rename_i e he; exact absurd he (hno e)
    · exact h0
theorem new_EV {rows : List (List AV)} {c : Array Value} {e : TypeId} {len cap wd : Nat} (hl : len ≤ cap) (hs : cap * wd ≤ c.size) :
    EV (newJ J hp.length w.heap.size wd) lb (w.alloc (.cells c e)) (.sl hp.length 0 len) (.slice (some ⟨w.heap.size, 0, none⟩) len cap) := by
  refine ⟨_, _, rfl, hl, .inr ⟨w.heap.size, 0, wd, c, e, (0, 0), by simp [newJ], by simp, ?_, by simpa using hs⟩⟩
  show (w.heap.push _)[_]? = _
  simp
theorem op_buildSlice (T : TyOk C P) (h00 : tsz C 0 = 0) (R : Rel J lb w a st) {t len : Nat} {parts : Array (Nat × Operand)} (e : o.op = .buildSlice t len parts)
    (h : (Nat.ble (len * tsz C (elemT C t)) 16777216 && tsz C (elemT C t) != 0) = true ∧ optK (fill st (fun i => some (i * tsz C (elemT C t), tsz C (elemT C t))) parts.toList (reps len (tze C (elemT C t))).flatten) fun l =>
      cellvs l = true ∧ (!allSc (tze C (elemT C t)) || allSc l) = true ∧
      pushK st ⟨tsz C (elemT C t), allSc (tze C (elemT C t)), chunk (tsz C (elemT C t)) len l⟩ (fun i => .sl i 0 len) K) : o.wp P a w (Nx J w o.dst K) Q := by
  obtain ⟨hb, h⟩ := h
  simp only [Bool.and_eq_true, bne_iff_ne] at hb
  obtain ⟨hb, hz⟩ := hb
  have hb' : len * tsz C (elemT C t) ≤ 16777216 := Nat.le_of_ble_eq_true hb
  obtain ⟨l, hl, hc, hf, h⟩ := optK_some h
  have hd := slice_d T hz h00
  obtain ⟨z, z1, z2, z3⟩ := zero_run (w := w) T hz
  have hzv := zero_VRs J w _ _ z2
  rw [reps_eq] at hl
  obtain ⟨cs, c1, c2, c3⟩ := fill_sound R _ _ _ _ _ (VRs_reps len _ _ hzv) hl
  have hzl : z.cells.toList.length = tsz C (elemT C t) := by simpa using z3
  have hlen : cs.length = len * tsz C (elemT C t) := by
    rw [c3]; simp [z3]
  have hll : l.length = len * tsz C (elemT C t) := by rw [VRs_len _ _ c2, hlen]
  obtain ⟨f1, f2, f3⟩ := flatten_chunk _ hz len l hll
  have hones := cellvs_ones _ _ c2 hc
  simp only [pushK, fl_eq, flH_eq, nk_eq] at h
  have R' := rel_new (ob := ⟨tsz C (elemT C t), allSc (tze C (elemT C t)), chunk (tsz C (elemT C t)) len l⟩) (c := cs.toArray) (e := elemT C t) (cs := cs) R
    (by intro q; simp only [] at q; refine flatRows_of _ ?_; rw [f1]; simpa [q] using hf) f2 (by rw [f1]; exact c2) hones (by intro j v hj; simpa using hj)
  refine done (cv := .slice (some ⟨w.heap.size, 0, none⟩) len len) ?_ R' (new_EV (rows := []) (Nat.le_refl _) (by simp [hlen])) (Ext_new R.inv _ _ _) h Q
  have hsz := size_run (w := w) T hz
  have hmap : (parts.map fun (i, x) => (i, a.eval x)).toList = parts.toList.map fun (i, x) => (i, a.eval x) := by simp
  simp only [execOp, e, Instr.buildSlice, Sem.run_bind, run_underlying hd, Result.andThen_ok, hsz]
  rw [if_neg (by omega)]
  by_cases h0 : len * tsz C (elemT C t) = 0
  · have hl0 : len = 0 := by
      rcases Nat.mul_eq_zero.1 h0 with h | h
      · exact h
      · exact absurd h hz
    subst hl0
    have c1' : Instr.fill (fun i => some (i * tsz C (elemT C t), tsz C (elemT C t))) #[] (parts.toList.map fun (i, x) => (i, a.eval x)) = some cs.toArray := by simpa using c1
    simp [newRow, hmap, c1', Array.range_zero']
  · have hr := range_zero z.cells len (by rw [z3]; exact hz)
    rw [z3] at hr
    simp only [if_neg h0, Sem.run_bind, Sem.run_pure, Result.andThen_ok, z1, z3, hr, hmap, c1]
    simp [newRow]
theorem op_makeSlice (T : TyOk C P) (h00 : tsz C 0 = 0) (R : Rel J lb w a st) {t : Nat} {l c : Operand} (e : o.op = .makeSlice t l c)
    (h : match arg st l, arg st c with
    | some (.i _ n), some (.i _ m) =>
      (0 ≤ n ∧ n ≤ m ∧ m * tby C (elemT C t) ≤ 140737488355328) ∧ (cellvs (tze C (elemT C t)) && tsz C (elemT C t) != 0) = true ∧
        pushK st ⟨tsz C (elemT C t), allSc (tze C (elemT C t)), List.replicate n.toNat (tze C (elemT C t))⟩ (fun i => .sl i 0 n.toNat) K
    | _, _ => False) (hby : ∀ t, tsz C t ≠ 0 → tby C t ≠ 0) : o.wp P a w (Nx J w o.dst K) Q := by
  split at h
  · rename_i k n k' m hn hm
    obtain ⟨⟨h0, h1, h2⟩, hz, h⟩ := h
    simp only [Bool.and_eq_true, bne_iff_ne] at hz
    obtain ⟨hc, hz⟩ := hz
    have hd := slice_d T hz h00
    obtain ⟨x, x1, x2, x3, z, z1, z2, z3, _⟩ := T.i _ hz
    have hzv := zero_VRs J w _ _ z2
    have en : a.eval l = .int k n := arg_EV R l _ hn
    have em : a.eval c = .int k' m := arg_EV R c _ hm
    have hby' := hby _ hz
    have hm64 : m ≤ 140737488355328 := by
      have : m * 1 ≤ m * (tby C (elemT C t) : Int) := Int.mul_le_mul_of_nonneg_left (by omega) (by omega)
      omega
    have wn : IntKind.i64.wrap n = n := by rw [IntKind.wrap_i64]; omega
    have wm : IntKind.i64.wrap m = m := by rw [IntKind.wrap_i64]; omega
    simp only [pushK, fl_eq, flH_eq, nk_eq] at h
    have hones : ∀ v ∈ (List.replicate n.toNat z.cells.toList).flatten, oneV v = true := by
      intro v hv
      simp only [List.mem_flatten, List.mem_replicate] at hv
      obtain ⟨r, ⟨_, rfl⟩, hv⟩ := hv
      exact cellvs_ones _ _ hzv hc v hv
    have hflat : (List.replicate n.toNat (tze C (elemT C t))).flatten = (List.replicate n.toNat (tze C (elemT C t))).flatten := rfl
    have hlt := VRs_len _ _ hzv
    have R' := rel_new (ob := ⟨tsz C (elemT C t), allSc (tze C (elemT C t)), List.replicate n.toNat (tze C (elemT C t))⟩) (c := (List.replicate m.toNat z.cells.toList).flatten.toArray) (e := elemT C t)
      (cs := (List.replicate n.toNat z.cells.toList).flatten) R
      (by
        intro q
        have : ∀ k, flatRows (List.replicate k (tze C (elemT C t))) = true := by
          intro k
          induction k with
          | zero => rfl
          | succ k ih => simp [List.replicate_succ, flatRows, ih]; exact q
        exact this _)
      (by intro r hr; simp at hr; rw [hr.2, hlt]; simpa using z3) (VRs_reps _ _ _ hzv) hones
      (by
        intro j v hj
        have hmn : List.replicate m.toNat z.cells.toList = List.replicate n.toNat z.cells.toList ++ List.replicate (m.toNat - n.toNat) z.cells.toList := by
          rw [List.replicate_append_replicate]; congr 1; omega
        have hjl : j < (List.replicate n.toNat z.cells.toList).flatten.length := by
          rcases Nat.lt_or_ge j (List.replicate n.toNat z.cells.toList).flatten.length with h | h
          · exact h
          · rw [List.getElem?_eq_none h] at hj; simp at hj
        rw [List.getElem?_toArray, hmn, List.flatten_append, List.getElem?_append_left hjl]; exact hj)
    refine done (cv := .slice (some ⟨w.heap.size, 0, none⟩) n.toNat m.toNat) ?_ R' (new_EV (rows := []) (by omega) (by simp [z3])) (Ext_new R.inv _ _ _) h Q
    have hsz := run_sz (w := w) x1
    have hcond : ¬ ((decide (m < 0) || decide ((x.bytes : Int) * m > 2 ^ 48) || decide (n < 0) || decide (n > m)) = true) := by
      have h2' : (x.bytes : Int) * m ≤ 140737488355328 := by rw [x3, Int.mul_comm]; exact h2
      simp only [Bool.or_eq_true, decide_eq_true_eq]
      omega
    simp only [execOp, e, Instr.makeSlice, Sem.run_bind, run_underlying hd, Result.andThen_ok, asInt, asIntOf, en, em, Sem.run_pure, typeInfo, run_program, x1, wn, wm]
    rw [if_neg hcond]
    simp only [Sem.run_bind, run_askRoom, hsz, Result.andThen_ok]
    by_cases h0 : m.toNat * x.size = 0
    · have hm0 : m.toNat = 0 := by
        rcases Nat.mul_eq_zero.1 h0 with h | h
        · exact h
        · rw [x2] at h; exact absurd h hz
      simp [hm0, newRow, Array.range_zero']
    · have hr : (Array.range (m.toNat * x.size)).map (fun i => z.cells[i % z.cells.size]!) = (List.replicate m.toNat z.cells.toList).flatten.toArray := by
        rw [show m.toNat * x.size = m.toNat * z.cells.size from by rw [x2, z3]]
        exact range_zero z.cells m.toNat (by rw [z3]; exact hz)
      simp only [if_neg h0, Sem.run_bind, Sem.run_pure, Result.andThen_ok, zeroValue, typeInfo, run_program, x1, z1, hr]
      simp [newRow]
  · exact h.elim
end Go.Proofs.Ytmblcloikeobdaa.Ev

namespace Go.Proofs.Ytmblcloikeobdaa.Ev
open Go
set_option linter.unusedVariables false
set_option linter.unusedSimpArgs false
variable {C : Cfg} {P : Program} {J J' : Inj} {lb : Nat → Nat} {w w' : World} {a : Act} {st : St} {hp : Hp} {o : Oper} {K : AV → St → Prop} {Q : Exit → Act → World → Prop}

/-! # Rows that are read whole -/
theorem cells_list {blk off n : Nat} {cs : List Value} (hn : cs.length = n) (h : ∀ j v, cs[j]? = some v → w.cell? ⟨blk, off + j, none⟩ = some v) :
    (loadCells ⟨blk, off, none⟩ n).run P w = .ok cs.toArray w := by
  have := run_loadCells_list (P := P) w ⟨blk, off, none⟩ cs (fun j v hj => by rw [Addr.add_lit]; exact h j v hj)
  rwa [hn] at this
theorem cells_take {blk off n m wd : Nat} {cs : List Value} (hn : cs.length = n * wd) (h : ∀ j v, cs[j]? = some v → w.cell? ⟨blk, off + j, none⟩ = some v) (hm : m ≤ n) :
    (loadCells ⟨blk, off, none⟩ (m * wd)).run P w = .ok (cs.take (m * wd)).toArray w := by
  refine cells_list ?_ ?_
  · have : m * wd ≤ n * wd := Nat.mul_le_mul_right _ hm
    simp; omega
  · intro j v hj
    refine h j v ?_
    rw [List.getElem?_take] at hj
    split at hj
    · exact hj
    · simp at hj
theorem sc_sl {id lo len cap : Nat} {v : Value} (h : VR J w (.sc id lo len cap) v) : VR J w (.sl id lo len) v := by
  obtain ⟨blk, base, wd, c, e, fz, hm, rfl, hl, hh, hs⟩ := h
  exact ⟨_, cap, rfl, hl, .inr ⟨blk, base, wd, c, e, fz, hm, rfl, hh, hs⟩⟩
theorem rows_read0 (R : Rel J lb w a st) {fl : Bool} {sz : Nat} {rows : List (List AV)} {x : AV} {cx : Value} (hx : EV J lb w x cx) (h : rowsR st.hp fl sz rows x) :
    ∃ cs : List Value, (Builtin.lenOf cx).run P w = .ok rows.length w ∧ (∀ n, n ≤ rows.length → (Builtin.firstCells sz n cx).run P w = .ok (cs.take (n * sz)).toArray w) ∧ VRs J w rows.flatten cs ∧
      cs.length = rows.length * sz ∧ (∀ r ∈ rows, r.length = sz) ∧ (∀ v ∈ cs, oneV v = true) ∧ (fl = true → flatRows rows = true) := by
  unfold rowsR at h
  split at h
  · subst h
    obtain ⟨a', rfl⟩ := hx
    refine ⟨[], by simp [Builtin.lenOf], ?_, by simp [VRs], by simp, by simp, by simp, fun _ => rfl⟩
    intro n hn
    have hn : n = 0 := by simpa using hn
    subst hn
    cases a' <;> simp [Builtin.firstCells, loadCells, loadCellsFrom]
  · rename_i g fl' wd' r
    obtain ⟨rfl, rfl, rfl⟩ := h
    obtain ⟨a', cap, rfl, hl, hf, hc⟩ := hx
    rcases hc with rfl | ⟨blk, off, rfl, hF, hg, hrows⟩
    · refine ⟨[], by simp [Builtin.lenOf], ?_, by simp [VRs], by simp, by simp, by simp, fun _ => rfl⟩
      intro n hn
      have hn : n = 0 := by simpa using hn
      subst hn
      cases a' <;> simp [Builtin.firstCells, loadCells, loadCellsFrom]
    · obtain ⟨cs, c1, c2, c3, c4, c5⟩ := rows_vals blk _ _ _ hrows
      exact ⟨cs, by simp [Builtin.lenOf], fun n hn => by simpa [Builtin.firstCells] using cells_take c1 c2 hn, VRs_ext (Ext.unM J w) _ _ c3, c1, c5, c4, hf⟩
  · rename_i id lo len
    split at h
    · rename_i ob hob
      obtain ⟨rfl, rfl, hcut⟩ := h
      obtain ⟨e1, e2⟩ := cut_eq _ _ _ _ hcut
      obtain ⟨a', cap, rfl, hl, hc⟩ := hx
      have hO := R.inv.ob id ob hob
      have hflat : ob.fl = true → flatRows rows = true := fun q => by rw [e1]; exact flat_take _ _ (flat_drop _ _ (hO.1 q))
      rcases hc with rfl | ⟨blk, base, wd, c, e', fz, hm, rfl, hh, hs⟩
      · have h0 : rows = [] := List.length_eq_zero_iff.1 (by omega)
        subst h0
        simp at e2
        subst e2
        refine ⟨[], by simp [Builtin.lenOf], ?_, by simp [VRs], by simp, by simp, by simp, hflat⟩
        intro n hn
        have hn : n = 0 := by simpa using hn
        subst hn
        cases a' <;> simp [Builtin.firstCells, loadCells, loadCellsFrom]
      · have h3 := hO.2
        rw [hm] at h3
        obtain ⟨rfl, _, _, _, _, hrows⟩ := h3
        have hr2 : VRrows J w rows ob.wd blk (base + lo * ob.wd) := by rw [e1]; exact VRrows_take _ _ _ _ _ (VRrows_drop _ _ _ _ _ hrows)
        obtain ⟨cs, c1, c2, c3, c4, c5⟩ := rows_vals blk _ _ _ hr2
        refine ⟨cs, by simp [Builtin.lenOf, e2], fun n hn => by simpa [Builtin.firstCells] using cells_take c1 c2 hn, c3, c1, c5, c4, hflat⟩
    · exact h.elim
  · rename_i id lo len cp
    split at h
    · rename_i ob hob
      obtain ⟨rfl, rfl, hcut⟩ := h
      obtain ⟨e1, e2⟩ := cut_eq _ _ _ _ hcut
      obtain ⟨a', cap, rfl, hl, hc⟩ := sc_sl hx
      have hO := R.inv.ob id ob hob
      have hflat : ob.fl = true → flatRows rows = true := fun q => by rw [e1]; exact flat_take _ _ (flat_drop _ _ (hO.1 q))
      rcases hc with rfl | ⟨blk, base, wd, c, e', fz, hm, rfl, hh, hs⟩
      · have h0 : rows = [] := List.length_eq_zero_iff.1 (by omega)
        subst h0
        simp at e2
        subst e2
        refine ⟨[], by simp [Builtin.lenOf], ?_, by simp [VRs], by simp, by simp, by simp, hflat⟩
        intro n hn
        have hn : n = 0 := by simpa using hn
        subst hn
        cases a' <;> simp [Builtin.firstCells, loadCells, loadCellsFrom]
      · have h3 := hO.2
        rw [hm] at h3
        obtain ⟨rfl, _, _, _, _, hrows⟩ := h3
        have hr2 : VRrows J w rows ob.wd blk (base + lo * ob.wd) := by rw [e1]; exact VRrows_take _ _ _ _ _ (VRrows_drop _ _ _ _ _ hrows)
        obtain ⟨cs, c1, c2, c3, c4, c5⟩ := rows_vals blk _ _ _ hr2
        refine ⟨cs, by simp [Builtin.lenOf, e2], fun n hn => by simpa [Builtin.firstCells] using cells_take c1 c2 hn, c3, c1, c5, c4, hflat⟩
    · exact h.elim
  · rename_i z
    obtain ⟨rfl, rfl, rfl⟩ := h
    simp only [EV, VR] at hx; subst hx
    obtain ⟨⟨bs⟩⟩ := z
    have hlen : (byteRows ⟨⟨bs⟩⟩).length = bs.length := by simp [byteRows]
    have hsz : ByteArray.size ⟨⟨bs⟩⟩ = bs.length := rfl
    have hfl : ∀ l : List UInt8, (l.map fun c => [AV.i .u8 (c.toNat : Int)]).flatten = l.map fun c => AV.i .u8 (c.toNat : Int) := by
      intro l; induction l with
      | nil => rfl
      | cons x l ih => simp [ih]
    refine ⟨bs.map fun c => .int .u8 c.toNat, ?_, ?_, ?_, ?_, ?_, ?_, ?_⟩
    · simp only [Builtin.lenOf, Sem.run_pure, hlen, hsz]
    · intro n hn
      simp only [Builtin.firstCells, Sem.run_pure]
      congr 1
      apply Array.ext'
      have he : (ByteArray.extract ⟨⟨bs⟩⟩ 0 n).data.toList = bs.take n := by simp [ByteArray.data_extract, List.extract]
      simp [he, List.map_take]
    · rw [byteRows, hfl]
      have : ∀ l : List UInt8, VRs J w (l.map fun c => AV.i .u8 (c.toNat : Int)) (l.map fun c => .int .u8 (c.toNat : Int)) := by
        intro l; induction l with
        | nil => trivial
        | cons x l ih => exact ⟨rfl, ih⟩
      exact this _
    · rw [hlen]; simp
    · intro r hr; simp only [byteRows, List.mem_map] at hr; obtain ⟨c, _, rfl⟩ := hr; rfl
    · intro v hv; simp only [List.mem_map] at hv; obtain ⟨c, _, rfl⟩ := hv; rfl
    · intro _
      refine flatRows_of _ ?_
      rw [byteRows, hfl]
      have : ∀ l : List UInt8, allSc (l.map fun c => AV.i .u8 (c.toNat : Int)) = true := by
        intro l; induction l with
        | nil => rfl
        | cons x l ih => simpa [allSc, isSc] using ih
      exact this _
  · exact h.elim
theorem rows_read (R : Rel J lb w a st) {fl : Bool} {sz : Nat} {rows : List (List AV)} {x : AV} {cx : Value} (hx : EV J lb w x cx) (h : rowsR st.hp fl sz rows x) :
    ∃ cs : List Value, (Builtin.lenOf cx).run P w = .ok rows.length w ∧ (Builtin.firstCells sz rows.length cx).run P w = .ok cs.toArray w ∧ VRs J w rows.flatten cs ∧
      cs.length = rows.length * sz ∧ (∀ r ∈ rows, r.length = sz) ∧ (∀ v ∈ cs, oneV v = true) ∧ (fl = true → flatRows rows = true) := by
  obtain ⟨cs, h1, h2, h3, h4, h5⟩ := rows_read0 (P := P) R hx h
  have := h2 _ (Nat.le_refl _)
  rw [List.take_of_length_le (by omega)] at this
  exact ⟨cs, h1, this, h3, h4, h5⟩
theorem heap_ext (h : w'.heap = w.heap) (hs : Same3 w w') : Ext J J w w' :=
  ⟨rfl, rfl, rfl, fun _ h => h, fun _ h => .inl h, fun _ _ h => h, by rw [h]; exact Nat.le_refl _, fun _ _ => by rw [h], fun _ c e fz hh => ⟨c, fz, by rw [h]; exact hh, rfl⟩, hs⟩
theorem heap_inv (h : w'.heap = w.heap) (hs : Same3 w w') (hI : Inv J w hp) : Inv J w' hp :=
  ⟨by rw [h]; exact hI.bnd, fun b hb => by rw [h]; exact hI.Fb b hb, fun b hb => by rw [h]; exact hI.Kb b hb,
   fun id ob ho => ObR_ext (heap_ext h hs) (hI.ob id ob ho) rfl (fun _ _ => by rw [h]), hI.inj, hI.dom, gl_ext (heap_ext h hs) hI.gl⟩
theorem heap_rel (h : w'.heap = w.heap) (hs : Same3 w w') (R : Rel J lb w a st) : Rel J lb w' a st :=
  rel_step R (heap_ext h hs) (heap_inv h hs R.inv) (fun _ _ => by rw [h]) R.bobj
/-- An object goes: nothing is known of it any more. -/
theorem Inv_kill (hI : Inv J w hp) (id : Nat) : Inv J w (upd hp id none) := by
  have old : ∀ i o, at? (upd hp id none) i = some (some o) → at? hp i = some (some o) := by
    intro i o h
    rcases at?_upd h with ⟨_, h, _⟩ | ⟨_, h⟩
    · simp at h
    · exact h
  exact ⟨hI.bnd, hI.Fb, hI.Kb, fun i o h => hI.ob i o (old i o h), fun i i' x x' ⟨o1, h1⟩ ⟨o2, h2⟩ => hI.inj i i' x x' ⟨o1, old _ _ h1⟩ ⟨o2, old _ _ h2⟩,
    fun i x h => by rw [upd_eq]; simpa using hI.dom i x h, hI.gl⟩
theorem rel_kill (R : Rel J lb w a st) (id : Nat) : Rel J lb w a ⟨st.env, st.bx, upd st.hp id none⟩ :=
  rel_step R (Ext.refl _ _) (Inv_kill R.inv id) (fun _ _ => rfl) fun s i x hs ⟨o, ho⟩ hx => by
    rcases at?_upd ho with ⟨_, h, _⟩ | ⟨_, h⟩
    · simp at h
    · exact R.bobj s i x hs ⟨o, h⟩ hx
/-- Rows that come to nothing. -/
theorem rel_none (R : Rel J lb w a st) (ob : Ob) (h : ob.rows = []) : Rel J lb w a ⟨st.env, st.bx, st.hp ++ [some ob]⟩ := by
  have hI : Inv J w (st.hp ++ [some ob]) := by
    refine ⟨R.inv.bnd, R.inv.Fb, R.inv.Kb, ?_, ?_, ?_, R.inv.gl⟩
    · intro i o ho
      rcases at?_app_old ho with ⟨_, ho⟩ | ⟨rfl, h2⟩
      · exact R.inv.ob i o ho
      · have e : o = ob := by simpa using h2
        subst e
        have : J.m st.hp.length = none := by
          cases hm : J.m st.hp.length with
          | none => rfl
          | some x => exact absurd (R.inv.dom _ _ hm) (Nat.lt_irrefl _)
        refine ⟨fun _ => by rw [h]; rfl, ?_⟩
        rw [this]; exact h
    · intro i i' x x' ⟨o1, h1⟩ ⟨o2, h2⟩ hx hx' he
      have c1 := R.inv.dom _ _ hx
      have c2 := R.inv.dom _ _ hx'
      rcases at?_app_old h1 with ⟨_, h1⟩ | ⟨e1, _⟩
      · rcases at?_app_old h2 with ⟨_, h2⟩ | ⟨e2, _⟩
        · exact R.inv.inj i i' x x' ⟨_, h1⟩ ⟨_, h2⟩ hx hx' he
        · omega
      · omega
    · intro i x hx
      have := R.inv.dom i x hx
      simp; omega
  refine rel_step R (Ext.refl _ _) hI (fun _ _ => rfl) ?_
  intro s i x hs ⟨o, ho⟩ hx
  have c1 := R.inv.dom _ _ hx
  rcases at?_app_old ho with ⟨_, ho⟩ | ⟨e1, _⟩
  · exact R.bobj s i x hs ⟨o, ho⟩ hx
  · omega
end Go.Proofs.Ytmblcloikeobdaa.Ev

namespace Go.Proofs.Ytmblcloikeobdaa.Ev
open Go
set_option linter.unusedVariables false
set_option linter.unusedSimpArgs false
variable {C : Cfg} {P : Program} {J J' : Inj} {lb : Nat → Nat} {w w' : World} {a : Act} {st : St} {hp : Hp} {o : Oper} {K : AV → St → Prop} {Q : Exit → Act → World → Prop}

/-! # append -/
theorem append_room {ts : Array TypeId} {t t1 ty e : TypeId} {x : TypeInfo} (h0 : ts[0]? = some t) (hu : P.underlying t = some (.slice e)) (h1 : ts[1]? = some t1)
    (hk : (∃ k, P.underlying t1 = some (.slice k)) ∨ P.underlying t1 = some .string) (hi : P.info? e = some x) {ao : Option Addr} {n cap m : Nat} {news : List Value} {cx : Value}
    (hl : (Builtin.lenOf cx).run P w = .ok m w) (hf : (Builtin.firstCells x.size m cx).run P w = .ok news.toArray w) (hroom : n + m ≤ cap) :
    (Builtin.append_ ts ty #[.slice ao n cap, cx]).run P w = (match ao with | some a => (storeCells (a.add (n * x.size)) news).run P w | none => .ok () w).andThen fun _ w' => .ok (.slice ao (n + m) cap) w' := by
  rcases hk with ⟨k, hk⟩ | hk <;> cases ao <;> simp [Builtin.append_, h0, h1, run_underlying hu, run_underlying hk, sizeOf, typeInfo, hi, hl, hf, hroom]
theorem append_grow {ts : Array TypeId} {t t1 ty e : TypeId} {x : TypeInfo} {z : Value} (h0 : ts[0]? = some t) (hu : P.underlying t = some (.slice e)) (h1 : ts[1]? = some t1)
    (hk : (∃ k, P.underlying t1 = some (.slice k)) ∨ P.underlying t1 = some .string) (hi : P.info? e = some x) (hz : x.zero = some z) {ao : Option Addr} {n cap m : Nat} {olds news : List Value} {cx : Value}
    (hl : (Builtin.lenOf cx).run P w = .ok m w) (hf : (Builtin.firstCells x.size m cx).run P w.drew = .ok news.toArray w.drew)
    (ho : (Builtin.firstCells x.size n (.slice ao n cap)).run P w.drew = .ok olds.toArray w.drew) (hg : cap < n + m) (hb0 : x.bytes ≠ 0) (hb : (n + m) * x.bytes ≤ 140737488355328) :
    (Builtin.append_ ts ty #[.slice ao n cap, cx]).run P w = .ok (.slice (some ⟨w.heap.size, 0, none⟩) (n + m) (grownCap w (n + m) cap e))
      (w.drew.alloc (.cells (olds ++ news ++ (Builtin.zeroCells z.cells (grownCap w (n + m) cap e - (n + m))).toList).toArray e)) := by
  have hn : ¬ (n + m ≤ cap) := by omega
  have hfit := growslice_fits hg hb
  have h48' : ¬ (281474976710656 < Builtin.nextslicecap (n + m) cap * x.bytes) := by omega
  have h63 : n + m ≤ 140737488355328 := by
    have : (n + m) * 1 ≤ (n + m) * x.bytes := Nat.mul_le_mul_left _ (by omega)
    omega
  have h63' : ¬ (9223372036854775807 < ((n : Int) + (m : Int))) := by omega
  rcases hk with ⟨k, hk⟩ | hk <;>
    simp [Builtin.append_, h0, h1, run_underlying hu, run_underlying hk, sizeOf, typeInfo, zeroValue, hi, hz, hl, hf, ho, hn, h63', h48', Question.forced, newRow, grownCap]
  all_goals
    congr 2
    apply Array.ext'
    simp [List.append_assoc]
/-- Rows that lie on in the block of an object that goes. -/
def placeJ (J : Inj) (n blk base wd : Nat) : Inj := { J with m := fun i => if i = n then some (blk, base, wd) else J.m i }
theorem rel_place (R : Rel J lb w a st) {id blk base wd lo n : Nat} {ob ob' : Ob} {vs cs : List Value} (hob : at? st.hp id = some (some ob)) (hm : J.m id = some (blk, base, wd))
    (W : Wrote w w' blk n vs) (hO' : Own w' blk) (hwd : ob'.wd = wd) (hfl : ob'.fl = true → flatRows ob'.rows = true) (hw : ∀ r ∈ ob'.rows, r.length = wd) (hv : VRs J w ob'.rows.flatten cs) (h1 : ∀ v ∈ cs, oneV v = true)
    (hc : ∀ j v, cs[j]? = some v → w'.cell? ⟨blk, base + lo * wd + j, none⟩ = some v) :
    Rel (placeJ J st.hp.length blk (base + lo * wd) wd) lb w' a ⟨st.env, st.bx, upd st.hp id none ++ [some ob']⟩ ∧ Ext J (placeJ J st.hp.length blk (base + lo * wd) wd) w w' := by
  have h0 := (R.inv.ob id ob hob).2
  rw [hm] at h0
  obtain ⟨rfl, hF, hK, hb, hO, _⟩ := h0
  have E0 : Ext J J w w' := W.ext hF hK
  have E : Ext J (placeJ J st.hp.length blk (base + lo * ob.wd) ob.wd) w w' := ⟨rfl, rfl, rfl, E0.F, E0.Fnew, fun i x hx => by
    have := R.inv.dom i x hx
    simp [placeJ, Nat.ne_of_lt this, hx], E0.size, E0.keep, E0.shape, E0.same⟩
  have hlen : (upd st.hp id none).length = st.hp.length := by rw [upd_eq]; simp
  have old : ∀ i o, at? (upd st.hp id none ++ [some ob']) i = some (some o) → (i < st.hp.length ∧ i ≠ id ∧ at? st.hp i = some (some o)) ∨ (i = st.hp.length ∧ o = ob') := by
    intro i o h
    rcases at?_app_old h with ⟨hlt, h⟩ | ⟨hi, h⟩
    · rcases at?_upd h with ⟨_, h, _⟩ | ⟨hne, h⟩
      · simp at h
      · exact .inl ⟨by omega, fun e => hne e.symm, h⟩
    · exact .inr ⟨by omega, by simpa using h⟩
  have hI : Inv (placeJ J st.hp.length blk (base + lo * ob.wd) ob.wd) w' (upd st.hp id none ++ [some ob']) := by
    refine ⟨by rw [W.size]; exact R.inv.bnd, fun b h => by rw [W.size]; exact R.inv.Fb b h, fun b h => by rw [W.size]; exact R.inv.Kb b h, ?_, ?_, ?_, gl_ext E R.inv.gl⟩
    · intro i o h
      rcases old i o h with ⟨hlt, hne, h⟩ | ⟨rfl, rfl⟩
      · refine ObR_ext E (R.inv.ob i o h) (by simp [placeJ, Nat.ne_of_lt hlt]) ?_
        intro x hx
        refine W.other _ fun e => hne ?_
        exact R.inv.inj i id _ _ ⟨_, h⟩ ⟨_, hob⟩ hx hm e
      · refine ⟨hfl, ?_⟩
        have hmm : (placeJ J st.hp.length blk (base + lo * ob.wd) ob.wd).m st.hp.length = some (blk, base + lo * ob.wd, ob.wd) := by simp [placeJ]
        rw [hmm]
        refine ⟨hwd.symm, hF, hK, hb, hO', ?_⟩
        rw [hwd]
        exact VRrows_of _ _ _ cs _ hw (VRs_ext E _ _ hv) h1 hc
    · intro i i' x x' ⟨o1, g1⟩ ⟨o2, g2⟩ hx hx' he
      rcases old i o1 g1 with ⟨l1, n1, g1⟩ | ⟨rfl, _⟩ <;> rcases old i' o2 g2 with ⟨l2, n2, g2⟩ | ⟨rfl, _⟩
      · simp only [placeJ, Nat.ne_of_lt l1, Nat.ne_of_lt l2, ↓reduceIte] at hx hx'
        exact R.inv.inj i i' x x' ⟨_, g1⟩ ⟨_, g2⟩ hx hx' he
      · simp only [placeJ, Nat.ne_of_lt l1, ↓reduceIte] at hx hx'
        simp at hx'; subst hx'
        exact absurd (R.inv.inj i id _ _ ⟨_, g1⟩ ⟨_, hob⟩ hx hm he) n1
      · simp only [placeJ, Nat.ne_of_lt l2, ↓reduceIte] at hx hx'
        simp at hx; subst hx
        exact absurd (R.inv.inj id i' _ _ ⟨_, hob⟩ ⟨_, g2⟩ hm hx' he) (Ne.symm n2)
      · rfl
    · intro i x hx
      simp only [placeJ] at hx
      simp only [List.length_append, hlen, List.length_cons, List.length_nil]
      split at hx
      · omega
      · have := R.inv.dom i x hx; omega
  refine ⟨rel_step R E hI ?_ ?_, E⟩
  · intro s hs
    exact W.other _ fun e => R.bobj s id _ hs ⟨_, hob⟩ hm e.symm
  · intro s i x hs ⟨o1, g1⟩ hx
    rcases old i o1 g1 with ⟨l1, n1, g1⟩ | ⟨rfl, _⟩
    · simp only [placeJ, Nat.ne_of_lt l1, ↓reduceIte] at hx
      exact R.bobj s i x hs ⟨_, g1⟩ hx
    · simp [placeJ] at hx; subst hx
      exact R.bobj s id (blk, base, ob.wd) hs ⟨_, hob⟩ hm
theorem call_builtin {c : Call} {b : Builtin} (e : o.op = .call c) (hb : c.callee = .builtin b) {s : Sem Value} (hs : ∀ consts, builtin b c.argTypes o.type consts (c.args.map a.eval) = (do pure (.value (← s)))) {v : Value}
    (h : s.run P w = .ok v w') : (execOp a.eval o).run P w = .ok (.value v) w' := by
  simp [execOp, e, resolve, hb, invoke, hs, h]
theorem slice0 (T : TyOk C P) {ts : Array TypeId} (h : tsz C (elemT C (ts.toList.headD 0)) ≠ 0) : ts[0]? = some (ts.toList.headD 0) ∧ P.underlying (ts.toList.headD 0) = some (.slice (elemT C (ts.toList.headD 0))) := by
  refine ⟨?_, slice_d T h T.z0⟩
  obtain ⟨l⟩ := ts
  cases l with
  | nil => simp [elemT, T.o0, T.z0] at h
  | cons x l => simp
theorem appT (T : TyOk C P) {ts : Array TypeId} (h : appTy (tyd C (ts.toList.getD 1 0)) = true) :
    ∃ t1, ts[1]? = some t1 ∧ ((∃ k, P.underlying t1 = some (.slice k)) ∨ P.underlying t1 = some .string) := by
  have h1 : ts[1]? = some (ts.toList.getD 1 0) := by
    obtain ⟨l⟩ := ts
    match l with
    | [] => simp [appTy, T.o0] at h
    | [x] => simp [appTy, T.o0] at h
    | x :: y :: l => simp
  refine ⟨_, h1, ?_⟩
  have hd := T.d (ts.toList.getD 1 0)
  generalize tyd C (ts.toList.getD 1 0) = q at h hd
  cases q <;> simp [appTy] at h
  · exact .inr hd
  · exact .inl ⟨_, hd⟩
theorem VRs_nil {cs : List Value} (h : VRs J w [] cs) : cs = [] := by
  cases cs with
  | nil => rfl
  | cons _ _ => exact h.elim
theorem flatRows_app : ∀ (l r : List (List AV)), flatRows l = true → flatRows r = true → flatRows (l ++ r) = true
  | [], r, _, h => h
  | x :: l, r, h, h' => by simp [flatRows] at h ⊢; exact ⟨h.1, flatRows_app l r h.2 h'⟩
theorem grownCap_ge' (w : World) {n m cap : Nat} {e : TypeId} : n + m ≤ grownCap w (n + m) cap e := grownCap_ge w (n + m) cap e
theorem append_cap {wd k : Nat} {l : List Value} {z : Array Value} (hl : l.length = k * wd) (hz : z.size = wd) {g : Nat} (hg : k ≤ g) :
    0 + (0 + g) * wd ≤ (l ++ (Builtin.zeroCells z (g - k)).toList).toArray.size := by
  simp [Builtin.zeroCells, hl, hz, ← Nat.add_mul]
  exact Nat.le_of_eq (by congr 1; omega)
theorem args2' {x y : AV} (R : Rel J lb w a st) {c : Call} (hl : args? st c.args.toList = some [x, y]) : ∃ cx cy, c.args.map a.eval = #[cx, cy] ∧ EV J lb w x cx ∧ EV J lb w y cy := by
  have hx := args_EVs R _ _ hl
  have he : (c.args.map a.eval) = (c.args.toList.map a.eval).toArray := by cases c.args; simp
  rw [he]
  generalize c.args.toList.map a.eval = L at hx
  match L, hx with
  | [cx, cy], hx => exact ⟨cx, cy, rfl, hx.1, hx.2.1⟩
  | [], hx => exact hx.elim
  | [_], hx => exact hx.2.elim
  | _ :: _ :: _ :: _, hx => exact hx.2.2.elim
theorem append_zeros {ts : Array TypeId} {t tn ty e : TypeId} {x : TypeInfo} {z : Value} {kn kq : IntKind} (h0 : ts[0]? = some t) (hu : P.underlying t = some (.slice e)) (h1 : ts[1]? = some tn) (htn : P.underlying tn = some (.int kn))
    (hi : P.info? e = some x) (hz : x.zero = some z) {ao : Option Addr} {n cap k : Nat} {olds : List Value} (hold : (Builtin.firstCells x.size n (.slice ao n cap)).run P w.drew = .ok olds.toArray w.drew)
    (hk0 : 0 < k) (hs : 0 < x.size) (hg : cap < n + k) (hb0 : x.bytes ≠ 0) (hb : (n + k) * x.bytes ≤ 140737488355328) :
    (Builtin.append_ ts ty #[.slice ao n cap, .int kq k]).run P w = .ok (.slice (some ⟨w.heap.size, 0, none⟩) (n + k) (grownCap w (n + k) cap e))
      (w.drew.alloc (.cells (olds.toArray ++ Builtin.zeroCells z.cells k ++ Builtin.zeroCells z.cells (grownCap w (n + k) cap e - (n + k))) e)) := by
  have hfit := growslice_fits hg hb
  have h63 : n + k ≤ 140737488355328 := by
    have : (n + k) * 1 ≤ (n + k) * x.bytes := Nat.mul_le_mul_left _ (by omega)
    omega
  have hk : k ≠ 0 := by omega
  have hw : IntKind.i64.wrap (k : Int) = k := by rw [IntKind.wrap_i64]; omega
  have hn : ¬ (n + k ≤ cap) := by omega
  have h63' : ¬ (9223372036854775807 < ((n : Int) + (k : Int))) := by omega
  have h48' : ¬ (281474976710656 < Builtin.nextslicecap (n + k) cap * x.bytes) := by omega
  have h48i : ¬ (281474976710656 < (k : Int) * (x.bytes : Int)) := by
    rw [← Int.natCast_mul]
    have : k * x.bytes ≤ (n + k) * x.bytes := Nat.mul_le_mul_right _ (by omega)
    omega
  have hneg : ¬ ((k : Int) < 0) := by omega
  have hns : ¬ (k * x.size = 0) := Nat.mul_ne_zero hk (by omega)
  simp [Builtin.append_, h0, h1, run_underlying hu, run_underlying htn, sizeOf, typeInfo, zeroValue, hi, hz, asInt, asIntOf, hw, hn, hneg, hns, h63', h48', h48i, Question.forced, hold, newRow, grownCap]
theorem flat_reps {l : List AV} (h : allSc l = true) : ∀ k, flatRows (List.replicate k l) = true
  | 0 => rfl
  | k + 1 => by simp [List.replicate_succ, flatRows, flat_reps h k]; exact h
theorem intT (T : TyOk C P) {ts : Array TypeId} (h : isIntTy (tyd C (ts.toList.getD 1 0)) = true) : ∃ t1 k, ts[1]? = some t1 ∧ P.underlying t1 = some (.int k) := by
  have h1 : ts[1]? = some (ts.toList.getD 1 0) := by
    obtain ⟨l⟩ := ts
    match l with
    | [] => simp [isIntTy, T.o0] at h
    | [x] => simp [isIntTy, T.o0] at h
    | x :: y :: l => simp
  have hd := T.d (ts.toList.getD 1 0)
  generalize tyd C (ts.toList.getD 1 0) = q at h hd
  cases q <;> simp [isIntTy] at h
  exact ⟨_, _, h1, hd⟩
theorem op_appZ (T : TyOk C P) (R : Rel J lb w a st) {c : Call} (e : o.op = .call c) (hb : c.callee = .builtin .append) {id lo len cap : Nat} {kq : IntKind} {n : Int} (hl : args? st c.args.toList = some [.sc id lo len cap, .i kq n])
    (hq : (isIntTy (tyd C (c.argTypes.toList.getD 1 0)) && tsz C (elemT C (c.argTypes.toList.headD 0)) != 0 && cellvs (tze C (elemT C (c.argTypes.toList.headD 0)))) = true)
    (h : appZ C (elemT C (c.argTypes.toList.headD 0)) id lo len cap n st K) : o.wp P a w (Nx J w o.dst K) Q := by
  simp only [Bool.and_eq_true, bne_iff_ne] at hq
  obtain ⟨⟨hap, hz⟩, hcv⟩ := hq
  obtain ⟨h0, hu⟩ := slice0 T hz
  obtain ⟨i, x1, x2, x3, z, z1, z2, z3, _⟩ := T.i _ hz
  have hb0 := T.by0 _ hz
  obtain ⟨tn, kn, h1, htn⟩ := intT T hap
  obtain ⟨cx, cy, hargs, ex, ey⟩ := args2' R hl
  have ey' : cy = .int kq n := ey
  subst ey'
  have hzv := zero_VRs J w.drew _ _ z2
  generalize elemT C (c.argTypes.toList.headD 0) = el at *
  generalize c.argTypes.toList.headD 0 = tt at *
  obtain ⟨old, hold, ⟨hn0, hcap, hbytes⟩, h⟩ := h
  obtain ⟨k, rfl⟩ : ∃ k : Nat, n = k := ⟨n.toNat, by omega⟩
  have hk0 : 0 < k := by omega
  have hdr : w.drew.heap = w.heap := rfl
  have Ed : Ext J J w w.drew := heap_ext hdr ⟨rfl, rfl, rfl⟩
  have Rd : Rel J lb w.drew a st := heap_rel hdr ⟨rfl, rfl, rfl⟩ R
  obtain ⟨ov, o1, o2, o3, o4, o5, o6, o7⟩ := rows_read (P := P) Rd (EV_ext Ed _ _ ex) hold
  have hlen : old.length = len := by
    simp only [rowsR] at hold
    split at hold
    · exact (cut_eq _ _ _ _ hold.2.2).2
    · exact hold.elim
  obtain ⟨blk, base, wd, cc, e', fz, hm, rfl, hle, hh, hs⟩ := ex
  have hsz : i.size = tsz C el := x2
  have hby : i.bytes = tby C el := x3
  have hbn : (len + k) * i.bytes ≤ 140737488355328 := by
    rw [hby]
    have e9 : (((len + k) * tby C el : Nat) : Int) = ((len : Int) + (k : Int)) * (tby C el : Nat) := by rw [Int.natCast_mul, Int.natCast_add]
    rw [← e9] at hbytes
    generalize (len + k) * tby C el = q at *
    omega
  have hr := append_zeros (w := w) (P := P) (ty := o.type) (kq := kq) h0 hu h1 htn x1 z1 (ao := some ⟨blk, base + lo * wd, none⟩) (n := len) (cap := cap) (k := k) (olds := ov)
    (by rw [hsz]; rw [hlen] at o2; exact o2) hk0 (by rw [hsz]; omega) (by omega) (by rw [hby]; exact hb0) hbn
  have hrun : ∀ {v w'}, (Builtin.append_ c.argTypes o.type #[.slice (some ⟨blk, base + lo * wd, none⟩) len cap, .int kq (k : Int)]).run P w = .ok v w' → (execOp a.eval o).run P w = .ok (.value v) w' := by
    intro v w' hr
    refine call_builtin e hb (s := Builtin.append_ c.argTypes o.type #[.slice (some ⟨blk, base + lo * wd, none⟩) len cap, .int kq (k : Int)]) ?_ hr
    intro consts; rw [hargs]; rfl
  simp only [pushK, fl_eq, flH_eq, nk_eq, Int.toNat_natCast] at h
  have hzl : z.cells.toList.length = tsz C el := by simpa using z3
  have hz0 : z.cells.size ≠ 0 := by rw [z3]; exact hz
  have hcells : ∀ m, (Builtin.zeroCells z.cells m).toList = (List.replicate m z.cells.toList).flatten := fun m => by
    have := range_zero z.cells m hz0
    simp only [Builtin.zeroCells, this]
  have hones : ∀ v ∈ ov ++ (List.replicate k z.cells.toList).flatten, oneV v = true := by
    intro v hv
    rcases List.mem_append.1 hv with hv | hv
    · exact o6 v hv
    · simp only [List.mem_flatten, List.mem_replicate] at hv
      obtain ⟨r, ⟨_, rfl⟩, hv⟩ := hv
      exact cellvs_ones _ _ hzv hcv v hv
  have hvs : VRs J w.drew (old ++ List.replicate k (tze C el)).flatten (ov ++ (List.replicate k z.cells.toList).flatten) := by
    rw [List.flatten_append]; exact VRs_app _ _ _ _ o3 (VRs_reps _ _ _ hzv)
  have hw : ∀ r ∈ old ++ List.replicate k (tze C el), r.length = tsz C el := by
    intro r hr
    rcases List.mem_append.1 hr with hr | hr
    · exact o5 r hr
    · rw [List.mem_replicate] at hr
      rw [hr.2, VRs_len _ _ hzv, hzl]
  have hgc := grownCap_ge w (len + k) cap el
  have R' := rel_new (ob := ⟨tsz C el, allSc (tze C el), old ++ List.replicate k (tze C el)⟩) (c := ov.toArray ++ Builtin.zeroCells z.cells k ++ Builtin.zeroCells z.cells (grownCap w (len + k) cap el - (len + k))) (e := el)
    (cs := ov ++ (List.replicate k z.cells.toList).flatten) Rd (fun q => flatRows_app _ _ (o7 q) (flat_reps q k)) hw hvs hones (by
      intro j v hj
      rw [← hcells k] at hj
      have hsz2 : j < (ov ++ (Builtin.zeroCells z.cells k).toList).length := by
        rcases Nat.lt_or_ge j (ov ++ (Builtin.zeroCells z.cells k).toList).length with q | q
        · exact q
        · rw [List.getElem?_eq_none q] at hj; simp at hj
      rw [← Array.getElem?_toList]
      simp only [Array.toList_append]
      rw [List.getElem?_append_left (by simpa using hsz2)]
      exact hj)
  refine done (cv := .slice (some ⟨w.heap.size, 0, none⟩) (len + k) (grownCap w (len + k) cap el)) (hrun hr) R' (new_EV (w := w.drew) (rows := []) (wd := tsz C el) hgc ?_) (Ed.trans (Ext_new Rd.inv _ _ _)) h Q
  have e1 : ov.length = len * tsz C el := by rw [o4, hlen]
  have e2 : ∀ m, (Builtin.zeroCells z.cells m).size = m * tsz C el := fun m => by
    rw [← Array.length_toList, hcells]; simp [z3]
  simp only [Array.size_append, List.size_toArray, e1, e2]
  have : grownCap w (len + k) cap el * tsz C el = (len + k) * tsz C el + (grownCap w (len + k) cap el - (len + k)) * tsz C el := by
    rw [← Nat.add_mul]; congr 1; omega
  rw [this, Nat.add_mul]
  exact Nat.le_refl _
theorem op_append (T : TyOk C P) (R : Rel J lb w a st) {c : Call} (e : o.op = .call c) (hb : c.callee = .builtin .append) {l : List AV} (hl : args? st c.args.toList = some l)
    (h : builtinP C false c.argTypes.toList .append l st K) : o.wp P a w (Nx J w o.dst K) Q := by
  have hx := args_EVs R _ _ hl
  simp only [builtinP] at h
  split at h
  · obtain ⟨_, hq, h⟩ := h
    exact op_appZ T R e hb hl hq h
  · rename_i x y hne
    clear hne
    obtain ⟨_, hq, old, new, hold, hnew, hbytes, h⟩ := h
    simp only [Bool.and_eq_true, bne_iff_ne] at hq
    obtain ⟨hap, hz⟩ := hq
    obtain ⟨h0, hu⟩ := slice0 T hz
    obtain ⟨t1, h1, hk⟩ := appT T hap
    obtain ⟨i, x1, x2, x3, z, z1, z2, z3, _⟩ := T.i _ hz
    have hb0 := T.by0 _ hz
    generalize elemT C (c.argTypes.toList.headD 0) = el at *
    generalize c.argTypes.toList.headD 0 = tt at *
    have hargs : ∃ cx cy, c.args.map a.eval = #[cx, cy] ∧ EV J lb w x cx ∧ EV J lb w y cy := by
      have he : (c.args.map a.eval) = (c.args.toList.map a.eval).toArray := by cases c.args; simp
      rw [he]
      generalize c.args.toList.map a.eval = L at hx
      match L, hx with
      | [cx, cy], hx => exact ⟨cx, cy, rfl, hx.1, hx.2.1⟩
      | [], hx => exact hx.elim
      | [_], hx => exact hx.2.elim
      | _ :: _ :: _ :: _, hx => exact hx.2.2.elim
    obtain ⟨cx, cy, hargs, ex, ey⟩ := hargs
    have hdr : w.drew.heap = w.heap := rfl
    have Ed : Ext J J w w.drew := heap_ext hdr ⟨rfl, rfl, rfl⟩
    have Rd : Rel J lb w.drew a st := heap_rel hdr ⟨rfl, rfl, rfl⟩ R
    obtain ⟨nv, n1, n2, n3, n4, n5, n6, n7⟩ := rows_read (P := P) R ey hnew
    obtain ⟨nv', m1, m2, m3, m4, m5, m6, m7⟩ := rows_read (P := P) Rd (EV_ext Ed _ _ ey) hnew
    obtain ⟨ov, o1, o2, o3, o4, o5, o6, o7⟩ := rows_read (P := P) Rd (EV_ext Ed _ _ ex) hold
    have hsz : i.size = tsz C el := x2
    have hby : i.bytes = tby C el := x3
    have hrun : ∀ {v w'}, (Builtin.append_ c.argTypes o.type #[cx, cy]).run P w = .ok v w' → (execOp a.eval o).run P w = .ok (.value v) w' := by
      intro v w' hr
      refine call_builtin e hb (s := Builtin.append_ c.argTypes o.type #[cx, cy]) ?_ hr
      intro consts; rw [hargs]; rfl
    have hflat : allSc (tze C el) = true → flatRows (old ++ new) = true := fun q => flatRows_app _ _ (o7 q) (n7 q)
    have hw : ∀ r ∈ old ++ new, r.length = tsz C el := by
      intro r hr
      rcases List.mem_append.1 hr with hr | hr
      · exact o5 r hr
      · exact n5 r hr
    have hvs : VRs J w.drew (old ++ new).flatten (ov ++ nv') := by rw [List.flatten_append]; exact VRs_app _ _ _ _ o3 m3
    have hones : ∀ v ∈ ov ++ nv', oneV v = true := by
      intro v hv
      rcases List.mem_append.1 hv with hv | hv
      · exact o6 v hv
      · exact m6 v hv
    have hlens : (ov ++ nv').length = (old.length + new.length) * tsz C el := by simp [o4, m4, Nat.add_mul]
    split at h
    · -- nil
      obtain ⟨ao, rfl⟩ := ex
      have hold0 : old = [] := hold
      subst hold0
      simp only [List.length_nil, Nat.zero_add, List.nil_append] at *
      have hov : ov = [] := VRs_nil o3
      subst hov
      simp only [pushK, fl_eq, flH_eq, nk_eq] at h
      by_cases hnew0 : new.length = 0
      · have : new = [] := List.length_eq_zero_iff.1 hnew0
        subst this
        have hnv := VRs_nil n3
        subst hnv
        have hr := append_room (w := w) (P := P) (ao := ao) (ty := o.type) h0 hu h1 hk x1 (n := 0) (cap := 0) (m := 0) (cx := cy) (news := []) (by simpa using n1) (by rw [hsz]; simpa using n2) (by omega)
        have hE : EV J lb w (.sl st.hp.length 0 0) (.slice ao 0 0) := ⟨ao, 0, rfl, Nat.le_refl _, .inl rfl⟩
        refine done (cv := .slice ao 0 0) (hrun (w' := w) ?_) (rel_none R ⟨tsz C el, allSc (tze C el), []⟩ rfl) hE (Ext.refl _ _) (by simpa using h) Q
        rw [hr]
        cases ao <;> simp [storeCells]
      · have hr := append_grow (w := w) (P := P) (ao := ao) (ty := o.type) h0 hu h1 hk x1 z1 (n := 0) (cap := 0) (m := new.length) (cx := cy) (news := nv') (olds := []) n1 (by rw [hsz]; exact m2)
          (by rw [hsz]; cases ao <;> simp [Builtin.firstCells, loadCells, loadCellsFrom]) (by omega) (by rw [hby]; exact hb0) (by rw [hby]; simpa using hbytes)
        simp only [Nat.zero_add, List.nil_append] at hr
        have R' := rel_new (ob := ⟨tsz C el, allSc (tze C el), new⟩) (c := (nv' ++ (Builtin.zeroCells z.cells (grownCap w new.length 0 el - new.length)).toList).toArray) (e := el) (cs := nv') Rd hflat hw (by simpa using hvs) m6
          (by intro j v hj; rw [List.getElem?_toArray, List.getElem?_append_left]; exact hj
              rcases Nat.lt_or_ge j nv'.length with q | q
              · exact q
              · rw [List.getElem?_eq_none q] at hj; simp at hj)
        refine done (cv := .slice (some ⟨w.heap.size, 0, none⟩) new.length (grownCap w new.length 0 el)) (hrun hr) R' (new_EV (w := w.drew) (rows := []) (grownCap_ge w _ _ _) ?_) (Ed.trans (Ext_new Rd.inv _ _ _)) h Q
        have := append_cap (g := grownCap w new.length 0 el) m4 z3 (grownCap_ge w _ _ _)
        simpa using this
    · rename_i id lo len
      obtain ⟨ao, cap, rfl, hlc, hcap⟩ := ex
      simp only [rowsR] at hold
      split at hold
      · rename_i ob hob
        obtain ⟨hobf, hobw, hcut⟩ := hold
        obtain ⟨e1, e2⟩ := cut_eq _ _ _ _ hcut
        have hO := R.inv.ob id ob hob
        simp only [setK, updK_eq, pushK, fl_eq, flH_eq, nk_eq] at h
        by_cases hroom : old.length + new.length ≤ cap
        · have hr := append_room (w := w) (P := P) (ao := ao) (ty := o.type) h0 hu h1 hk x1 (n := len) (cap := cap) (m := new.length) (cx := cy) (news := nv) n1 (by rw [hsz]; exact n2) (by omega)
          rcases hcap with rfl | ⟨blk, base, wd, cc, e', fz, hm, rfl, hh, hs⟩
          · have ho0 : old = [] := List.length_eq_zero_iff.1 (by omega)
            have hn0 : new = [] := List.length_eq_zero_iff.1 (by omega)
            subst ho0; subst hn0
            have hnv := VRs_nil n3
            subst hnv
            simp at e2
            subst e2
            have hE : EV J lb w (.sl (upd st.hp id none).length 0 0) (.slice ao 0 0) := ⟨ao, 0, rfl, Nat.le_refl _, .inl rfl⟩
            refine done (cv := .slice ao 0 0) (hrun (w' := w) ?_) (rel_none (rel_kill R id) ⟨tsz C el, allSc (tze C el), []⟩ rfl) hE (Ext.refl _ _) (by simpa using h) Q
            rw [hr]
            cases ao <;> simp [storeCells]
          · have hO2 := hO.2
            rw [hm] at hO2
            obtain ⟨rfl, hF, hK, hbs, hOw, hrows⟩ := hO2
            have hr2 : VRrows J w old ob.wd blk (base + lo * ob.wd) := by rw [e1]; exact VRrows_take _ _ _ _ _ (VRrows_drop _ _ _ _ _ hrows)
            obtain ⟨pv, p1, p2, p3, p4, p5⟩ := rows_vals blk _ _ _ hr2
            have hspan : base + lo * ob.wd + len * ob.wd + new.length * ob.wd ≤ cc.size := by
              refine Nat.le_trans ?_ hs
              have : (lo + len + new.length) * ob.wd ≤ (lo + cap) * ob.wd := Nat.mul_le_mul_right _ (by omega)
              simp only [Nat.add_mul] at this ⊢
              omega
            obtain ⟨w', r1, W, r3⟩ := storeCells_run (P := P) blk (base + lo * ob.wd + len * ob.wd) nv 0 w hOw n6 (by
              intro j hj
              rw [cell_at hh]
              rw [n4, ← hobw] at hj
              have : base + lo * ob.wd + len * ob.wd + j < cc.size := by omega
              simp [this])
            simp only [Nat.add_zero] at W
            obtain ⟨R', E'⟩ := rel_place (lo := lo) (ob' := ⟨tsz C el, allSc (tze C el), old ++ new⟩) (cs := pv ++ nv) R hob hm W r3 hobw.symm hflat (by rw [hobw]; exact hw) (by rw [List.flatten_append]; exact VRs_app _ _ _ _ p3 n3)
              (by intro v hv
                  rcases List.mem_append.1 hv with hv | hv
                  · exact p4 v hv
                  · exact n6 v hv)
              (by intro j v hj
                  rw [W.cell hOw]
                  by_cases hjl : j < pv.length
                  · rw [List.getElem?_append_left hjl] at hj
                    rw [if_neg (by rw [p1, e2] at hjl; omega)]
                    exact p2 j v hj
                  · rw [List.getElem?_append_right (by omega)] at hj
                    have hjn : j - pv.length < nv.length := by
                      rcases Nat.lt_or_ge (j - pv.length) nv.length with q | q
                      · exact q
                      · rw [List.getElem?_eq_none q] at hj; simp at hj
                    have hpl : pv.length = len * ob.wd := by rw [p1, e2]
                    rw [if_pos ⟨rfl, by omega, by omega⟩]
                    rw [show base + lo * ob.wd + j - (base + lo * ob.wd + len * ob.wd) = j - pv.length from by omega]
                    exact hj)
            have hlen : (upd st.hp id none).length = st.hp.length := by rw [upd_eq]; simp
            obtain ⟨c', k1, k2, _⟩ := W.same _ _ _ hh
            refine done (cv := .slice (some ⟨blk, base + lo * ob.wd, none⟩) (len + new.length) cap) (hrun (w' := w') ?_) R' ?_ E' h Q
            · rw [hr]
              simp only [Addr.add_lit]
              rw [hsz, ← hobw, r1]
              rfl
            · refine ⟨_, cap, by rw [e2], by omega, .inr ⟨blk, base + lo * ob.wd, ob.wd, c', e', fz, by simp [placeJ, hlen], by simp, k1, ?_⟩⟩
              rw [k2]
              simp only [Nat.add_mul, Nat.zero_mul] at hs ⊢
              omega
        · have hr := append_grow (w := w) (P := P) (ao := ao) (ty := o.type) h0 hu h1 hk x1 z1 (n := len) (cap := cap) (m := new.length) (cx := cy) (news := nv') (olds := ov) n1 (by rw [hsz]; exact m2)
            (by rw [hsz]; rw [e2] at o2; exact o2) (by omega) (by rw [hby]; exact hb0) (by rw [hby]; rw [e2] at hbytes; exact hbytes)
          have R' := rel_new (ob := ⟨tsz C el, allSc (tze C el), old ++ new⟩) (c := (ov ++ nv' ++ (Builtin.zeroCells z.cells (grownCap w (len + new.length) cap el - (len + new.length))).toList).toArray) (e := el) (cs := ov ++ nv') (rel_kill Rd id) hflat hw hvs hones
            (by intro j v hj; rw [List.getElem?_toArray, List.getElem?_append_left]; exact hj
                rcases Nat.lt_or_ge j (ov ++ nv').length with q | q
                · exact q
                · rw [List.getElem?_eq_none q] at hj; simp at hj)
          refine done (cv := .slice (some ⟨w.heap.size, 0, none⟩) (len + new.length) (grownCap w (len + new.length) cap el)) (hrun hr) R' ?_ (Ed.trans (Ext_new (rel_kill Rd id).inv _ _ _)) h Q
          rw [e2]
          refine new_EV (w := w.drew) (rows := []) (grownCap_ge w _ _ _) ?_
          rw [e2] at hlens
          have := append_cap (g := grownCap w (len + new.length) cap el) hlens z3 (grownCap_ge w _ _ _)
          simpa using this
      · exact hold.elim
    · exact h.elim
  · exact h.elim
end Go.Proofs.Ytmblcloikeobdaa.Ev

namespace Go.Proofs.Ytmblcloikeobdaa.Ev
open Go
set_option linter.unusedVariables false
set_option linter.unusedSimpArgs false
variable {C : Cfg} {P : Program} {J J' : Inj} {lb : Nat → Nat} {w w' : World} {a : Act} {st : St} {hp : Hp} {o : Oper} {K : AV → St → Prop} {Q : Exit → Act → World → Prop}

/-! # copy, clear -/
theorem VRs_take : ∀ (n : Nat) (l : List AV) (cs : List Value), VRs J w l cs → VRs J w (l.take n) (cs.take n)
  | 0, _, _, _ => by simp [VRs]
  | n + 1, [], [], _ => trivial
  | n + 1, x :: l, v :: cs, h => ⟨h.1, VRs_take n l cs h.2⟩
  | n + 1, [], _ :: _, h => h.elim
  | n + 1, _ :: _, [], h => h.elim
theorem VRs_drop : ∀ (n : Nat) (l : List AV) (cs : List Value), VRs J w l cs → VRs J w (l.drop n) (cs.drop n)
  | 0, _, _, h => h
  | n + 1, [], [], _ => trivial
  | n + 1, x :: l, v :: cs, h => VRs_drop n l cs h.2
  | n + 1, [], _ :: _, h => h.elim
  | n + 1, _ :: _, [], h => h.elim
theorem flatten_take (wd : Nat) : ∀ (rows : List (List AV)) (n : Nat), (∀ r ∈ rows, r.length = wd) → (rows.take n).flatten = rows.flatten.take (n * wd)
  | rows, 0, _ => by simp
  | [], n + 1, _ => by simp
  | r :: rows, n + 1, h => by
    have hr := h r (List.mem_cons_self)
    have ih := flatten_take wd rows n (fun r hr => h r (List.mem_cons_of_mem _ hr))
    simp only [List.take_succ_cons, List.flatten_cons, ih]
    have e : (n + 1) * wd = r.length + n * wd := by rw [hr, Nat.add_mul]; omega
    rw [e, List.take_length_add_append]
theorem flatten_drop (wd : Nat) : ∀ (rows : List (List AV)) (n : Nat), (∀ r ∈ rows, r.length = wd) → (rows.drop n).flatten = rows.flatten.drop (n * wd)
  | rows, 0, _ => by simp
  | [], n + 1, _ => by simp
  | r :: rows, n + 1, h => by
    have hr := h r (List.mem_cons_self)
    have ih := flatten_drop wd rows n (fun r hr => h r (List.mem_cons_of_mem _ hr))
    simp only [List.drop_succ_cons, List.flatten_cons, ih]
    have e : (n + 1) * wd = r.length + n * wd := by rw [hr, Nat.add_mul]; omega
    rw [e, List.drop_length_add_append]
theorem rel_setRows (R : Rel J lb w a st) {id blk base wd lo : Nat} {ob : Ob} {new : List (List AV)} {nv : List Value} (hob : at? st.hp id = some (some ob)) (hm : J.m id = some (blk, base, wd))
    (W : Wrote w w' blk (base + lo * wd) nv) (hO' : Own w' blk) (hlo : lo + new.length ≤ ob.rows.length) (hfl : ob.fl = true → flatRows new = true) (hw : ∀ r ∈ new, r.length = wd)
    (hv : VRs J w new.flatten nv) (h1 : ∀ v ∈ nv, oneV v = true) (hl : nv.length = new.length * wd) :
    Rel J lb w' a ⟨st.env, st.bx, upd st.hp id (some ⟨ob.wd, ob.fl, setRows ob.rows lo new⟩)⟩ ∧ Ext J J w w' := by
  have hO := R.inv.ob id ob hob
  have hflat := hO.1
  have h0 := hO.2
  rw [hm] at h0
  obtain ⟨rfl, hF, hK, hb, hOw, hrows⟩ := h0
  have E : Ext J J w w' := W.ext hF hK
  obtain ⟨cs, c1, c2, c3, c4, c5⟩ := rows_vals blk _ _ _ hrows
  have e1 : (ob.rows.take lo).flatten = ob.rows.flatten.take (lo * ob.wd) := flatten_take _ _ _ c5
  have e2 : (ob.rows.drop (lo + new.length)).flatten = ob.rows.flatten.drop ((lo + new.length) * ob.wd) := flatten_drop _ _ _ c5
  have hmul : (lo + new.length) * ob.wd ≤ ob.rows.length * ob.wd := Nat.mul_le_mul_right _ hlo
  have hadd : (lo + new.length) * ob.wd = lo * ob.wd + new.length * ob.wd := Nat.add_mul _ _ _
  refine rel_wrote (ob' := ⟨ob.wd, ob.fl, setRows ob.rows lo new⟩) R hob hm W rfl ?_ ?_
  · intro q
    exact flatRows_app _ _ (flatRows_app _ _ (flat_take _ _ (hflat q)) (hfl q)) (flat_drop _ _ (hflat q))
  · refine VRrows_of blk _ _ (cs.take (lo * ob.wd) ++ nv ++ cs.drop ((lo + new.length) * ob.wd)) _ ?_ ?_ ?_ ?_
    · intro r hr
      simp only [setRows, List.mem_append] at hr
      rcases hr with (hr | hr) | hr
      · exact c5 r (List.mem_of_mem_take hr)
      · exact hw r hr
      · exact c5 r (List.mem_of_mem_drop hr)
    · simp only [setRows, List.flatten_append, e1, e2]
      exact VRs_app _ _ _ _ (VRs_app _ _ _ _ (VRs_ext E _ _ (VRs_take _ _ _ c3)) (VRs_ext E _ _ hv)) (VRs_ext E _ _ (VRs_drop _ _ _ c3))
    · intro v hv
      simp only [List.mem_append] at hv
      rcases hv with (hv | hv) | hv
      · exact c4 v (List.mem_of_mem_take hv)
      · exact h1 v hv
      · exact c4 v (List.mem_of_mem_drop hv)
    · intro j v hj
      rw [W.cell hOw]
      have ht : (cs.take (lo * ob.wd)).length = lo * ob.wd := by simp; omega
      by_cases h1 : j < lo * ob.wd
      · rw [if_neg (by omega)]
        rw [List.append_assoc, List.getElem?_append_left (by omega), List.getElem?_take, if_pos h1] at hj
        exact c2 j v hj
      · by_cases h2 : j < lo * ob.wd + nv.length
        · rw [if_pos ⟨rfl, by omega, by omega⟩]
          rw [List.getElem?_append_left (by simp; omega), List.getElem?_append_right (by omega), ht] at hj
          rw [show base + j - (base + lo * ob.wd) = j - lo * ob.wd from by omega]
          exact hj
        · rw [if_neg (by omega)]
          rw [List.getElem?_append_right (by simp; omega), List.getElem?_drop] at hj
          refine c2 j v ?_
          rw [← hj]
          congr 1
          simp
          omega
theorem setRows_nil (rows : List (List AV)) (n : Nat) : setRows rows n [] = rows := by simp [setRows]
theorem upd_same {α : Type} {l : List α} {i : Nat} {v : α} (h : at? l i = some v) : upd l i v = l := by
  rw [upd_eq]
  rw [at?_eq] at h
  apply List.ext_getElem?
  intro j
  by_cases e : i = j
  · subst e
    have hi := (List.getElem?_eq_some_iff.1 h).1
    simp [hi, h]
    have := (List.getElem?_eq_some_iff.1 h).2
    exact this.symm
  · rw [List.getElem?_set_ne e]
theorem args1 {x : AV} (R : Rel J lb w a st) {c : Call} (hl : args? st c.args.toList = some [x]) : ∃ cx, c.args.map a.eval = #[cx] ∧ EV J lb w x cx := by
  have hx := args_EVs R _ _ hl
  have he : (c.args.map a.eval) = (c.args.toList.map a.eval).toArray := by cases c.args; simp
  rw [he]
  generalize c.args.toList.map a.eval = L at hx
  match L, hx with
  | [cx], hx => exact ⟨cx, rfl, hx.1⟩
  | [], hx => exact hx.elim
  | _ :: _ :: _, hx => exact hx.2.elim
theorem args2 {x y : AV} (R : Rel J lb w a st) {c : Call} (hl : args? st c.args.toList = some [x, y]) : ∃ cx cy, c.args.map a.eval = #[cx, cy] ∧ EV J lb w x cx ∧ EV J lb w y cy := by
  have hx := args_EVs R _ _ hl
  have he : (c.args.map a.eval) = (c.args.toList.map a.eval).toArray := by cases c.args; simp
  rw [he]
  generalize c.args.toList.map a.eval = L at hx
  match L, hx with
  | [cx, cy], hx => exact ⟨cx, cy, rfl, hx.1, hx.2.1⟩
  | [], hx => exact hx.elim
  | [_], hx => exact hx.2.elim
  | _ :: _ :: _ :: _, hx => exact hx.2.2.elim
theorem rel_setRows' (R : Rel J lb w a st) {id blk base wd lo : Nat} {ob : Ob} {new : List (List AV)} {nv : List Value} (hob : at? st.hp id = some (some ob)) (hm : J.m id = some (blk, base, wd))
    (W : Wrote w w' blk (base + lo * wd) nv) (hO' : Own w' blk) (hlo : lo ≤ ob.rows.length) (hfl : ob.fl = true → flatRows new = true) (hw : ∀ r ∈ new, r.length = wd)
    (hv : VRs J w new.flatten nv) (h1 : ∀ v ∈ nv, oneV v = true) (hl : nv.length = new.length * wd) :
    Rel J lb w' a ⟨st.env, st.bx, upd st.hp id (some ⟨ob.wd, ob.fl, setRows ob.rows lo new⟩)⟩ ∧ Ext J J w w' := by
  have hO := R.inv.ob id ob hob
  have hflat := hO.1
  have h0 := hO.2
  rw [hm] at h0
  obtain ⟨rfl, hF, hK, hb, hOw, hrows⟩ := h0
  have E : Ext J J w w' := W.ext hF hK
  obtain ⟨cs, c1, c2, c3, c4, c5⟩ := rows_vals blk _ _ _ hrows
  have e1 : (ob.rows.take lo).flatten = ob.rows.flatten.take (lo * ob.wd) := flatten_take _ _ _ c5
  have e2 : (ob.rows.drop (lo + new.length)).flatten = ob.rows.flatten.drop ((lo + new.length) * ob.wd) := flatten_drop _ _ _ c5
  have hmul : lo * ob.wd ≤ ob.rows.length * ob.wd := Nat.mul_le_mul_right _ hlo
  have hadd : (lo + new.length) * ob.wd = lo * ob.wd + new.length * ob.wd := Nat.add_mul _ _ _
  refine rel_wrote (ob' := ⟨ob.wd, ob.fl, setRows ob.rows lo new⟩) R hob hm W rfl ?_ ?_
  · intro q
    exact flatRows_app _ _ (flatRows_app _ _ (flat_take _ _ (hflat q)) (hfl q)) (flat_drop _ _ (hflat q))
  · refine VRrows_of blk _ _ (cs.take (lo * ob.wd) ++ nv ++ cs.drop ((lo + new.length) * ob.wd)) _ ?_ ?_ ?_ ?_
    · intro r hr
      simp only [setRows, List.mem_append] at hr
      rcases hr with (hr | hr) | hr
      · exact c5 r (List.mem_of_mem_take hr)
      · exact hw r hr
      · exact c5 r (List.mem_of_mem_drop hr)
    · simp only [setRows, List.flatten_append, e1, e2]
      exact VRs_app _ _ _ _ (VRs_app _ _ _ _ (VRs_ext E _ _ (VRs_take _ _ _ c3)) (VRs_ext E _ _ hv)) (VRs_ext E _ _ (VRs_drop _ _ _ c3))
    · intro v hv
      simp only [List.mem_append] at hv
      rcases hv with (hv | hv) | hv
      · exact c4 v (List.mem_of_mem_take hv)
      · exact h1 v hv
      · exact c4 v (List.mem_of_mem_drop hv)
    · intro j v hj
      rw [W.cell hOw]
      have ht : (cs.take (lo * ob.wd)).length = lo * ob.wd := by simp; omega
      by_cases h1 : j < lo * ob.wd
      · rw [if_neg (by omega)]
        rw [List.append_assoc, List.getElem?_append_left (by omega), List.getElem?_take, if_pos h1] at hj
        exact c2 j v hj
      · by_cases h2 : j < lo * ob.wd + nv.length
        · rw [if_pos ⟨rfl, by omega, by omega⟩]
          rw [List.getElem?_append_left (by simp; omega), List.getElem?_append_right (by omega), ht] at hj
          rw [show base + j - (base + lo * ob.wd) = j - lo * ob.wd from by omega]
          exact hj
        · rw [if_neg (by omega)]
          rw [List.getElem?_append_right (by simp; omega), List.getElem?_drop] at hj
          refine c2 j v ?_
          rw [← hj]
          congr 1
          simp
          omega
theorem pre_read (R : Rel J lb w a st) {fl : Bool} {sz len : Nat} {new : List (List AV)} {y : AV} {cy : Value} (hy : EV J lb w y cy) (h : preR st.hp fl sz len new y) :
    ∃ (m : Nat) (nv : List Value), (Builtin.lenOf cy).run P w = .ok m w ∧ Nat.min m len = new.length ∧ (Builtin.firstCells sz new.length cy).run P w = .ok nv.toArray w ∧ VRs J w new.flatten nv ∧
      nv.length = new.length * sz ∧ (∀ r ∈ new, r.length = sz) ∧ (∀ v ∈ nv, oneV v = true) ∧ (fl = true → flatRows new = true) := by
  unfold preR at h
  split at h
  · rename_i id2 lo2 len2 cap2
    split at h
    · rename_i ob hob
      obtain ⟨h1, h2, hcut⟩ := h
      obtain ⟨_, e2⟩ := cut_eq _ _ _ _ hcut
      obtain ⟨blk, base, wd, c, e', fz, hm, rfl, hle, hh, hs⟩ := hy
      have hy' : EV J lb w (.sl id2 lo2 (min len len2)) (.slice (some ⟨blk, base + lo2 * wd, none⟩) (min len len2) cap2) :=
        ⟨_, cap2, rfl, by omega, .inr ⟨blk, base, wd, c, e', fz, hm, rfl, hh, hs⟩⟩
      obtain ⟨nv, n1, n2, n3, n4, n5, n6, n7⟩ := rows_read0 (P := P) (fl := fl) (sz := sz) (rows := new) R hy' (by simp only [rowsR, hob]; exact ⟨h1, h2, hcut⟩)
      refine ⟨len2, nv, by simp [Builtin.lenOf], by rw [e2]; exact Nat.min_comm _ _, ?_, n3, n4, n5, n6, n7⟩
      have := n2 new.length (Nat.le_refl _)
      rw [← n4, List.take_length] at this
      rw [← this]
      simp [Builtin.firstCells]
    · exact h.elim
  · obtain ⟨all, ha, rfl⟩ := h
    obtain ⟨nv, n1, n2, n3, n4, n5, n6, n7⟩ := rows_read0 (P := P) R hy ha
    have hk : min len all.length ≤ all.length := Nat.min_le_right _ _
    have htk : (all.take (min len all.length)).length = min len all.length := by simp
    refine ⟨all.length, nv.take (min len all.length * sz), n1, by rw [htk]; exact Nat.min_comm _ _, by rw [htk]; exact n2 _ hk, by rw [flatten_take _ _ _ n5]; exact VRs_take _ _ _ n3, ?_,
      fun r hr => n5 r (List.mem_of_mem_take hr), fun v hv => n6 v (List.mem_of_mem_take hv), fun q => flat_take _ _ (n7 q)⟩
    have : min len all.length * sz ≤ all.length * sz := Nat.mul_le_mul_right _ hk
    rw [htk, List.length_take, n4]
    omega
theorem op_copyS (T : TyOk C P) (R : Rel J lb w a st) {c : Call} (e : o.op = .call c) (hb : c.callee = .builtin .copy) {id lo len cp : Nat} {y : AV} (hl : args? st c.args.toList = some [.sc id lo len cp, y])
    (hz : (tsz C (elemT C (c.argTypes.toList.headD 0)) != 0) = true) (h : copyS C (elemT C (c.argTypes.toList.headD 0)) id lo len y st K) : o.wp P a w (Nx J w o.dst K) Q := by
  simp only [bne_iff_ne] at hz
  obtain ⟨h0, hu⟩ := slice0 T hz
  have hsz := size_run (w := w) T hz
  obtain ⟨cx, cy, hargs, ex, ey⟩ := args2 R hl
  generalize elemT C (c.argTypes.toList.headD 0) = el at *
  generalize c.argTypes.toList.headD 0 = tt at *
  obtain ⟨new, hpre, h⟩ := h
  obtain ⟨m, nv, n1, n2, n3, n4, n5, n6, n7, n8⟩ := pre_read (P := P) R ey hpre
  obtain ⟨blk, base, wd, cc, e', fz, hm, rfl, hle, hh, hs⟩ := ex
  have hrun : ∀ {v w'}, (Builtin.copy_ c.argTypes o.type #[.slice (some ⟨blk, base + lo * wd, none⟩) len cp, cy]).run P w = .ok v w' → (execOp a.eval o).run P w = .ok (.value v) w' := by
    intro v w' hr
    refine call_builtin e hb (s := Builtin.copy_ c.argTypes o.type #[.slice (some ⟨blk, base + lo * wd, none⟩) len cp, cy]) ?_ hr
    intro consts; rw [hargs]; rfl
  have hcopy : (Builtin.copy_ c.argTypes o.type #[.slice (some ⟨blk, base + lo * wd, none⟩) len cp, cy]).run P w = ((storeCells ⟨blk, base + lo * wd, none⟩ nv).run P w).andThen fun _ w' => .ok (.int .i64 (new.length : Nat)) w' := by
    simp [Builtin.copy_, h0, run_underlying hu, n1, n2, hsz, n3, goInt]
  split at h
  · rename_i ob hob
    obtain ⟨g1, g2, g3, h⟩ := h
    simp only [setK, updK_eq] at h
    have hO := R.inv.ob id ob hob
    have hO2 := hO.2
    rw [hm] at hO2
    obtain ⟨rfl, hF, hK, hbs, hOw, hrows⟩ := hO2
    have hk2 : new.length ≤ len := by rw [← n2]; exact Nat.min_le_right _ _
    have hspan : base + lo * ob.wd + new.length * ob.wd ≤ cc.size := by
      refine Nat.le_trans ?_ hs
      have : (lo + new.length) * ob.wd ≤ (lo + cp) * ob.wd := Nat.mul_le_mul_right _ (by omega)
      simp only [Nat.add_mul] at this ⊢
      omega
    obtain ⟨w', r1, W, r3⟩ := storeCells_run (P := P) blk (base + lo * ob.wd) nv 0 w hOw n7 (by
      intro j hj
      rw [cell_at hh]
      rw [n5, ← g2] at hj
      have : base + lo * ob.wd + j < cc.size := by omega
      simp [this])
    simp only [Nat.add_zero] at W
    obtain ⟨R', E'⟩ := rel_setRows' (new := new) R hob hm W r3 g3 (fun q => n8 (by rw [← g1]; exact q)) (fun r hr => by rw [g2]; exact n6 r hr) n4 n7 (by rw [n5, g2])
    refine done (cv := .int .i64 ((new.length : Nat) : Int)) (v := .i .i64 ((new.length : Nat) : Int)) (hrun (w' := w') ?_) R' rfl E' h Q
    rw [hcopy]
    simp only [r1]
    rfl
  · exact h.elim
theorem op_copy (T : TyOk C P) (R : Rel J lb w a st) {c : Call} (e : o.op = .call c) (hb : c.callee = .builtin .copy) {l : List AV} (hl : args? st c.args.toList = some l)
    (h : builtinP C false c.argTypes.toList .copy l st K) : o.wp P a w (Nx J w o.dst K) Q := by
  simp only [builtinP] at h
  split at h
  · obtain ⟨_, hz, h⟩ := h
    exact op_copyS T R e hb hl hz h
  · rename_i id lo len y
    obtain ⟨_, hz, new, hnew, h⟩ := h
    simp only [bne_iff_ne] at hz
    obtain ⟨h0, hu⟩ := slice0 T hz
    have hsz := size_run (w := w) T hz
    obtain ⟨cx, cy, hargs, ex, ey⟩ := args2 R hl
    generalize elemT C (c.argTypes.toList.headD 0) = el at *
    generalize c.argTypes.toList.headD 0 = tt at *
    obtain ⟨nv, n1, n2, n3, n4, n5, n6, n7⟩ := rows_read0 (P := P) R ey hnew
    obtain ⟨ao, cap, rfl, hlc, hcap⟩ := ex
    have hrun : ∀ {v w'}, (Builtin.copy_ c.argTypes o.type #[.slice ao len cap, cy]).run P w = .ok v w' → (execOp a.eval o).run P w = .ok (.value v) w' := by
      intro v w' hr
      refine call_builtin e hb (s := Builtin.copy_ c.argTypes o.type #[.slice ao len cap, cy]) ?_ hr
      intro consts; rw [hargs]; rfl
    have hmin : Nat.min new.length len = min len new.length := Nat.min_comm _ _
    have hf := n2 (min len new.length) (Nat.min_le_right _ _)
    have hcopy : (Builtin.copy_ c.argTypes o.type #[.slice ao len cap, cy]).run P w = (match ao with | some a => (storeCells a (nv.take (min len new.length * tsz C el))).run P w | none => .ok () w).andThen fun _ w' => .ok (.int .i64 (min len new.length : Nat)) w' := by
      cases ao <;> simp [Builtin.copy_, h0, run_underlying hu, n1, hmin, hsz, hf, goInt]
    split at h
    · rename_i ob hob
      obtain ⟨g1, g2, g3, h⟩ := h
      simp only [setK, updK_eq] at h
      rcases hcap with rfl | ⟨blk, base, wd, cc, e', fz, hm, rfl, hh, hs⟩
      · have hl0 : len = 0 := by omega
        subst hl0
        rw [Nat.zero_min] at h hcopy
        simp only [List.take_zero, setRows_nil] at h
        have heta : (some ⟨ob.wd, ob.fl, ob.rows⟩ : Option Ob) = some ob := rfl
        rw [heta, upd_same hob] at h
        refine done (cv := .int .i64 ((0 : Nat) : Int)) (hrun (w' := w) ?_) R (v := .i .i64 ((0 : Nat) : Int)) rfl (Ext.refl _ _) h Q
        rw [hcopy]
        cases ao <;> simp [storeCells]
      · have hO := R.inv.ob id ob hob
        have hO2 := hO.2
        rw [hm] at hO2
        obtain ⟨rfl, hF, hK, hbs, hOw, hrows⟩ := hO2
        have hk : min len new.length ≤ new.length := Nat.min_le_right _ _
        have hk2 : min len new.length ≤ len := Nat.min_le_left _ _
        have htl : (nv.take (min len new.length * tsz C el)).length = min len new.length * tsz C el := by
          have : min len new.length * tsz C el ≤ new.length * tsz C el := Nat.mul_le_mul_right _ hk
          simp [n4]
        have hspan : base + lo * ob.wd + min len new.length * ob.wd ≤ cc.size := by
          refine Nat.le_trans ?_ hs
          have : (lo + min len new.length) * ob.wd ≤ (lo + cap) * ob.wd := Nat.mul_le_mul_right _ (by omega)
          simp only [Nat.add_mul] at this ⊢
          omega
        have hones : ∀ v ∈ nv.take (min len new.length * tsz C el), oneV v = true := fun v hv => n6 v (List.mem_of_mem_take hv)
        obtain ⟨w', r1, W, r3⟩ := storeCells_run (P := P) blk (base + lo * ob.wd) (nv.take (min len new.length * tsz C el)) 0 w hOw hones (by
          intro j hj
          rw [cell_at hh]
          rw [htl, ← g2] at hj
          have : base + lo * ob.wd + j < cc.size := by omega
          simp [this])
        simp only [Nat.add_zero] at W
        have htk : (new.take (min len new.length)).length = min len new.length := by simp
        obtain ⟨R', E'⟩ := rel_setRows (new := new.take (min len new.length)) R hob hm W r3 (by rw [htk]; omega) (fun q => flat_take _ _ (n7 (by rw [← g1]; exact q)))
          (fun r hr => by rw [g2]; exact n5 r (List.mem_of_mem_take hr)) (by rw [flatten_take _ _ _ n5]; exact VRs_take _ _ _ n3) hones (by rw [htl, htk, g2])
        refine done (cv := .int .i64 ((min len new.length : Nat) : Int)) (v := .i .i64 ((min len new.length : Nat) : Int)) (hrun (w' := w') ?_) R' rfl E' h Q
        rw [hcopy]
        simp only [r1]
        rfl
    · exact h.elim
  · exact h.elim
theorem op_clear (T : TyOk C P) (R : Rel J lb w a st) {c : Call} (e : o.op = .call c) (hb : c.callee = .builtin .clear) {l : List AV} (hl : args? st c.args.toList = some l)
    (h : builtinP C false c.argTypes.toList .clear l st K) : o.wp P a w (Nx J w o.dst K) Q := by
  simp only [builtinP] at h
  split at h
  · rename_i id lo len
    obtain ⟨_, hz, h⟩ := h
    simp only [bne_iff_ne] at hz
    obtain ⟨h0, hu⟩ := slice0 T hz
    obtain ⟨z, z1, z2, z3⟩ := zero_run (w := w) T hz
    obtain ⟨cx, hargs, ex⟩ := args1 R hl
    generalize elemT C (c.argTypes.toList.headD 0) = el at *
    generalize c.argTypes.toList.headD 0 = tt at *
    obtain ⟨ao, cap, rfl, hlc, hcap⟩ := ex
    have hzv := zero_VRs J w _ _ z2
    have hrun : ∀ {v w'}, (Builtin.clear_ c.argTypes o.type #[.slice ao len cap]).run P w = .ok v w' → (execOp a.eval o).run P w = .ok (.value v) w' := by
      intro v w' hr
      refine call_builtin e hb (s := Builtin.clear_ c.argTypes o.type #[.slice ao len cap]) ?_ hr
      intro consts; rw [hargs]; rfl
    split at h
    · rename_i ob hob
      obtain ⟨g1, g2, g3, g4, h⟩ := h
      simp only [setK, updK_eq] at h
      by_cases hl0 : len = 0
      · subst hl0
        simp only [List.replicate_zero, setRows_nil] at h
        have heta : (some ⟨ob.wd, ob.fl, ob.rows⟩ : Option Ob) = some ob := rfl
        rw [heta, upd_same hob] at h
        refine done (cv := .tuple #[]) (hrun (w' := w) ?_) (v := .tp []) R ⟨[], rfl, trivial⟩ (Ext.refl _ _) h Q
        cases ao <;> simp [Builtin.clear_, h0, run_underlying hu]
      · rcases hcap with rfl | ⟨blk, base, wd, cc, e', fz, hm, rfl, hh, hs⟩
        · omega
        · have hO := R.inv.ob id ob hob
          have hO2 := hO.2
          rw [hm] at hO2
          obtain ⟨rfl, hF, hK, hbs, hOw, hrows⟩ := hO2
          have hzl : z.cells.toList.length = tsz C el := by simpa using z3
          have hcells : (Builtin.zeroCells z.cells len).toList = (List.replicate len z.cells.toList).flatten := by
            have := range_zero z.cells len (by rw [z3]; exact hz)
            simp only [Builtin.zeroCells, this]
          have hlen : (List.replicate len z.cells.toList).flatten.length = len * tsz C el := by simp [z3]
          have hones : ∀ v ∈ (List.replicate len z.cells.toList).flatten, oneV v = true := by
            intro v hv
            simp only [List.mem_flatten, List.mem_replicate] at hv
            obtain ⟨r, ⟨_, rfl⟩, hv⟩ := hv
            exact cellvs_ones _ _ hzv g4 v hv
          have hspan : base + lo * ob.wd + len * ob.wd ≤ cc.size := by
            refine Nat.le_trans ?_ hs
            have : (lo + len) * ob.wd ≤ (lo + cap) * ob.wd := Nat.mul_le_mul_right _ (by omega)
            simp only [Nat.add_mul] at this ⊢
            omega
          obtain ⟨w', r1, W, r3⟩ := storeCells_run (P := P) blk (base + lo * ob.wd) (List.replicate len z.cells.toList).flatten 0 w hOw hones (by
            intro j hj
            rw [cell_at hh]
            rw [hlen, ← g2] at hj
            have : base + lo * ob.wd + j < cc.size := by omega
            simp [this])
          simp only [Nat.add_zero] at W
          obtain ⟨R', E'⟩ := rel_setRows (new := List.replicate len (tze C el)) R hob hm W r3 (by simpa using g3) (fun q => by
              have : ∀ k, flatRows (List.replicate k (tze C el)) = true := by
                intro k
                induction k with
                | zero => rfl
                | succ k ih => simp [List.replicate_succ, flatRows, ih]; rw [← g1]; exact q
              exact this _)
            (fun r hr => by simp at hr; rw [hr.2, g2, VRs_len _ _ hzv, hzl]) (VRs_reps _ _ _ hzv) hones (by rw [hlen, g2]; simp)
          refine done (cv := .tuple #[]) (hrun (w' := w') ?_) (v := .tp []) R' ⟨[], rfl, trivial⟩ E' h Q
          have hz' := z1
          simp [Builtin.clear_, h0, run_underlying hu, hl0, z1, hcells, r1]
    · exact h.elim
  · exact h.elim
end Go.Proofs.Ytmblcloikeobdaa.Ev

namespace Go.Proofs.Ytmblcloikeobdaa.Ev
open Go
set_option linter.unusedVariables false
set_option linter.unusedSimpArgs false
variable {C : Cfg} {P : Program} {J J' : Inj} {lb : Nat → Nat} {w w' : World} {a : Act} {st : St} {hp : Hp} {o : Oper} {K : AV → St → Prop} {Q : Exit → Act → World → Prop}

/-! # The rest of the quiet kinds -/
theorem known_under (T : TyOk C P) {t : Nat} (h : (tyd C t).known = true) : ∃ d, P.underlying t = some d := by
  have hd := T.d t
  generalize tyd C t = q at h hd
  cases q <;> simp [TyE.known] at h
  case strct fs => obtain ⟨F, h, _⟩ := hd; exact ⟨_, h⟩
  all_goals exact ⟨_, hd⟩
theorem bytes_vals : ∀ (rows : List (List AV)) (l : List UInt8) (cs : List Value), bytesOf rows = some l → VRs J w rows.flatten cs → ∃ ns : List Int, cs = ns.map (Value.int .u8) ∧ l = ns.map fun n => UInt8.ofNat n.toNat
  | [], l, cs, h, hv => by
    simp [bytesOf] at h; subst h
    exact ⟨[], by simpa using VRs_nil hv, rfl⟩
  | [] :: _, _, _, h, _ => by simp [bytesOf] at h
  | [x] :: rows, l, cs, h, hv => by
    cases x with
    | i k n =>
      by_cases hk : k = .u8
      rotate_left
      · exfalso; cases k <;> simp [bytesOf] at h <;> exact hk rfl
      subst hk
      simp only [bytesOf, Option.bind_eq_some_iff] at h
      obtain ⟨r, hr, h⟩ := h
      simp at h; subst h
      cases cs with
      | nil => exact hv.elim
      | cons c cs =>
        obtain ⟨h1, h2⟩ := hv
        simp only [VR] at h1; subst h1
        obtain ⟨ns, e1, e2⟩ := bytes_vals rows r cs hr (by simpa using h2)
        exact ⟨n :: ns, by simp [e1], by simp [e2]⟩
    | _ => simp [bytesOf] at h
  | (_ :: _ :: _) :: _, _, _, h, _ => by simp [bytesOf] at h
theorem push_fold : ∀ (ns : List Int) (r : ByteArray), ns.foldl (fun r n => r.push (UInt8.ofNat n.toNat)) r = ⟨r.data ++ (ns.map fun n => UInt8.ofNat n.toNat).toArray⟩
  | [], r => by simp
  | n :: ns, r => by
    rw [List.foldl_cons, push_fold ns]
    simp [ByteArray.push]
theorem op_convert (T : TyOk C P) (R : Rel J lb w a st) {s d : Nat} {x : Operand} (e : o.op = .convert s d x)
    (h : optK (arg st x) fun a => match tyd C d with
    | .int k => (tyd C s).known = true ∧ match a with
      | .i _ n => K (.i k (k.wrap n)) st
      | _ => False
    | .str => match a with
      | .s z => (tyd C s).known = true ∧ K (.s z) st
      | v => isSl v = true ∧ (match tyd C s with | .slice e => (match tyd C e with | .int .u8 => True | _ => False) | _ => False) ∧ ∃ rows l, rowsR st.hp true 1 rows v ∧ bytesOf rows = some l ∧ K (.s ⟨l.toArray⟩) st
    | _ => False) : o.wp P a w (Nx J w o.dst K) Q := by
  obtain ⟨v, hv, h⟩ := optK_some h
  have hx := arg_EV R x v hv
  have hd := T.d d
  split at h
  · rename_i k e1
    rw [e1] at hd; simp only [] at hd
    obtain ⟨h0, h⟩ := h
    obtain ⟨u, hu⟩ := known_under T h0
    split at h
    · rename_i k' n
      have ex : a.eval x = .int k' n := hx
      refine done_val R (cv := .int k (k.wrap n)) (v := .i k (k.wrap n)) ?_ rfl h Q
      simp [execOp, e, convert, ex, run_underlying hu, run_underlying hd, Conv.intToInt]
    · exact h.elim
  · rename_i e1
    rw [e1] at hd; simp only [] at hd
    split at h
    · rename_i z
      obtain ⟨h0, h⟩ := h
      obtain ⟨u, hu⟩ := known_under T h0
      have ex : a.eval x = .string z := hx
      refine done_val R (cv := .string z) (v := .s z) ?_ rfl h Q
      simp [execOp, e, convert, ex, run_underlying hu, run_underlying hd]
    · rename_i hns
      obtain ⟨hsl, hs, rows, l, hr, hb, h⟩ := h
      split at hs
      · rename_i el e2
        have hsd := T.d s
        rw [e2] at hsd; simp only [] at hsd
        split at hs
        · rename_i e3
          have hed := T.d el
          rw [e3] at hed; simp only [] at hed
          obtain ⟨cs, c1, c2, c3, c4, c5, c6, c7⟩ := rows_read (P := P) R hx hr
          obtain ⟨ns, n1, n2⟩ := bytes_vals _ _ _ hb c3
          have hval : ∃ ao len cap, a.eval x = .slice ao len cap := by
            cases v <;> simp [isSl] at hsl <;> simp only [EV, VR] at hx
            · obtain ⟨_, _, hx, _⟩ := hx; exact ⟨_, _, _, hx⟩
            · obtain ⟨_, hx⟩ := hx; exact ⟨_, _, _, hx⟩
            · obtain ⟨_, _, hx, _⟩ := hx; exact ⟨_, _, _, hx⟩
          obtain ⟨ao, len, cap, hval⟩ := hval
          have hlen : len = rows.length := by
            rw [hval] at c1
            simpa [Builtin.lenOf] using c1
          refine done_val R (cv := .string ⟨l.toArray⟩) (v := .s ⟨l.toArray⟩) ?_ rfl h Q
          have hc : (convert s d (.slice ao len cap)).run P w = .ok (.string ⟨l.toArray⟩) w := by
            rw [run_convert_bytes_string w s d el ao len cap hsd hed hd]
            rw [hval] at c2
            cases ao with
            | none =>
              simp only [Builtin.firstCells, Sem.run_pure] at c2
              have h0 : cs = [] := by
                injection c2 with c2
                have := congrArg Array.toList c2
                simpa using this.symm
              subst h0
              have : ns = [] := by
                cases ns with
                | nil => rfl
                | cons _ _ => simp at n1
              subst this
              simp at n2
              subst n2
              simp [Conv.bytesToString]
              rfl
            | some b =>
              simp only [Builtin.firstCells, Nat.mul_one] at c2
              rw [run_bytesToString w b len cap ns (by rw [hlen, c2, n1])]
              rw [push_fold]
              congr 2
              rw [n2]
              simp [ByteArray.empty, ByteArray.emptyWithCapacity]
              rfl
          simp [execOp, e, hval, hc]
        · exact hs.elim
      · exact hs.elim
  · exact h.elim
theorem eq_none {t e : Nat} (hd : P.underlying t = some (.slice e)) (d l c : Nat) : (Op.equalIn (d + 1) t (.slice none l c) (.slice none 0 0)).run P w = .ok true w := by
  simp [Op.equalIn, run_underlying hd]
theorem eq_some {t e : Nat} (hd : P.underlying t = some (.slice e)) (d l c : Nat) (b : Addr) : (Op.equalIn (d + 1) t (.slice (some b) l c) (.slice none 0 0)).run P w = .ok false w := by
  simp [Op.equalIn, run_underlying hd]
theorem nil_run (T : TyOk C P) (R : Rel J lb w a st) {t : Nat} {v : AV} {cv : Value} (ht : match tyd C t with | .slice _ => True | _ => False) (hx : EV J lb w v cv) (hs : isSl v = true) :
    ∃ b : Bool, (Op.equal t cv (.slice none 0 0)).run P w = .ok b w ∧ (b = true → emptyV v) ∧ ∃ ao len cap, cv = .slice ao len cap := by
  have hd := T.d t
  split at ht
  · rename_i el e1
    rw [e1] at hd; simp only [] at hd
    have hval : ∃ ao len cap, cv = .slice ao len cap ∧ (ao = none → emptyV v) := by
      cases v <;> simp [isSl] at hs <;> simp only [EV, VR] at hx
      · obtain ⟨a', c', hx, _, _, h⟩ := hx
        refine ⟨_, _, _, hx, ?_⟩
        rintro rfl
        rcases h with h | ⟨_, _, h, _⟩
        · exact h
        · simp at h
      · obtain ⟨_, hx⟩ := hx; exact ⟨_, _, _, hx, fun _ => trivial⟩
      · obtain ⟨a', c', hx, hl, h⟩ := hx
        refine ⟨_, _, _, hx, ?_⟩
        rintro rfl
        rcases h with h | ⟨_, _, _, _, _, _, _, h, _⟩
        · simp only [emptyV]; omega
        · simp at h
    obtain ⟨ao, len, cap, rfl, h0⟩ := hval
    cases ao with
    | none => exact ⟨true, by unfold Op.equal; rw [show Op.maxDepth = 9999 + 1 from rfl]; exact eq_none hd 9999 _ _, fun _ => h0 rfl, _, _, _, rfl⟩
    | some b => exact ⟨false, by unfold Op.equal; rw [show Op.maxDepth = 9999 + 1 from rfl]; exact eq_some hd 9999 _ _ _, by simp, _, _, _, rfl⟩
  · exact ht.elim
theorem op_nilCmp (T : TyOk C P) (R : Rel J lb w a st) {op : BinOp} {t t' : Nat} {x y : Operand}
    (h : (match tyd C t with | .slice _ => True | _ => False) ∧ optK (arg st x) fun v => isSl v = true ∧ match op with
      | .eql => ∀ b : Bool, (b = true → emptyV v) → K (.b b) st
      | .neq => ∀ b : Bool, (b = false → emptyV v) → K (.b b) st
      | _ => False) (e : o.op = .binOp op t x y t') (hy : nilConst y = true) : o.wp P a w (Nx J w o.dst K) Q := by
  obtain ⟨ht, h⟩ := h
  obtain ⟨v, hv, hs, h⟩ := optK_some h
  have hx := arg_EV R x v hv
  obtain ⟨b, h1, h2, ao, len, cap, h3⟩ := nil_run (P := P) T R ht hx hs
  have ey : a.eval y = .slice none 0 0 := by
    unfold nilConst at hy
    split at hy
    · rfl
    · simp at hy
  rw [h3] at h1
  cases op <;> simp only [] at h <;> try exact h.elim
  case eql =>
    refine done_val R (cv := .bool b) (v := .b b) ?_ rfl (h b h2) Q
    simp [execOp, e, h3, ey, eqGuard, binOp, h1]
  case neq =>
    refine done_val R (cv := .bool (!b)) (v := .b (!b)) ?_ rfl (h (!b) (fun hb => h2 (by simpa using hb))) Q
    simp [execOp, e, h3, ey, eqGuard, binOp, h1]
theorem op_slice3 (T : TyOk C P) (R : Rel J lb w a st) {t : Nat} {x : Operand} {lo hi : Option Operand} {mx : Operand} (e : o.op = .slice t x lo hi (some mx))
    (h : (match tyd C t with | .slice e => (tsz C e != 0) = true | _ => False) ∧ optK (arg st x) fun v => isSl v = true ∧ optK (bound st 0 lo) fun l => optK (bound st 1 hi) fun h => optK (bound st 1 (some mx)) fun m =>
      (l = 0 ∧ h = 0 ∧ m = 0) ∧ K .nl st) : o.wp P a w (Nx J w o.dst K) Q := by
  obtain ⟨ht, h⟩ := h
  obtain ⟨v, hv, hs, h⟩ := optK_some h
  obtain ⟨l, hl, h⟩ := optK_some h
  obtain ⟨hh, hhi, h⟩ := optK_some h
  obtain ⟨m, hm, ⟨rfl, rfl, rfl⟩, hk⟩ := optK_some h
  have hx := arg_EV R x v hv
  have hd := T.d t
  split at ht
  · rename_i el e1
    rw [e1] at hd; simp only [] at hd
    have hsz := size_run (w := w) T (t := el) (by simpa using ht)
    have hval : ∃ ao len cap, a.eval x = .slice ao len cap := by
      cases v <;> simp [isSl] at hs <;> simp only [EV, VR] at hx
      · obtain ⟨_, _, hx, _⟩ := hx; exact ⟨_, _, _, hx⟩
      · obtain ⟨_, hx⟩ := hx; exact ⟨_, _, _, hx⟩
      · obtain ⟨_, _, hx, _⟩ := hx; exact ⟨_, _, _, hx⟩
    obtain ⟨ao, len, cap, hval⟩ := hval
    have hs : ∀ (k : IntKind) (y : Nat) (c : BoundsCode), (Instr.sliceBound (.int k 0) y c).run P w = .ok 0 w := by
      intro k y c
      simp [Instr.sliceBound, asIntOf]
    rcases bound_val R hhi with ⟨rfl, hhh⟩ | ⟨y, k, rfl, hy⟩
    · simp at hhh
    rcases bound_val R hm with ⟨hmm, _⟩ | ⟨z, k2, hz1, hz⟩
    · simp at hmm
    simp at hz1; subst hz1
    have hrun : ∃ ao', (Instr.slice t (.slice ao len cap) (lo.map a.eval) (some (a.eval y)) (some (a.eval mx))).run P w = .ok (.slice ao' 0 0) w := by
      rcases bound_val (d := 0) R hl with ⟨rfl, _⟩ | ⟨u, k3, rfl, hu⟩
      · exact ⟨ao, by simp [Instr.slice, Instr.sliceBounds, run_underlying hd, hsz, hy, hz, hs]⟩
      · exact ⟨ao, by simp [Instr.slice, Instr.sliceBounds, run_underlying hd, hsz, hy, hz, hu, hs]⟩
    obtain ⟨ao', hrun⟩ := hrun
    refine done_val R (cv := .slice ao' 0 0) (v := .nl) ?_ ⟨ao', rfl⟩ hk Q
    simp [execOp, e, hval, Instr.sliceAt, run_underlying hd, hrun]
  · exact ht.elim
theorem op_store (T : TyOk C P) (R : Rel J lb w a st) {t : Nat} {x y : Operand} (e : o.op = .store t x y)
    (h : optK (arg st x) fun p => optK (arg st y) fun v => storeP C st t v (fun st' => K .u st') p) : o.wp P a w (Nx J w o.dst K) Q := by
  obtain ⟨p, hp, h⟩ := optK_some h
  obtain ⟨v, hv, h⟩ := optK_some h
  obtain ⟨w', st', h1, h2, h3, h4⟩ := store_sound T R (arg_EV R x p hp) (arg_EV R y v hv) h
  unfold Oper.wp
  have : (execOp a.eval o).run P w = .ok .skip w' := by simp [execOp, e, h2]
  rw [this]
  exact ⟨.u, st', J, lb, h1, rel_put h3 (by trivial) _, h4⟩
end Go.Proofs.Ytmblcloikeobdaa.Ev

namespace Go.Proofs.Ytmblcloikeobdaa.Ev
open Go
set_option linter.unusedVariables false
set_option linter.unusedSimpArgs false
variable {C : Cfg} {P : Program} {J J' J1 J2 : Inj} {lb : Nat → Nat} {w w' : World} {a : Act} {st : St} {hp : Hp} {o : Oper} {K : AV → St → Prop} {Q : Exit → Act → World → Prop}

/-! # Values that cross a call -/
theorem VR_sc {x : AV} {v : Value} (h : isSc x = true) (hv : VR J1 w x v) : VR J2 w x v := by
  cases x <;> first | exact hv | simp [isSc] at h
theorem VRcells_sc : ∀ (r : List AV) (blk o : Nat), allSc r = true → VRcells J1 w r blk o → VRcells J2 w r blk o
  | [], _, _, _, _ => trivial
  | x :: r, blk, o, h, ⟨⟨v, h1, h2, h3⟩, hr⟩ => by
    simp [allSc] at h
    exact ⟨⟨v, h1, h2, VR_sc h.1 h3⟩, VRcells_sc r blk (o + 1) h.2 hr⟩
theorem VRrows_flat : ∀ (rows : List (List AV)) (wd blk off : Nat), flatRows rows = true → VRrows J1 w rows wd blk off → VRrows J2 w rows wd blk off
  | [], _, _, _, _, _ => trivial
  | r :: rows, wd, blk, off, h, hr => by
    simp [flatRows] at h
    exact ⟨⟨hr.1.1, VRcells_sc r blk off h.1 hr.1.2⟩, VRrows_flat rows wd blk _ h.2 hr.2⟩
theorem gl_of (hG : J2.G = J1.G) (hF : ∀ b, J1.F b → J2.F b) (h : ∀ x ∈ J1.G, J1.F x.1 ∧ flatRows x.2.2 = true ∧ VRrows J1.noM w x.2.2 x.2.1 x.1 0 ∧ blkSz w x.1 (x.2.1 * x.2.2.length)) :
    ∀ x ∈ J2.G, J2.F x.1 ∧ flatRows x.2.2 = true ∧ VRrows J2.noM w x.2.2 x.2.1 x.1 0 ∧ blkSz w x.1 (x.2.1 * x.2.2.length) := by
  intro x hx
  rw [hG] at hx
  obtain ⟨h1, h2, h3, h4⟩ := h x hx
  exact ⟨hF _ h1, h2, VRrows_flat _ _ _ _ h2 h3, h4⟩
/-- What holds of the memory of others, from one world's view to another's. -/
structure Tr (J1 J2 : Inj) (A : Prop) : Prop where
  F : ∀ b, J1.base ≤ b → J1.F b → J2.F b
  base : J2.base ≤ J1.base
  all : A → ∀ b, J1.F b → J2.F b
mutual
theorem VR_tr {A : Prop} (T : Tr J1 J2 A) : ∀ (x : AV) (v : Value), (A ∨ own0 x = true) → VR J1.noM w x v → VR J2.noM w x v
  | .u, _, _, _ => trivial
  | .k x, v, _, h => h
  | .i k n, v, _, h => h
  | .b x, v, _, h => h
  | .s x, v, _, h => h
  | .nl, v, _, h => h
  | .np, v, _, h => h
  | .lp _ _, v, _, h => h.elim
  | .ag l, v, g, h => by
    obtain ⟨cs, rfl, hc⟩ := h
    exact ⟨cs, rfl, VRs_tr T l cs (by simpa [own0] using g) hc⟩
  | .tp l, v, g, h => by
    obtain ⟨cs, rfl, hc⟩ := h
    exact ⟨cs, rfl, VRs_tr T l cs (by simpa [own0] using g) hc⟩
  | .fn f l, v, g, h => by
    obtain ⟨cs, rfl, hc⟩ := h
    exact ⟨cs, rfl, VRs_tr T l cs (by simpa [own0] using g) hc⟩
  | .ro g fl wd rows, v, ho, h => by
    obtain ⟨a, cap, rfl, hl, hf, h⟩ := h
    refine ⟨a, cap, rfl, hl, hf, h.imp (fun x => x) ?_⟩
    rintro ⟨blk, off, rfl, hF, hg, hr⟩
    have hF' : J1.F blk := hF
    refine ⟨blk, off, rfl, ?_, ?_, ?_⟩
    · rcases ho with ho | ho
      · exact T.all ho _ hF'
      · simp only [own0, Bool.and_eq_true, Bool.not_eq_true'] at ho
        exact T.F _ (hg ho.1) hF'
    · intro e; exact Nat.le_trans T.base (hg e)
    · by_cases e : fl = true
      · exact VRrows_flat rows wd blk off (hf e) hr
      · exact VRrows_tr T rows wd blk off (ho.imp (fun x => x) fun q => by simp [own0, e] at q; exact q.2) hr
  | .rp g fl wd rows i o, v, ho, h => by
    obtain ⟨hf, blk, off, rfl, hF, hg, hr⟩ := h
    have hF' : J1.F blk := hF
    refine ⟨hf, blk, off, rfl, ?_, ?_, ?_⟩
    · rcases ho with ho | ho
      · exact T.all ho _ hF'
      · simp only [own0, Bool.and_eq_true, Bool.not_eq_true'] at ho
        exact T.F _ (hg ho.1) hF'
    · intro e; exact Nat.le_trans T.base (hg e)
    · by_cases e : fl = true
      · exact VRrows_flat rows wd blk off (hf e) hr
      · exact VRrows_tr T rows wd blk off (ho.imp (fun x => x) fun q => by simp [own0, e] at q; exact q.2) hr
  | .sl id lo len, v, _, h => by
    obtain ⟨a, cap, rfl, hl, h⟩ := h
    refine ⟨a, cap, rfl, hl, h.imp (fun x => x) ?_⟩
    rintro ⟨blk, base, wd, c, e, fz, hm, _⟩
    simp [Inj.noM] at hm
  | .sc id lo len cap, v, _, h => by
    obtain ⟨blk, base, wd, c, e, fz, hm, _⟩ := h
    simp [Inj.noM] at hm
  | .pt id i o, v, _, h => by
    obtain ⟨blk, base, wd, hm, rfl⟩ := h
    simp [Inj.noM] at hm
theorem VRs_tr {A : Prop} (T : Tr J1 J2 A) : ∀ (l : List AV) (vs : List Value), (A ∨ own0s l = true) → VRs J1.noM w l vs → VRs J2.noM w l vs
  | [], [], _, _ => trivial
  | x :: l, v :: vs, g, h => ⟨VR_tr T x v (g.imp (fun x => x) fun q => by simp [own0s] at q; exact q.1) h.1, VRs_tr T l vs (g.imp (fun x => x) fun q => by simp [own0s] at q; exact q.2) h.2⟩
  | [], _ :: _, _, h => h.elim
  | _ :: _, [], _, h => h.elim
theorem VRcells_tr {A : Prop} (T : Tr J1 J2 A) : ∀ (l : List AV) (blk o : Nat), (A ∨ own0s l = true) → VRcells J1.noM w l blk o → VRcells J2.noM w l blk o
  | [], _, _, _, _ => trivial
  | x :: l, blk, o, g, h => by
    obtain ⟨⟨v, hv, h1, hx⟩, hl⟩ := h
    exact ⟨⟨v, hv, h1, VR_tr T x v (g.imp (fun x => x) fun q => by simp [own0s] at q; exact q.1) hx⟩, VRcells_tr T l blk (o + 1) (g.imp (fun x => x) fun q => by simp [own0s] at q; exact q.2) hl⟩
theorem VRrows_tr {A : Prop} (T : Tr J1 J2 A) : ∀ (l : List (List AV)) (wd blk off : Nat), (A ∨ own0Rows l = true) → VRrows J1.noM w l wd blk off → VRrows J2.noM w l wd blk off
  | [], _, _, _, _, _ => trivial
  | r :: l, wd, blk, off, g, h => ⟨⟨h.1.1, VRcells_tr T r blk off (g.imp (fun x => x) fun q => by simp [own0Rows] at q; exact q.1) h.1.2⟩, VRrows_tr T l wd blk (off + wd) (g.imp (fun x => x) fun q => by simp [own0Rows] at q; exact q.2) h.2⟩
end
/-- The same, with the callee's own memory moved up. -/
structure TrM (k : Nat) (J1 J2 : Inj) (A : Prop) : Prop where
  t : Tr J1 J2 A
  m : ∀ id y, J1.m id = some y → J2.m (k + id) = some y
mutual
theorem VR_mv {A : Prop} {k : Nat} (T : TrM k J1 J2 A) : ∀ (x : AV) (v : Value), (A ∨ own0 x = true) → VR J1 w x v → VR J2 w (mv k x) v
  | .u, _, _, _ => trivial
  | .k x, v, _, h => h
  | .i k n, v, _, h => h
  | .b x, v, _, h => h
  | .s x, v, _, h => h
  | .nl, v, _, h => h
  | .np, v, _, h => h
  | .lp _ _, v, _, h => h.elim
  | .ag l, v, g, h => by
    obtain ⟨cs, rfl, hc⟩ := h
    exact ⟨cs, rfl, VRs_mv T l cs (by simpa [own0] using g) hc⟩
  | .tp l, v, g, h => by
    obtain ⟨cs, rfl, hc⟩ := h
    exact ⟨cs, rfl, VRs_mv T l cs (by simpa [own0] using g) hc⟩
  | .fn f l, v, g, h => by
    obtain ⟨cs, rfl, hc⟩ := h
    exact ⟨cs, rfl, VRs_mv T l cs (by simpa [own0] using g) hc⟩
  | .ro g fl wd rows, v, ho, h => by
    obtain ⟨a, cap, rfl, hl, hf, h⟩ := h
    refine ⟨a, cap, rfl, hl, hf, h.imp (fun x => x) ?_⟩
    rintro ⟨blk, off, rfl, hF, hg, hr⟩
    have hF' : J1.F blk := hF
    refine ⟨blk, off, rfl, ?_, ?_, ?_⟩
    · rcases ho with ho | ho
      · exact T.t.all ho _ hF'
      · simp only [own0, Bool.and_eq_true, Bool.not_eq_true'] at ho
        exact T.t.F _ (hg ho.1) hF'
    · intro e; exact Nat.le_trans T.t.base (hg e)
    · by_cases e : fl = true
      · exact VRrows_flat rows wd blk off (hf e) hr
      · exact VRrows_tr T.t rows wd blk off (ho.imp (fun x => x) fun q => by simp [own0, e] at q; exact q.2) hr
  | .rp g fl wd rows i o, v, ho, h => by
    obtain ⟨hf, blk, off, rfl, hF, hg, hr⟩ := h
    have hF' : J1.F blk := hF
    refine ⟨hf, blk, off, rfl, ?_, ?_, ?_⟩
    · rcases ho with ho | ho
      · exact T.t.all ho _ hF'
      · simp only [own0, Bool.and_eq_true, Bool.not_eq_true'] at ho
        exact T.t.F _ (hg ho.1) hF'
    · intro e; exact Nat.le_trans T.t.base (hg e)
    · by_cases e : fl = true
      · exact VRrows_flat rows wd blk off (hf e) hr
      · exact VRrows_tr T.t rows wd blk off (ho.imp (fun x => x) fun q => by simp [own0, e] at q; exact q.2) hr
  | .sl id lo len, v, _, h => by
    obtain ⟨a, cap, rfl, hl, h⟩ := h
    refine ⟨a, cap, rfl, hl, h.imp (fun x => x) ?_⟩
    rintro ⟨blk, base, wd, c, e, fz, hm, h1, h2⟩
    exact ⟨blk, base, wd, c, e, fz, T.m _ _ hm, h1, h2⟩
  | .sc id lo len cap, v, _, h => by
    obtain ⟨blk, base, wd, c, e, fz, hm, h1, h2⟩ := h
    exact ⟨blk, base, wd, c, e, fz, T.m _ _ hm, h1, h2⟩
  | .pt id i o, v, _, h => by
    obtain ⟨blk, base, wd, hm, rfl⟩ := h
    exact ⟨blk, base, wd, T.m _ _ hm, rfl⟩
theorem VRs_mv {A : Prop} {k : Nat} (T : TrM k J1 J2 A) : ∀ (l : List AV) (vs : List Value), (A ∨ own0s l = true) → VRs J1 w l vs → VRs J2 w (mvs k l) vs
  | [], [], _, _ => trivial
  | x :: l, v :: vs, g, h => ⟨VR_mv T x v (g.imp (fun x => x) fun q => by simp [own0s] at q; exact q.1) h.1, VRs_mv T l vs (g.imp (fun x => x) fun q => by simp [own0s] at q; exact q.2) h.2⟩
  | [], _ :: _, _, h => h.elim
  | _ :: _, [], _, h => h.elim
end
theorem mvs_len (k : Nat) : ∀ l : List AV, (mvs k l).length = l.length
  | [] => rfl
  | x :: l => by simp [mvs, mvs_len k l]
theorem VRcells_mv {A : Prop} {k : Nat} (T : TrM k J1 J2 A) : ∀ (l : List AV) (blk o : Nat), (A ∨ own0s l = true) → VRcells J1 w l blk o → VRcells J2 w (mvs k l) blk o
  | [], _, _, _, _ => trivial
  | x :: l, blk, o, g, h => by
    obtain ⟨⟨v, hv, h1, hx⟩, hl⟩ := h
    exact ⟨⟨v, hv, h1, VR_mv T x v (g.imp (fun x => x) fun q => by simp [own0s] at q; exact q.1) hx⟩, VRcells_mv T l blk (o + 1) (g.imp (fun x => x) fun q => by simp [own0s] at q; exact q.2) hl⟩
theorem VRrows_mv {A : Prop} {k : Nat} (T : TrM k J1 J2 A) : ∀ (l : List (List AV)) (wd blk off : Nat), (A ∨ own0Rows l = true) → VRrows J1 w l wd blk off → VRrows J2 w (mvRows k l) wd blk off
  | [], _, _, _, _, _ => trivial
  | r :: l, wd, blk, off, g, h => ⟨⟨by rw [mvs_len]; exact h.1.1, VRcells_mv T r blk off (g.imp (fun x => x) fun q => by simp [own0Rows] at q; exact q.1) h.1.2⟩,
      VRrows_mv T l wd blk (off + wd) (g.imp (fun x => x) fun q => by simp [own0Rows] at q; exact q.2) h.2⟩

/-! ## Arguments that are read alone -/
theorem All2_rows {R : AV → AV → Prop} {J1 J2 : Inj} (wd blk : Nat) (one : ∀ x y v, R x y → VR J1 w x v → VR J2 w y v) : ∀ (rows r : List (List AV)) (off : Nat), All2 (All2 R) rows r → VRrows J1 w rows wd blk off → VRrows J2 w r wd blk off
  | [], [], _, _, _ => trivial
  | x :: rows, y :: r, off, h, hr => by
    have cells : ∀ (l l' : List AV) (o : Nat), All2 R l l' → VRcells J1 w l blk o → VRcells J2 w l' blk o ∧ l'.length = l.length := by
      intro l
      induction l with
      | nil => intro l' o h _; cases l' with
        | nil => exact ⟨trivial, rfl⟩
        | cons _ _ => exact h.elim
      | cons p l ih =>
        intro l' o h hc
        cases l' with
        | nil => exact h.elim
        | cons q l' =>
          obtain ⟨⟨v, h1, h2, h3⟩, hl⟩ := hc
          obtain ⟨g1, g2⟩ := ih l' (o + 1) h.2 hl
          exact ⟨⟨⟨v, h1, h2, one _ _ _ h.1 h3⟩, g1⟩, by simp [g2]⟩
    obtain ⟨c1, c2⟩ := cells x y off h.1 hr.1.2
    exact ⟨⟨by rw [c2]; exact hr.1.1, c1⟩, All2_rows wd blk one rows r _ h.2 hr.2⟩
  | [], _ :: _, _, h, _ => h.elim
  | _ :: _, [], _, h, _ => h.elim
theorem All2_VRs {R : AV → AV → Prop} {J1 J2 : Inj} (one : ∀ x y v, R x y → VR J1 w x v → VR J2 w y v) : ∀ (l l' : List AV) (cs : List Value), All2 R l l' → VRs J1 w l cs → VRs J2 w l' cs
  | [], [], [], _, _ => trivial
  | [], [], _ :: _, _, h => h.elim
  | x :: l, y :: l', [], _, h => h.elim
  | x :: l, y :: l', c :: cs, h, hr => ⟨one _ _ _ h.1 hr.1, All2_VRs one l l' cs h.2 hr.2⟩
  | [], _ :: _, _, h, _ => h.elim
  | _ :: _, [], _, h, _ => h.elim
theorem All2_len {α β : Type} {R : α → β → Prop} : ∀ (l : List α) (r : List β), All2 R l r → l.length = r.length
  | [], [], _ => rfl
  | x :: l, y :: r, h => by simp [All2_len l r h.2]
  | [], _ :: _, h => h.elim
  | _ :: _, [], h => h.elim
theorem All2_imp {α β : Type} {R S : α → β → Prop} : ∀ (l : List α) (r : List β), (∀ x ∈ l, ∀ y, R x y → S x y) → All2 R l r → All2 S l r
  | [], [], _, _ => trivial
  | x :: l, y :: r, h, hr => ⟨h x (List.mem_cons_self) y hr.1, All2_imp l r (fun x hx => h x (List.mem_cons_of_mem _ hx)) hr.2⟩
  | [], _ :: _, _, h => h.elim
  | _ :: _, [], _, h => h.elim
theorem deep_sound (hp : Hp) (w : World) (Jc : Inj) : ∀ (d : Nat) (J : Inj) (v x : AV) (cv : Value),
    (∀ id ob y, at? hp id = some (some ob) → J.m id = some y → ObR J w id ob) → (∀ b, J.F b → b < w.heap.size) →
    ((∀ b, b < w.heap.size → Jc.F b) ∨ ((clean v = true ∨ J.m = fun _ => none) ∧ ∀ b, J.F b → Jc.F b)) → Deep hp d v x → VR J w v cv → VR Jc.noM w x cv
  | 0, _, _, _, _, _, _, _, h, _ => h.elim
  | d + 1, J, v, x, cv, hO, hFb, hC, h, hv => by
    have hF : ∀ b, J.F b → Jc.F b := fun b hb => by
      rcases hC with hC | hC
      · exact hC b (hFb b hb)
      · exact hC.2 b hb
    have many : ∀ (l r : List AV) (cs : List Value), (clean v = true → cleans l = true) → All2 (Deep hp d) l r → VRs J w l cs → VRs Jc.noM w r cs := by
      intro l
      induction l with
      | nil => intro r cs _ h hv; cases r with
        | nil => cases cs with
          | nil => trivial
          | cons _ _ => exact hv.elim
        | cons _ _ => exact h.elim
      | cons p l ih =>
        intro r cs hcl h hv
        cases r with
        | nil => exact h.elim
        | cons q r =>
          cases cs with
          | nil => exact hv.elim
          | cons c cs =>
            refine ⟨deep_sound hp w Jc d J p q c hO hFb (hC.imp (fun x => x) fun q => ⟨q.1.imp (fun e => ?_) (fun x => x), q.2⟩) h.1 hv.1, ih r cs (fun e => ?_) h.2 hv.2⟩
            all_goals
              have := hcl e
              simp [cleans] at this
              first | exact this.1 | exact this.2
    have inner : ∀ (rows r : List (List AV)) (wd blk off : Nat), All2 (All2 (Deep hp d)) rows r → VRrows J.noM w rows wd blk off → VRrows Jc.noM w r wd blk off := by
      intro rows r wd blk off h1 h2
      refine All2_rows (J1 := J.noM) wd blk ?_ rows r off h1 h2
      intro p q c hd hv
      exact deep_sound hp w Jc d J.noM p q c (fun id ob y _ hm => by simp [Inj.noM] at hm) hFb (.inr ⟨.inr rfl, hF⟩) hd hv
    cases v with
    | nl =>
      obtain ⟨fl, wd, rfl⟩ := h
      obtain ⟨a, rfl⟩ := hv
      exact ⟨a, 0, rfl, Nat.le_refl _, fun _ => rfl, .inl rfl⟩
    | sl id lo len =>
      simp only [Deep] at h
      split at h
      · rename_i ob hob
        obtain ⟨rows, hcut, h⟩ := h
        obtain ⟨e1, e2⟩ := cut_eq _ _ _ _ hcut
        obtain ⟨a, cap, rfl, hl, hc⟩ := hv
        rcases hc with rfl | ⟨blk, base, wd, c, e', fz, hm, rfl, hh, hs⟩
        · have h0 : rows = [] := List.length_eq_zero_iff.1 (by omega)
          subst h0
          simp at e2
          subst e2
          split at h
          · subst h
            exact ⟨a, 0, rfl, Nat.le_refl _, fun _ => rfl, .inl rfl⟩
          · obtain ⟨r, hr, rfl⟩ := h
            have : r = [] := by
              cases r with
              | nil => rfl
              | cons _ _ => exact hr.elim
            subst this
            exact ⟨a, 0, rfl, Nat.le_refl _, fun _ => rfl, .inl rfl⟩
        · have hC' : ∀ b, b < w.heap.size → Jc.F b := by
            rcases hC with hC | ⟨hC | hC, _⟩
            · exact hC
            · simp [clean] at hC
            · rw [hC] at hm; simp at hm
          obtain ⟨hflat, h3⟩ := hO id ob _ hob hm
          rw [hm] at h3
          obtain ⟨rfl, _, _, _, hOw, hrows⟩ := h3
          have hr2 : VRrows J w rows ob.wd blk (base + lo * ob.wd) := by rw [e1]; exact VRrows_take _ _ _ _ _ (VRrows_drop _ _ _ _ _ hrows)
          split at h
          · rename_i hfl
            subst h
            have hf2 : flatRows rows = true := by rw [e1]; exact flat_take _ _ (flat_drop _ _ (hflat hfl))
            exact ⟨_, cap, by rw [e2], by omega, fun _ => hf2, .inr ⟨blk, _, rfl, hC' _ hOw.lt, by simp, VRrows_flat _ _ _ _ hf2 hr2⟩⟩
          · obtain ⟨r, hr, rfl⟩ := h
            have hlen := All2_len _ _ hr
            refine ⟨_, cap, by rw [← hlen, e2], by omega, by simp, .inr ⟨blk, _, rfl, hC' _ hOw.lt, by simp, ?_⟩⟩
            refine All2_rows (J1 := J) _ blk ?_ rows r _ hr hr2
            intro p q c hd hv
            exact deep_sound hp w Jc d J p q c hO hFb (.inl hC') hd hv
      · exact h.elim
    | sc _ _ _ _ => exact h.elim
    | pt id i o =>
      simp only [Deep] at h
      split at h
      · rename_i ob hob
        obtain ⟨blk, base, wd, hm, rfl⟩ := hv
        have hC' : ∀ b, b < w.heap.size → Jc.F b := by
          rcases hC with hC | ⟨hC | hC, _⟩
          · exact hC
          · simp [clean] at hC
          · rw [hC] at hm; simp at hm
        obtain ⟨hflat, h3⟩ := hO id ob _ hob hm
        rw [hm] at h3
        obtain ⟨rfl, _, _, _, hOw, hrows⟩ := h3
        split at h
        · rename_i hfl
          subst h
          exact ⟨fun _ => hflat hfl, blk, base, rfl, hC' _ hOw.lt, by simp, VRrows_flat _ _ _ _ (hflat hfl) hrows⟩
        · obtain ⟨r, hr, rfl⟩ := h
          refine ⟨by simp, blk, base, rfl, hC' _ hOw.lt, by simp, ?_⟩
          refine All2_rows (J1 := J) _ blk ?_ ob.rows r _ hr hrows
          intro p q c hd hv
          exact deep_sound hp w Jc d J p q c hO hFb (.inl hC') hd hv
      · exact h.elim
    | ro g fl wd rows =>
      obtain ⟨a, cap, rfl, hl, hf, hc⟩ := hv
      simp only [Deep] at h
      split at h
      · rename_i hfl
        subst h
        refine ⟨a, cap, rfl, hl, fun _ => hf hfl, hc.imp (fun x => x) ?_⟩
        rintro ⟨blk, off, rfl, h1, h2, h3⟩
        exact ⟨blk, off, rfl, hF _ h1, by simp, VRrows_flat _ _ _ _ (hf hfl) h3⟩
      · obtain ⟨r, hr, rfl⟩ := h
        have hlen := All2_len _ _ hr
        refine ⟨a, cap, by rw [hlen], by omega, by simp, ?_⟩
        rcases hc with rfl | ⟨blk, off, rfl, h1, h2, h3⟩
        · left
          cases r with
          | nil => rfl
          | cons _ _ => exact hr.elim
        · exact .inr ⟨blk, off, rfl, hF _ h1, by simp, inner _ _ _ _ _ hr h3⟩
    | rp g fl wd rows i o =>
      obtain ⟨hf, blk, off, rfl, h1, h2, h3⟩ := hv
      simp only [Deep] at h
      split at h
      · rename_i hfl
        subst h
        exact ⟨fun _ => hf hfl, blk, off, rfl, hF _ h1, by simp, VRrows_flat _ _ _ _ (hf hfl) h3⟩
      · obtain ⟨r, hr, rfl⟩ := h
        exact ⟨by simp, blk, off, rfl, hF _ h1, by simp, inner _ _ _ _ _ hr h3⟩
    | ag l =>
      obtain ⟨r, hr, rfl⟩ := h
      obtain ⟨cs, rfl, hcs⟩ := hv
      exact ⟨cs, rfl, many l r cs (fun e => by simpa [clean] using e) hr hcs⟩
    | tp l =>
      obtain ⟨r, hr, rfl⟩ := h
      obtain ⟨cs, rfl, hcs⟩ := hv
      exact ⟨cs, rfl, many l r cs (fun e => by simpa [clean] using e) hr hcs⟩
    | fn f l =>
      obtain ⟨r, hr, rfl⟩ := h
      obtain ⟨cs, rfl, hcs⟩ := hv
      exact ⟨cs, rfl, many l r cs (fun e => by simpa [clean] using e) hr hcs⟩
    | lp s o => exact h.elim
    | k b => rcases h with rfl | rfl <;> exact hv
    | u => simp only [Deep] at h; subst h; exact hv
    | i k n => simp only [Deep] at h; subst h; exact hv
    | b z => simp only [Deep] at h; subst h; exact hv
    | s z => simp only [Deep] at h; subst h; exact hv
    | np => simp only [Deep] at h; subst h; exact hv
end Go.Proofs.Ytmblcloikeobdaa.Ev

namespace Go.Proofs.Ytmblcloikeobdaa.Ev
open Go
set_option linter.unusedVariables false
set_option linter.unusedSimpArgs false
variable {C : Cfg} {P : Program} {J J' J1 J2 : Inj} {lb : Nat → Nat} {w w' : World} {a : Act} {st : St} {hp hp' : Hp} {o : Oper} {K : AV → St → Prop} {Q : Exit → Act → World → Prop}

/-! # Results that come back -/
theorem All2_and {R : AV → AV → Prop} {S : AV → Prop} : ∀ (l r : List AV), All2 R l r → (∀ q ∈ r, S q) → All2 (fun p q => R p q ∧ S q) l r
  | [], [], _, _ => trivial
  | x :: l, y :: r, h, g => ⟨⟨h.1, g y (List.mem_cons_self)⟩, All2_and l r h.2 fun q hq => g q (List.mem_cons_of_mem _ hq)⟩
  | [], _ :: _, h, _ => h.elim
  | _ :: _, [], h, _ => h.elim
theorem All2_and2 {R : AV → AV → Prop} {S : AV → Prop} : ∀ (l r : List (List AV)), All2 (All2 R) l r → (∀ x ∈ r, ∀ q ∈ x, S q) → All2 (All2 (fun p q => R p q ∧ S q)) l r
  | [], [], _, _ => trivial
  | x :: l, y :: r, h, g => ⟨All2_and x y h.1 (g y (List.mem_cons_self)), All2_and2 l r h.2 fun q hq => g q (List.mem_cons_of_mem _ hq)⟩
  | [], _ :: _, h, _ => h.elim
  | _ :: _, [], h, _ => h.elim
theorem own0s_mem : ∀ (l : List AV), own0s l = true → ∀ q ∈ l, own0 q = true
  | [], _ => by simp
  | x :: l, h => by
    simp [own0s] at h
    intro q hq
    rcases List.mem_cons.1 hq with rfl | hq
    · exact h.1
    · exact own0s_mem l h.2 q hq
theorem own0Rows_mem : ∀ (l : List (List AV)), own0Rows l = true → ∀ x ∈ l, ∀ q ∈ x, own0 q = true
  | [], _ => by simp
  | x :: l, h => by
    simp [own0Rows] at h
    intro y hy
    rcases List.mem_cons.1 hy with rfl | hy
    · exact own0s_mem _ h.1
    · exact own0Rows_mem l h.2 y hy
theorem back_sound {A : Prop} (T : Tr J1 J2 A) (hO : ∀ id ob, at? hp id = some (some ob) → ObR J1 w id ob)
    (hown : ∀ id ob y, at? hp id = some (some ob) → J1.m id = some y → J2.F y.1) : ∀ (d : Nat) (v x : AV) (cv : Value),
    Back hp d v x → (A ∨ own0 x = true) → VR J1 w v cv → VR J2.noM w x cv
  | 0, _, _, _, h, _, _ => h.elim
  | d + 1, v, x, cv, h, g, hv => by
    have ih := back_sound T hO hown d
    cases v with
    | nl =>
      obtain ⟨fl, wd, rfl⟩ := h
      obtain ⟨a, rfl⟩ := hv
      exact ⟨a, 0, rfl, Nat.le_refl _, fun _ => rfl, .inl rfl⟩
    | sl id lo len =>
      simp only [Back] at h
      split at h
      · rename_i ob hob
        obtain ⟨rows, hcut, h⟩ := h
        obtain ⟨e1, e2⟩ := cut_eq _ _ _ _ hcut
        obtain ⟨a, cap, rfl, hl, hc⟩ := hv
        rcases hc with rfl | ⟨blk, base, wd, c, e', fz, hm, rfl, hh, hs⟩
        · have h0 : rows = [] := List.length_eq_zero_iff.1 (by omega)
          subst h0
          simp at e2
          subst e2
          split at h
          · subst h
            exact ⟨a, 0, rfl, Nat.le_refl _, fun _ => rfl, .inl rfl⟩
          · obtain ⟨r, hr, rfl⟩ := h
            have : r = [] := by
              cases r with
              | nil => rfl
              | cons _ _ => exact hr.elim
            subst this
            exact ⟨a, 0, rfl, Nat.le_refl _, fun _ => rfl, .inl rfl⟩
        · obtain ⟨hflat, h3⟩ := hO id ob hob
          rw [hm] at h3
          obtain ⟨rfl, _, _, hbs, hOw, hrows⟩ := h3
          have hFb : J2.F blk := hown id ob _ hob hm
          have hbase : J2.base ≤ blk := Nat.le_trans T.base hbs
          have hr2 : VRrows J1 w rows ob.wd blk (base + lo * ob.wd) := by rw [e1]; exact VRrows_take _ _ _ _ _ (VRrows_drop _ _ _ _ _ hrows)
          split at h
          · rename_i hfl
            subst h
            have hf2 : flatRows rows = true := by rw [e1]; exact flat_take _ _ (flat_drop _ _ (hflat hfl))
            exact ⟨_, cap, by rw [e2], by omega, fun _ => hf2, .inr ⟨blk, _, rfl, hFb, fun _ => hbase, VRrows_flat _ _ _ _ hf2 hr2⟩⟩
          · obtain ⟨r, hr, rfl⟩ := h
            have hlen := All2_len _ _ hr
            refine ⟨_, cap, by rw [← hlen, e2], by omega, by simp, .inr ⟨blk, _, rfl, hFb, fun _ => hbase, ?_⟩⟩
            refine All2_rows (J1 := J1) (R := fun p q => Back hp d p q ∧ (A ∨ own0 q = true)) _ blk ?_ rows r _ (All2_and2 _ _ hr ?_) hr2
            · intro p q c hd hv
              exact ih p q c hd.1 hd.2 hv
            · intro x hx q hq
              exact g.imp (fun x => x) fun g => own0Rows_mem r (by simpa [own0] using g) x hx q hq
      · exact h.elim
    | ag l =>
      obtain ⟨r, hr, rfl⟩ := h
      obtain ⟨cs, rfl, hcs⟩ := hv
      refine ⟨cs, rfl, All2_VRs (R := fun p q => Back hp d p q ∧ (A ∨ own0 q = true)) (fun p q c hd hv => ih p q c hd.1 hd.2 hv) l r cs (All2_and _ _ hr fun q hq => ?_) hcs⟩
      exact g.imp (fun x => x) fun g => own0s_mem r (by simpa [own0] using g) q hq
    | tp l =>
      obtain ⟨r, hr, rfl⟩ := h
      obtain ⟨cs, rfl, hcs⟩ := hv
      refine ⟨cs, rfl, All2_VRs (R := fun p q => Back hp d p q ∧ (A ∨ own0 q = true)) (fun p q c hd hv => ih p q c hd.1 hd.2 hv) l r cs (All2_and _ _ hr fun q hq => ?_) hcs⟩
      exact g.imp (fun x => x) fun g => own0s_mem r (by simpa [own0] using g) q hq
    | ro gg fl wd rows => simp only [Back] at h; subst h; exact VR_tr T _ _ g hv
    | rp gg fl wd rows i o => simp only [Back] at h; subst h; exact VR_tr T _ _ g hv
    | fn f l => exact h.elim
    | pt id i o => exact h.elim
    | sc _ _ _ _ => exact h.elim
    | lp s o => exact h.elim
    | k b => rcases h with rfl | rfl <;> exact hv
    | u => simp only [Back] at h; subst h; exact hv
    | i k n => simp only [Back] at h; subst h; exact hv
    | b z => simp only [Back] at h; subst h; exact hv
    | s z => simp only [Back] at h; subst h; exact hv
    | np => simp only [Back] at h; subst h; exact hv

/-! # Calls -/
theorem does_wp {c : Call} {f : Operand} {fi : Nat} {caps vals : Array Value} {R : Value → World → Prop} {next : Act → World → Prop} (e : o.op = .call c) (hc : c.callee = .value f)
    (hf : a.eval f = .func (.func fi) #[] caps) (hv : (c.args.map a.eval) ++ caps = vals) (h : Does P fi vals w R) (hk : ∀ v w', R v w' → next (a.put o.dst v) w') : o.wp P a w next Q := by
  have hrun : (execOp a.eval o).run P w = (callFunc fi vals).run P w := by
    simp [execOp, e, resolve, hc, Deferred.ofValue, hf, invoke, hv]
  unfold Oper.wp
  rw [hrun]
  rcases h with ⟨h1, h2⟩ | ⟨v, w', h1, h2⟩
  · rw [h1]
    refine Calls.mono h2 ?_
    rintro e' w' ⟨v, rfl, hR⟩
    exact hk v w' hR
  · rw [h1]
    exact hk v w' h2
/-- The callee's view: all that there is, is to be kept. -/
def callJ (J : Inj) (w : World) (all : Bool) : Inj where
  base := w.heap.size
  K := fun b => b < w.heap.size
  F := fun b => if all then J.F b else b < w.heap.size
  m := fun _ => none
  G := J.G
theorem callJ_inv (hI : Inv J w hp) (all : Bool) : Inv (callJ J w all) w [] := by
  refine ⟨Nat.le_refl _, ?_, fun _ h => h, by simp [at?], by rintro _ _ _ _ ⟨_, h⟩; simp [at?] at h, by simp [callJ], ?_⟩; rotate_left
  · intro x hx
    obtain ⟨h1, h2, h3, h4⟩ := hI.gl x hx
    exact ⟨by cases all <;> simp [callJ, h1, hI.Fb _ h1], h2, VRrows_flat _ _ _ _ h2 h3, h4⟩
  intro b hb
  cases all
  · simpa [callJ] using hb
  · simp [callJ] at hb; exact hI.Fb b hb
theorem call_args (hI : Inv J w hp) {args xs : List AV} {vals : List Value} (hd : All2 (Deep hp 4) args xs) (hv : VRs J w args vals) : VRs (callJ J w (cleans args)) w xs vals := by
  have cl : cleans args = true → ∀ x ∈ args, clean x = true := by
    have : ∀ l : List AV, cleans l = true → ∀ x ∈ l, clean x = true := by
      intro l
      induction l with
      | nil => simp
      | cons y l ih =>
        intro h x hx
        simp [cleans] at h
        rcases List.mem_cons.1 hx with rfl | hx
        · exact h.1
        · exact ih h.2 x hx
    exact this args
  have h2 : All2 (fun p q => Deep hp 4 p q ∧ (cleans args = true → clean p = true)) args xs := All2_imp _ _ (fun x hx y hy => ⟨hy, fun e => cl e x hx⟩) hd
  refine All2_VRs (J2 := callJ J w (cleans args)) ?_ args xs vals h2 hv
  intro p q c ⟨h, hc⟩ hv
  refine deep_sound hp w (callJ J w (cleans args)) 4 J p q c (fun id ob y h _ => hI.ob id ob h) hI.Fb ?_ h hv
  by_cases e : cleans args = true
  · exact .inr ⟨.inl (hc e), fun b hb => by simpa [callJ, e] using hb⟩
  · exact .inl fun b hb => by simpa [callJ, e] using hb
/-- What is known behind the call, where its memory is taken over. -/
def backJ (J J1 : Inj) (w : World) (hp' : Hp) (n : Nat) (own : Bool) : Inj where
  base := J.base
  K := J.K
  F := fun b => J.F b ∨ (w.heap.size ≤ b ∧ (J1.F b ∨ (own = false ∧ ∃ id ob y, at? hp' id = some (some ob) ∧ J1.m id = some y ∧ y.1 = b)))
  m := fun id => if id < n then J.m id else if own then J1.m (id - n) else none
  G := J.G
theorem back_tr (hI : Inv J w hp) {all : Bool} (E1 : Ext (callJ J w all) J1 w w') {n : Nat} {own : Bool} : Tr J1 (backJ J J1 w hp' n own) (all = true) := by
  have hb : J1.base = w.heap.size := E1.base
  refine ⟨fun b h1 h2 => .inr ⟨by rw [← hb]; exact h1, .inl h2⟩, by rw [hb]; exact hI.bnd, ?_⟩
  intro e b h
  rcases E1.Fnew b h with h1 | h1
  · rw [e] at h1; exact .inl (by simpa [callJ] using h1)
  · exact .inr ⟨h1, .inl h⟩
theorem back_ext (hI : Inv J w hp) {all : Bool} (E1 : Ext (callJ J w all) J1 w w') {own : Bool} : Ext J (backJ J J1 w hp' hp.length own) w w' := by
  refine ⟨rfl, rfl, rfl, fun b h => .inl h, fun b h => h.imp (fun x => x) And.left, ?_, E1.size, ?_, E1.shape, E1.same⟩
  · intro id x hx
    simp [backJ, hI.dom id x hx, hx]
  · intro b h
    exact E1.keep b (.inr (h.elim (hI.Fb b) (hI.Kb b)))
theorem at?_app {α : Type} {l r : List α} {i : Nat} {y : α} (h : at? (l ++ r) i = some y) : (i < l.length ∧ at? l i = some y) ∨ (l.length ≤ i ∧ at? r (i - l.length) = some y) := by
  rw [at?_eq] at h
  by_cases hi : i < l.length
  · rw [List.getElem?_append_left hi] at h; exact .inl ⟨hi, by rw [at?_eq]; exact h⟩
  · rw [List.getElem?_append_right (by omega)] at h; exact .inr ⟨by omega, by rw [at?_eq]; exact h⟩
theorem mvHp_len (k : Nat) : ∀ l : Hp, (mvHp k l).length = l.length
  | [] => rfl
  | some _ :: l => by simp [mvHp, mvHp_len k l]
  | none :: l => by simp [mvHp, mvHp_len k l]
theorem mvHp_at (k : Nat) : ∀ (l : Hp) (i : Nat) (ob : Ob), at? (mvHp k l) i = some (some ob) → ∃ ob0, at? l i = some (some ob0) ∧ ob = (if ob0.fl then ob0 else { ob0 with rows := mvRows k ob0.rows })
  | [], _, _, h => by simp [mvHp, at?] at h
  | some ob1 :: l, 0, ob, h => by simp [mvHp, at?] at h; exact ⟨ob1, rfl, h.symm⟩
  | none :: l, 0, ob, h => by simp [mvHp, at?] at h
  | some _ :: l, i + 1, ob, h => by simp only [mvHp, at?] at h ⊢; exact mvHp_at k l i ob h
  | none :: l, i + 1, ob, h => by simp only [mvHp, at?] at h ⊢; exact mvHp_at k l i ob h
theorem ownHp_at : ∀ (l : Hp) (i : Nat) (ob : Ob), ownHp l = true → at? l i = some (some ob) → ob.fl = true ∨ own0Rows ob.rows = true
  | [], _, _, _, h => by simp [at?] at h
  | some ob1 :: l, 0, ob, g, h => by simp [at?] at h; subst h; simp [ownHp] at g; exact g.1
  | none :: l, 0, ob, g, h => by simp [at?] at h
  | some _ :: l, i + 1, ob, g, h => by simp [ownHp] at g; simp only [at?] at h; exact ownHp_at l i ob g.2 h
  | none :: l, i + 1, ob, g, h => by simp [ownHp] at g; simp only [at?] at h; exact ownHp_at l i ob g h
theorem rel_back (R : Rel J lb w a st) {all : Bool} (E1 : Ext (callJ J w all) J1 w w') (hI1 : Inv J1 w' hp') :
    Rel (backJ J J1 w hp' st.hp.length false) lb w' a st := by
  have E := back_ext (hp' := hp') R.inv E1 (own := false)
  have old : ∀ b, b < w.heap.size → w'.heap[b]? = w.heap[b]? := fun b hb => E1.keep b (.inr hb)
  have hI : Inv (backJ J J1 w hp' st.hp.length false) w' st.hp := by
    refine ⟨Nat.le_trans R.inv.bnd E1.size, ?_, fun b h => Nat.lt_of_lt_of_le (R.inv.Kb b h) E1.size, ?_, ?_, ?_, gl_ext E R.inv.gl⟩
    · rintro b (h | ⟨h, h1 | ⟨_, id, ob, y, h1, h2, rfl⟩⟩)
      · exact Nat.lt_of_lt_of_le (R.inv.Fb b h) E1.size
      · exact hI1.Fb b h1
      · have := (hI1.ob id ob h1).2
        obtain ⟨blk, base, wd⟩ := y
        rw [h2] at this
        exact this.2.2.2.2.1.lt
    · intro id ob h
      have hlt : id < st.hp.length := by
        rw [at?_eq] at h
        exact (List.getElem?_eq_some_iff.1 h).1
      refine ObR_ext E (R.inv.ob id ob h) (by simp [backJ, hlt]) ?_
      intro x hx
      have := (R.inv.ob id ob h).2
      obtain ⟨blk, base, wd⟩ := x
      rw [hx] at this
      exact old _ this.2.2.2.2.1.lt
    · intro i i' x x' h1 h2 hx hx'
      have l1 : i < st.hp.length := by obtain ⟨_, h1⟩ := h1; rw [at?_eq] at h1; exact (List.getElem?_eq_some_iff.1 h1).1
      have l2 : i' < st.hp.length := by obtain ⟨_, h2⟩ := h2; rw [at?_eq] at h2; exact (List.getElem?_eq_some_iff.1 h2).1
      exact R.inv.inj i i' x x' h1 h2 (by simpa [backJ, l1] using hx) (by simpa [backJ, l2] using hx')
    · intro i x hx
      simp only [backJ] at hx
      split at hx
      · assumption
      · simp at hx
  refine rel_step R E hI (fun s hs => ?_) ?_
  · obtain ⟨c, hc⟩ := hs
    exact old _ (R.box s c hc).2.2.1.lt
  · intro s i x hs hl hx
    have l1 : i < st.hp.length := by obtain ⟨_, h1⟩ := hl; rw [at?_eq] at h1; exact (List.getElem?_eq_some_iff.1 h1).1
    exact R.bobj s i x hs hl (by simpa [backJ, l1] using hx)
theorem rel_take (R : Rel J lb w a st) {all : Bool} (E1 : Ext (callJ J w all) J1 w w') (hI1 : Inv J1 w' hp') (hown : all = true ∨ ownHp hp' = true) :
    Rel (backJ J J1 w hp' st.hp.length true) lb w' a ⟨st.env, st.bx, st.hp ++ mvHp st.hp.length hp'⟩ := by
  have E := back_ext (hp' := hp') R.inv E1 (own := true)
  have T := back_tr (hp' := hp') R.inv E1 (n := st.hp.length) (own := true)
  have old : ∀ b, b < w.heap.size → w'.heap[b]? = w.heap[b]? := fun b hb => E1.keep b (.inr hb)
  have hb1 : J1.base = w.heap.size := E1.base
  have TM : TrM st.hp.length J1 (backJ J J1 w hp' st.hp.length true) (all = true) := ⟨T, fun id y h => by simp [backJ, h]; intro q; omega⟩
  have hlow : ∀ id ob y, at? st.hp id = some (some ob) → J.m id = some y → y.1 < w.heap.size := by
    intro id ob y h hm
    have := (R.inv.ob id ob h).2
    obtain ⟨blk, base, wd⟩ := y
    rw [hm] at this
    exact this.2.2.2.2.1.lt
  have hhigh : ∀ id ob y, at? hp' id = some (some ob) → J1.m id = some y → w.heap.size ≤ y.1 := by
    intro id ob y h hm
    have := (hI1.ob id ob h).2
    obtain ⟨blk, base, wd⟩ := y
    rw [hm, hb1] at this
    exact this.2.2.2.1
  have hcase : ∀ i ob, at? (st.hp ++ mvHp st.hp.length hp') i = some (some ob) → (i < st.hp.length ∧ at? st.hp i = some (some ob)) ∨
      (st.hp.length ≤ i ∧ ∃ ob0, at? hp' (i - st.hp.length) = some (some ob0) ∧ ob = (if ob0.fl then ob0 else { ob0 with rows := mvRows st.hp.length ob0.rows })) := by
    intro i ob h
    rcases at?_app h with h | ⟨h1, h2⟩
    · exact .inl h
    · exact .inr ⟨h1, mvHp_at _ _ _ _ h2⟩
  have hI : Inv (backJ J J1 w hp' st.hp.length true) w' (st.hp ++ mvHp st.hp.length hp') := by
    refine ⟨Nat.le_trans R.inv.bnd E1.size, ?_, fun b h => Nat.lt_of_lt_of_le (R.inv.Kb b h) E1.size, ?_, ?_, ?_, gl_ext E R.inv.gl⟩
    · rintro b (h | ⟨h, h1 | ⟨h0, _⟩⟩)
      · exact Nat.lt_of_lt_of_le (R.inv.Fb b h) E1.size
      · exact hI1.Fb b h1
      · simp at h0
    · intro id ob h
      rcases hcase id ob h with ⟨hlt, h⟩ | ⟨hge, ob0, h0, rfl⟩
      · refine ObR_ext E (R.inv.ob id ob h) (by simp [backJ, hlt]) ?_
        intro x hx
        exact old _ (hlow id ob x h hx)
      · obtain ⟨hf, h3⟩ := hI1.ob _ ob0 h0
        have hm : (backJ J J1 w hp' st.hp.length true).m id = J1.m (id - st.hp.length) := by simp [backJ, Nat.not_lt.2 hge]
        have hr0 := ownHp_at hp' (id - st.hp.length) ob0
        refine ⟨?_, ?_⟩
        · intro q
          split at q
          · rename_i hfl
            simp only [hfl, ↓reduceIte]; exact hf hfl
          · rename_i hfl
            exact absurd q hfl
        · rw [hm]
          cases hx : J1.m (id - st.hp.length) with
          | none =>
            rw [hx] at h3
            simp only [] at h3 ⊢
            split
            · exact h3
            · simp only [h3]; rfl
          | some y =>
            obtain ⟨blk, base, wd⟩ := y
            rw [hx] at h3
            simp only [] at h3 ⊢
            obtain ⟨g1, g2, g3, g4, g5, g6⟩ := h3
            rw [hb1] at g4
            have hw : (if ob0.fl = true then ob0 else { ob0 with rows := mvRows st.hp.length ob0.rows }).wd = ob0.wd := by split <;> rfl
            refine ⟨by rw [hw]; exact g1, ?_, ?_, Nat.le_trans R.inv.bnd g4, g5, ?_⟩
            · rintro (h | ⟨_, h | ⟨h0, _⟩⟩)
              · have := R.inv.Fb _ h; omega
              · exact g2 h
              · simp at h0
            · intro h
              have := R.inv.Kb _ h; omega
            · rw [hw]
              split
              · rename_i hfl
                exact VRrows_flat _ _ _ _ (hf hfl) g6
              · rename_i hfl
                refine VRrows_mv TM _ _ _ _ (hown.imp (fun x => x) fun q => ?_) g6
                rcases hr0 q h0 with h | h
                · exact absurd h hfl
                · exact h
    · intro i i' x x' ⟨o1, h1⟩ ⟨o2, h2⟩ hx hx' he
      rcases hcase i o1 h1 with ⟨l1, h1⟩ | ⟨l1, p1, h1, _⟩ <;> rcases hcase i' o2 h2 with ⟨l2, h2⟩ | ⟨l2, p2, h2, _⟩
      · exact R.inv.inj i i' x x' ⟨_, h1⟩ ⟨_, h2⟩ (by simpa [backJ, l1] using hx) (by simpa [backJ, l2] using hx') he
      · have a1 := hlow i o1 x h1 (by simpa [backJ, l1] using hx)
        have a2 := hhigh _ p2 x' h2 (by simpa [backJ, Nat.not_lt.2 l2] using hx')
        omega
      · have a1 := hlow i' o2 x' h2 (by simpa [backJ, l2] using hx')
        have a2 := hhigh _ p1 x h1 (by simpa [backJ, Nat.not_lt.2 l1] using hx)
        omega
      · have := hI1.inj _ _ x x' ⟨_, h1⟩ ⟨_, h2⟩ (by simpa [backJ, Nat.not_lt.2 l1] using hx) (by simpa [backJ, Nat.not_lt.2 l2] using hx') he
        omega
    · intro i x hx
      simp only [backJ] at hx
      rw [List.length_append, mvHp_len]
      split at hx
      · omega
      · simp only [↓reduceIte] at hx
        have := hI1.dom _ _ hx
        omega
  refine rel_step R E hI (fun s hs => ?_) ?_
  · obtain ⟨c, hc⟩ := hs
    exact old _ (R.box s c hc).2.2.1.lt
  · intro s i x hs ⟨ob, hl⟩ hx
    rcases hcase i ob hl with ⟨l1, h1⟩ | ⟨l1, p1, h1, _⟩
    · exact R.bobj s i x hs ⟨_, h1⟩ (by simpa [backJ, l1] using hx)
    · have a2 := hhigh _ p1 x h1 (by simpa [backJ, Nat.not_lt.2 l1] using hx)
      obtain ⟨c, hc⟩ := hs
      have := (R.box s c hc).2.2.1.lt
      omega
end Go.Proofs.Ytmblcloikeobdaa.Ev

namespace Go.Proofs.Ytmblcloikeobdaa.Ev
open Go
set_option linter.unusedVariables false
set_option linter.unusedSimpArgs false
variable {C : Cfg} {P : Program} {J J' J1 J2 : Inj} {lb : Nat → Nat} {w w' : World} {a : Act} {st : St} {hp hp' : Hp} {o : Oper} {K : AV → St → Prop} {Q : Exit → Act → World → Prop}

theorem deep_okvs : ∀ (l xs : List AV), All2 (Deep hp 4) l xs → okvs l = true
  | [], [], _ => rfl
  | x :: l, y :: r, h => by
    simp only [okvs, Bool.and_eq_true]
    refine ⟨?_, deep_okvs l r h.2⟩
    cases x <;> first | rfl | exact h.1.elim
  | [], _ :: _, h => h.elim
  | _ :: _, [], h => h.elim
theorem EVs_app : ∀ (l l' : List AV) (c c' : List Value), EVs J lb w l c → EVs J lb w l' c' → EVs J lb w (l ++ l') (c ++ c')
  | [], _, [], _, _, h => h
  | x :: l, l', v :: c, c', h, h' => ⟨h.1, EVs_app l l' c c' h.2 h'⟩
  | [], _, _ :: _, _, h, _ => h.elim
  | _ :: _, _, [], _, h, _ => h.elim
theorem VRs_EVs : ∀ (l : List AV) (c : List Value), VRs J w l c → EVs J lb w l c
  | [], [], _ => trivial
  | x :: l, v :: c, h => ⟨VR_EV h.1, VRs_EVs l c h.2⟩
  | [], _ :: _, h => h.elim
  | _ :: _, [], h => h.elim
/-- The callee's view, where it may write into the caller's own heap: the caller's boxes are to be kept. -/
def passJ (J : Inj) (lb : Nat → Nat) (st : St) : Inj := { J with K := fun b => J.K b ∨ ∃ s, boxed st s ∧ lb s = b }
theorem passV (J J' : Inj) (w : World) (h1 : J'.base = J.base) (h2 : ∀ b, J.F b → J'.F b) (h3 : ∀ id x, J.m id = some x → J'.m id = some x) : ExtV J J' w w :=
  ⟨h1, h2, h3, fun _ _ => rfl, fun _ c e fz h => ⟨c, fz, h, rfl⟩⟩
theorem ObR_K {id : Nat} {ob : Ob} (h : ObR J w id ob) (h1 : J'.base = J.base) (h2 : J'.F = J.F) (h3 : J'.m = J.m) (h4 : ∀ blk base wd, J.m id = some (blk, base, wd) → ¬ J.K blk → ¬ J'.K blk) : ObR J' w id ob := by
  obtain ⟨g1, g2⟩ := h
  refine ⟨g1, ?_⟩
  rw [h3]
  cases hm : J.m id with
  | none => rw [hm] at g2; exact g2
  | some y =>
    obtain ⟨blk, base, wd⟩ := y
    rw [hm] at g2
    obtain ⟨q1, q2, q3, q4, q5, q6⟩ := g2
    exact ⟨q1, by rw [h2]; exact q2, h4 _ _ _ hm q3, by rw [h1]; exact q4, q5, VRrows_extV (passV J J' w h1 (fun b h => by rw [h2]; exact h) (fun _ _ h => by rw [h3]; exact h)) _ _ _ _ rfl q6⟩
theorem pass_inv (R : Rel J lb w a st) : Inv (passJ J lb st) w st.hp := by
  refine ⟨R.inv.bnd, R.inv.Fb, ?_, ?_, R.inv.inj, R.inv.dom, gl_of (J1 := J) rfl (fun _ h => h) R.inv.gl⟩
  · rintro b (h | ⟨s, ⟨c, hc⟩, rfl⟩)
    · exact R.inv.Kb b h
    · exact (R.box s c hc).2.2.1.lt
  · intro id ob h
    refine ObR_K (R.inv.ob id ob h) rfl rfl rfl ?_
    rintro blk base wd hm hK (h' | ⟨s, hs, e⟩)
    · exact hK h'
    · exact R.bobj s id _ hs ⟨_, h⟩ hm e.symm
/-- Back from a callee that worked in the caller's own heap. -/
theorem rel_pass (R : Rel J lb w a st) (E1 : Ext (passJ J lb st) J1 w w') (hI1 : Inv J1 w' hp') :
    Rel { J1 with K := J.K } lb w' a ⟨st.env, st.bx, hp'⟩ ∧ Ext J { J1 with K := J.K } w w' := by
  have E : Ext J { J1 with K := J.K } w w' := by
    refine ⟨E1.G, E1.base, rfl, E1.F, E1.Fnew, E1.m, E1.size, ?_, E1.shape, E1.same⟩
    intro b h
    exact E1.keep b (h.imp (fun x => x) .inl)
  have hK1 : J1.K = (passJ J lb st).K := E1.K
  have hI : Inv { J1 with K := J.K } w' hp' := by
    refine ⟨hI1.bnd, hI1.Fb, fun b h => Nat.lt_of_lt_of_le (R.inv.Kb b h) E1.size, ?_, hI1.inj, hI1.dom, gl_of (J1 := J1) rfl (fun _ h => h) hI1.gl⟩
    intro id ob h
    refine ObR_K (hI1.ob id ob h) rfl rfl rfl ?_
    intro blk base wd hm hK h'
    exact hK (by rw [hK1]; exact .inl h')
  refine ⟨rel_step R E hI (fun s hs => E1.keep _ (.inr (.inr ⟨s, hs, rfl⟩))) ?_, E⟩
  intro s i x hs ⟨ob, hl⟩ hx e
  have := (hI1.ob i ob hl).2
  obtain ⟨blk, base, wd⟩ := x
  have hx' : J1.m i = some (blk, base, wd) := hx
  rw [hx'] at this
  exact this.2.2.1 (by rw [hK1]; exact .inr ⟨s, hs, e.symm⟩)
theorem op_call (hG : J.G = C.gl) (R : Rel J lb w a st) {c : Call} {f : Operand} {q : Bool} (e : o.op = .call c) (hc : c.callee = .value f) {fi : Nat} {args caps : List AV} (hl : args? st c.args.toList = some args)
    (hf : arg st f = some (.fn fi caps)) (h : callP C P q fi (args ++ caps) st K) : o.wp P a w (Nx J w o.dst K) Q := by
  have hx := args_EVs R _ _ hl
  obtain ⟨cs, hfv, hcs⟩ := arg_EV R f _ hf
  have hall := EVs_app _ _ _ _ hx (VRs_EVs _ _ hcs)
  have hvals : (c.args.map a.eval) ++ cs.toArray = (c.args.toList.map a.eval ++ cs).toArray := by
    apply Array.ext'
    simp
  generalize c.args.toList.map a.eval ++ cs = vals at hall hvals
  generalize args ++ caps = xs at h hall
  rcases h with ⟨ys, hd, r, hFn, hcl, hk⟩ | ⟨_, ys, hd, r, hp', hFn, hcl, hk⟩ | ⟨_, hok, r, hp', hFn, hk⟩ | ⟨_, ys, hd, q, hFn, hk⟩ | ⟨_, hok, q, hFn, hk⟩
  · have hv := EVs_VRs _ _ hall (deep_okvs _ _ hd)
    refine does_wp e hc hfv hvals (hFn (callJ J w (cleans xs)) w vals hG (callJ_inv R.inv (cleans xs)) (call_args R.inv hd hv)) ?_
    rintro v w' ⟨r0, hp', J1, hB, E1, I1, hr⟩
    refine ⟨r, st, _, lb, hk, rel_put (rel_back R E1 I1) (VR_EV ?_) _, back_ext R.inv E1⟩
    have T := back_tr (hp' := hp') R.inv E1 (n := st.hp.length) (own := false)
    have hb1 : J1.base = w.heap.size := E1.base
    have := back_sound (J2 := backJ J J1 w hp' st.hp.length false) T I1.ob (by
      intro id ob y h1 h2
      have h3 := (I1.ob id ob h1).2
      obtain ⟨blk, base, wd⟩ := y
      rw [h2, hb1] at h3
      exact .inr ⟨h3.2.2.2.1, .inr ⟨rfl, id, ob, _, h1, h2, rfl⟩⟩) 4 r0 r v hB (by simpa using hcl) hr
    exact VR_ext (Ext.unM _ _) _ _ this
  · have hv := EVs_VRs _ _ hall (deep_okvs _ _ hd)
    refine does_wp e hc hfv hvals (hFn (callJ J w (cleans xs)) w vals hG (callJ_inv R.inv (cleans xs)) (call_args R.inv hd hv)) ?_
    rintro v w' ⟨J1, E1, I1, hr⟩
    simp only [Bool.or_eq_true, Bool.and_eq_true] at hcl
    obtain ⟨e', b', h'⟩ := st
    simp only [fl_eq, flH_eq, nk_eq] at hk
    have T := back_tr (hp' := hp') R.inv E1 (n := h'.length) (own := true)
    refine ⟨_, _, _, lb, hk, rel_put (rel_take R E1 I1 (hcl.imp (fun x => x) And.right)) (VR_EV ?_) _, back_ext R.inv E1⟩
    exact VR_mv ⟨T, fun id y h => by simp [backJ, h]; intro q; omega⟩ r v (hcl.imp (fun x => x) And.left) hr
  · have hv := EVs_VRs _ _ hall hok
    have hv2 : VRs (passJ J lb st) w xs vals := VRs_extV (passV J (passJ J lb st) w rfl (fun _ h => h) (fun _ _ h => h)) _ _ hv
    refine does_wp e hc hfv hvals (hFn (passJ J lb st) w vals hG (pass_inv R) hv2) ?_
    rintro v w' ⟨J1, E1, I1, hr⟩
    obtain ⟨R', E'⟩ := rel_pass R E1 I1
    obtain ⟨e', b', h'⟩ := st
    simp only [fl_eq, flH_eq, nk_eq] at hk
    exact ⟨r, _, _, lb, hk, rel_put R' (VR_EV (VR_extV (passV J1 { J1 with K := J.K } w' rfl (fun _ h => h) (fun _ _ h => h)) _ _ hr)) _, E'⟩
  · have hv := EVs_VRs _ _ hall (deep_okvs _ _ hd)
    refine does_wp e hc hfv hvals (hFn (callJ J w (cleans xs)) w vals hG (callJ_inv R.inv (cleans xs)) (call_args R.inv hd hv)) ?_
    rintro v w' ⟨r, r0, hp', J1, hq, hB, E1, I1, hr⟩
    obtain ⟨hcl, hk⟩ := hk r hq
    refine ⟨r, st, _, lb, hk, rel_put (rel_back R E1 I1) (VR_EV ?_) _, back_ext R.inv E1⟩
    have T := back_tr (hp' := hp') R.inv E1 (n := st.hp.length) (own := false)
    have hb1 : J1.base = w.heap.size := E1.base
    have := back_sound (J2 := backJ J J1 w hp' st.hp.length false) T I1.ob (by
      intro id ob y h1 h2
      have h3 := (I1.ob id ob h1).2
      obtain ⟨blk, base, wd⟩ := y
      rw [h2, hb1] at h3
      exact .inr ⟨h3.2.2.2.1, .inr ⟨rfl, id, ob, _, h1, h2, rfl⟩⟩) 4 r0 r v hB (by simpa using hcl) hr
    exact VR_ext (Ext.unM _ _) _ _ this
  · have hv := EVs_VRs _ _ hall hok
    have hv2 : VRs (passJ J lb st) w xs vals := VRs_extV (passV J (passJ J lb st) w rfl (fun _ h => h) (fun _ _ h => h)) _ _ hv
    refine does_wp e hc hfv hvals (hFn (passJ J lb st) w vals hG (pass_inv R) hv2) ?_
    rintro v w' ⟨r, hp', J1, hq, E1, I1, hr⟩
    obtain ⟨R', E'⟩ := rel_pass R E1 I1
    obtain ⟨e', b', h'⟩ := st
    simp only [flH_eq] at hk
    exact ⟨r, _, _, lb, hk r hp' hq, rel_put R' (VR_EV (VR_extV (passV J1 { J1 with K := J.K } w' rfl (fun _ h => h) (fun _ _ h => h)) _ _ hr)) _, E'⟩
theorem op_builtin (T : TyOk C P) (R : Rel J lb w a st) {c : Call} {b : Builtin} {q : Bool} (e : o.op = .call c) (hb : c.callee = .builtin b) {l : List AV} (hl : args? st c.args.toList = some l)
    (h : builtinP C q c.argTypes.toList b l st K) : o.wp P a w (Nx J w o.dst K) Q := by
  have hx := args_EVs R _ _ hl
  have hmap : c.args.map a.eval = (c.args.toList.map a.eval).toArray := by cases c.args; simp
  cases b <;> try exact h.elim
  case len =>
    simp only [builtinP] at h
    split at h
    · rename_i v
      obtain ⟨n, hn, hk⟩ := optK_some h
      obtain ⟨cx, hc, ex⟩ := args1 R hl
      have ht : c.argTypes[0]? = some (c.argTypes.toList.headD 0) := by
        generalize c.argTypes = ts at hn ⊢
        obtain ⟨ts⟩ := ts
        cases ts with
        | nil => simp [lenV, T.o0] at hn
        | cons x r => simp
      refine done_val R (v := .i .i64 n) (cv := .int .i64 n) (call_builtin e hb (s := Builtin.len_ c.argTypes o.type #[cx]) (by intro _; rw [hc]; rfl) (lenV_run T ht ex hn)) rfl hk Q
    · exact h.elim
  case cap =>
    simp only [builtinP] at h
    split at h
    · rename_i id lo len cp
      obtain ⟨hz, h⟩ := h
      simp only [bne_iff_ne] at hz
      obtain ⟨h0, hu⟩ := slice0 T hz
      generalize elemT C (c.argTypes.toList.headD 0) = el at *
      generalize c.argTypes.toList.headD 0 = tt at *
      obtain ⟨cx, hc, ex⟩ := args1 R hl
      obtain ⟨blk, base, wd, cc, e', fz, hm, rfl, hle, hh, hs⟩ := ex
      refine done_val R (v := .i .i64 (cp : Nat)) (cv := .int .i64 (cp : Nat)) (call_builtin e hb (s := Builtin.cap_ c.argTypes o.type #[.slice (some ⟨blk, base + lo * wd, none⟩) len cp]) (by intro _; rw [hc]; rfl) ?_) rfl h Q
      simp [Builtin.cap_, h0, run_underlying hu, goInt]
    · exact h.elim
  case max =>
    simp only [builtinP] at h
    obtain ⟨v, hv, hk⟩ := optK_some h
    obtain ⟨cv, h1, h2⟩ := minmax_run (P := P) (ts := c.argTypes) (ty := o.type) hx hv
    exact done_val R (call_builtin e hb (s := Builtin.max_ c.argTypes o.type (c.args.toList.map a.eval).toArray) (by intro _; rw [hmap]; rfl) (by simpa using h1)) (VR_EV h2) hk Q
  case min =>
    simp only [builtinP] at h
    obtain ⟨v, hv, hk⟩ := optK_some h
    obtain ⟨cv, h1, h2⟩ := minmax_run (P := P) (ts := c.argTypes) (ty := o.type) hx hv
    exact done_val R (call_builtin e hb (s := Builtin.min_ c.argTypes o.type (c.args.toList.map a.eval).toArray) (by intro _; rw [hmap]; rfl) (by simpa using h1)) (VR_EV h2) hk Q
  case append =>
    have hq : q = false := by
      simp only [builtinP] at h
      split at h
      · exact h.1
      · exact h.1
      · exact h.elim
    subst hq
    exact op_append T R e hb hl h
  case copy =>
    have hq : q = false := by
      simp only [builtinP] at h
      split at h
      · exact h.1
      · exact h.1
      · exact h.elim
    subst hq
    exact op_copy T R e hb hl h
  case clear =>
    have hq : q = false := by
      simp only [builtinP] at h
      split at h
      · exact h.1
      · exact h.elim
    subst hq
    exact op_clear T R e hb hl h
theorem op_sound (T : TyOk C P) (hG : J.G = C.gl) {me : Nat} {q : Bool} (R : Rel J lb w a st) (h : opP C P me q o st K) : o.wp P a w (Nx J w o.dst K) Q := by
  unfold opP at h
  split at h
  case h_1 x e => exact op_move R (.inl e) h
  case h_2 x e => exact op_move R (.inr e) h
  case h_3 c x y e => exact op_pick R e h
  case h_4 t e => exact op_alloc T R e h
  case h_5 t x e => exact op_box R e h
  case h_6 t parts e => exact op_build T R e h
  case h_7 t n parts e => exact op_buildSlice T T.z0 R e h.2
  case h_8 t x e => exact op_load T R e (un_bad h)
  case h_9 t x y e => exact op_store T R e (un_bad h.2)
  case h_10 x e => exact op_nil R e h
  case h_11 op t x y t' e =>
    split at h
    · rename_i hn; exact op_nilCmp T R h.2 e hn
    · exact op_bin T R e h
  case h_12 op t x e => exact op_un R e h
  case h_13 s d x e => exact op_convert T R e h
  case h_14 f first caps e => exact op_makeFunc R e h
  case h_15 t l c e =>
    split at h
    · rename_i k n k' m h1 h2
      exact op_makeSlice T T.z0 R e (by rw [h1, h2]; exact h.2) T.by0
    · exact h.elim
  case h_16 t x lo hi mx e => exact op_slice3 T R e h
  case h_17 t x lo hi e => exact op_slice T R e h
  case h_18 t x f e => exact op_fieldAddr T R e h
  case h_19 t x f e => exact op_field T R e h
  case h_20 t x ix e =>
    split at h
    · rename_i g hg; exact op_global T hG R e hg h
    · exact op_indexAddr T R e h
  case h_21 t x ix e => exact op_index T R e h
  case h_22 x n e => exact op_extract R e h
  case h_23 c e =>
    obtain ⟨args, hl, h⟩ := optK_some h
    split at h
    · rename_i b hb; exact op_builtin T R e hb hl h
    · rename_i f hf
      obtain ⟨v, hv, h⟩ := optK_some h
      split at h
      · exact op_call hG R e hf hl hv h
      · exact h.elim
    · exact h.elim
  case h_24 => exact h.elim
end Go.Proofs.Ytmblcloikeobdaa.Ev
