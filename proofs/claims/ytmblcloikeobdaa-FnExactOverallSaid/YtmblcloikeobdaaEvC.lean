/- The evaluator, third part: regions in the text order and in drawn orders, loops, functions, and the check of the tables. -/
import Derived.Test.YtmblcloikeobdaaEvB
import Derived.Below
set_option linter.constructorNameAsVariable false
set_option linter.unusedVariables false
set_option linter.unusedSimpArgs false
namespace Go.Proofs.Ytmblcloikeobdaa.Ev
open Go
set_option linter.unusedVariables false
set_option linter.unusedSimpArgs false
variable {C : Cfg} {P : Program} {J J0 J' J1 J2 : Inj} {lb : Nat → Nat} {w w0 w' : World} {a : Act} {st : St} {hp hp' : Hp} {o : Oper} {K : AV → St → Prop} {Q : Exit → Act → World → Prop} {ops : Array Oper} {me : Nat}

/-! # Regions -/
theorem refine_EV {x y : AV} {v : Value} (h : EV J lb w x v) (hx : asB x = asB y) (hy : ∃ b, asB y = some b) : EV J lb w y v := by
  obtain ⟨b, hb⟩ := hy
  have hv : v = .bool b := asB_val h (by rw [hx, hb])
  subst hv
  cases y <;> simp [asB] at hb
  · subst hb; rfl
  · subst hb; rfl
theorem rel_refine (R : Rel J lb w a st) {d : Nat} {x : Bool} (h : asB (nth st.env d) = some x) : Rel J lb w a (st.put (some d) (.k x)) := by
  refine ⟨R.inv, by simp [St.put, upd_eq, R.sz], ?_, R.box, R.binj, R.bobj, R.dfr⟩
  intro t ht
  simp only [St.put, upd_eq, List.length_set] at ht
  have h0 := R.env t ht
  simp only [St.put, upd_eq, nth_eq]
  by_cases e : d = t
  · subst e
    simp [ht]
    have := refine_EV (y := .k x) h0 (by rw [h]; rfl) ⟨x, rfl⟩
    simpa using this
  · simp [e]
    simpa [nth_eq] using h0
theorem guard_val (R : Rel J lb w a st) {g d : Nat} {x : Bool} (hd : dstOf ops.toList g = some d) (hv : asB (nth st.env d) = some x) : yielded ops a.tmps g = some x := by
  have he := asB_val (getD_tmps R d) hv
  have hop : (ops[g]?).bind (·.dst) = some d := by
    unfold dstOf at hd
    rw [at?_eq] at hd
    simp only [Array.getElem?_toList] at hd
    cases ho : ops[g]? with
    | none => rw [ho] at hd; simp at hd
    | some o => rw [ho] at hd; simpa using hd
  unfold yielded
  rw [hop]
  simp only [Option.bind_some]
  cases ht : a.tmps[d]? with
  | none => simp [ht, undef] at he
  | some v => simp [ht] at he; subst he; rfl
theorem Oper.wp_imp {next next' : Act → World → Prop} (h : o.wp P a w next Q) (hk : ∀ a w, next a w → next' a w) : o.wp P a w next' Q := Oper.wp_mono hk h
theorem rel_undef (R : Rel J lb w a st) (d : Option Nat) : Rel J lb w (a.put d undef) (st.put d (.tp [])) := rel_put R (show EV J lb w (.tp []) undef from ⟨[], rfl, trivial⟩) d
theorem guard_und (R : Rel J lb w a st) {g d : Nat} (hd : dstOf ops.toList g = some d) (hv : nth st.env d = .tp []) : yielded ops a.tmps g = none := by
  have he : EV J lb w (nth st.env d) (a.tmps.getD d undef) := getD_tmps R d
  rw [hv] at he
  obtain ⟨cs, hc, hcs⟩ := he
  have hop : (ops[g]?).bind (·.dst) = some d := by
    unfold dstOf at hd
    rw [at?_eq] at hd
    simp only [Array.getElem?_toList] at hd
    cases ho : ops[g]? with
    | none => rw [ho] at hd; simp at hd
    | some o => rw [ho] at hd; simpa using hd
  unfold yielded
  rw [hop]
  simp only [Option.bind_some]
  cases ht : a.tmps[d]? with
  | none => rfl
  | some v =>
    simp [ht] at hc
    subst hc
    rfl
/-- One operation of a list, behind its guard. -/
theorem wpOp_do {i : Nat} (hi : ops[i]? = some o) (hw : Region.wanted o (yielded ops a.tmps) = true) {K : Act → World → Prop} (h : o.wp P a w K Q) : wpOp P ops Q i K a w := by
  unfold wpOp; simp only [hi, hw, if_true]; exact .inl h
theorem wpOp_skip {i : Nat} (hi : ops[i]? = some o) (hw : Region.wanted o (yielded ops a.tmps) = false) {K : Act → World → Prop} (h : K (a.put o.dst undef) w) : wpOp P ops Q i K a w := by
  unfold wpOp; simp only [hi, hw]; exact h
theorem opsP_sound (T : TyOk C P) (hG : J0.G = C.gl) {Kf : St → Prop} : ∀ (rest : List Oper) (k : Nat) (st : St) (J : Inj) (lb : Nat → Nat) (w : World) (a : Act), ops.toList.drop k = rest → Rel J lb w a st → Ext J0 J w0 w →
    opsP C P me ops.toList rest st Kf → wpOps P ops (Post J0 w0 fun ex st => ex = .norm ∧ Kf st) (List.range' k rest.length) a w
  | [], k, st, J, lb, w, a, hk, R, E, h => by
    simp only [List.length_nil, List.range'_zero, wpOps]
    exact ⟨.norm, st, J, lb, ⟨rfl, h⟩, trivial, R, E⟩
  | o :: rest, k, st, J, lb, w, a, hk, R, E, h => by
    have hi : ops[k]? = some o := by
      have : (ops.toList.drop k)[0]? = some o := by rw [hk]; rfl
      simpa using this
    have hr : ops.toList.drop (k + 1) = rest := by
      rw [← List.drop_drop, hk]; rfl
    have ih := fun st J lb w a => opsP_sound T hG (Kf := Kf) rest (k + 1) st J lb w a hr
    rw [List.length_cons, List.range'_succ, wpOps_cons]
    have step : ∀ (st : St), Rel J lb w a st → (opP C P me false o st fun v st' => putK st' o.dst v fun st' => opsP C P me ops.toList rest st' Kf) → Region.wanted o (yielded ops a.tmps) = true →
        wpOp P ops (Post J0 w0 fun ex st => ex = .norm ∧ Kf st) k (wpOps P ops (Post J0 w0 fun ex st => ex = .norm ∧ Kf st) (List.range' (k + 1) rest.length)) a w := by
      intro st R h hw
      refine wpOp_do hi hw (Oper.wp_imp (op_sound T (E.G.trans hG) R h) ?_)
      rintro a' w' ⟨v, st', J', lb', hk', R', E'⟩
      rw [putK_eq] at hk'
      exact ih _ _ _ _ _ R' (E.trans E') hk'
    have skip : ∀ (st : St), Rel J lb w a st → (putK st o.dst (.tp []) fun st' => opsP C P me ops.toList rest st' Kf) → Region.wanted o (yielded ops a.tmps) = false →
        wpOp P ops (Post J0 w0 fun ex st => ex = .norm ∧ Kf st) k (wpOps P ops (Post J0 w0 fun ex st => ex = .norm ∧ Kf st) (List.range' (k + 1) rest.length)) a w := by
      intro st R h hw
      rw [putK_eq] at h
      exact wpOp_skip hi hw (ih _ _ _ _ _ (rel_undef R _) E h)
    simp only [opsP] at h
    split at h
    · rename_i hg
      exact step st R h (by simp [Region.wanted, hg])
    · rename_i g want hg
      split at h
      · exact h.elim
      · rename_i d hd
        split at h
        · rename_i x hx
          have hy := guard_val (ops := ops) R hd (x := x) (by rw [hx]; rfl)
          split at h
          · rename_i e
            exact step st R h (by simp [Region.wanted, hg, hy]; simpa using e)
          · rename_i e
            exact skip st R h (by simp [Region.wanted, hg, hy]; simpa using e)
        · rename_i x hx
          have hb : asB (nth st.env d) = some x := by rw [hx]; rfl
          have hy := guard_val (ops := ops) R hd hb
          by_cases e : x = want
          · subst e
            have h1 := h.1 rfl
            rw [putK_eq] at h1
            exact step _ (rel_refine R hb) h1 (by simp [Region.wanted, hg, hy])
          · have e' : x = !want := by cases x <;> cases want <;> simp_all
            have h1 := h.2 e'
            rw [putK_eq] at h1
            exact skip _ (rel_refine R (by rw [hb, e'])) h1 (by simp [Region.wanted, hg, hy]; exact e)
        · rename_i l hx
          split at h
          · exact skip st R h (by simp [Region.wanted, hg, guard_und (ops := ops) R hd hx])
          · exact h.elim
        · exact h.elim
end Go.Proofs.Ytmblcloikeobdaa.Ev

namespace Go.Proofs.Ytmblcloikeobdaa.Ev
open Go
set_option linter.unusedVariables false
set_option linter.unusedSimpArgs false
variable {C : Cfg} {P : Program} {J J0 J' J1 J2 : Inj} {lb : Nat → Nat} {w w0 w' : World} {a : Act} {st : St} {hp hp' : Hp} {o : Oper} {Q : Exit → Act → World → Prop} {ops : Array Oper} {me : Nat}

/-! # What an operation looks at -/
theorem optK_imp {α : Type} {x : Option α} {K K' : α → Prop} (h : optK x K) (hk : ∀ v, K v → K' v) : optK x K' := by
  cases x with
  | none => exact h
  | some v => exact hk v h
theorem cutK_imp {t o : Nat} {row : List AV} {K K' : AV → Prop} (h : cutK C t o row K) (hk : ∀ v, K v → K' v) : cutK C t o row K' := by
  unfold cutK at *
  split at h <;> try exact h
  split at h <;> try exact h
  exact hk _ h
theorem loadP_imp {e e1 : List AV} {b : List (Option (List AV))} {h : Hp} {t : Nat} {p : AV} {K K' : AV → Prop} (g : loadP C ⟨e, b, h⟩ t K p) (hk : ∀ v, K v → K' v) : loadP C ⟨e1, b, h⟩ t K' p := by
  cases p <;> try exact g
  case lp s o =>
    simp only [loadP] at g ⊢
    split at g
    · exact cutK_imp g hk
    · exact g
  case pt id i o =>
    simp only [loadP] at g ⊢
    split at g
    · obtain ⟨row, h1, h2⟩ := g; exact ⟨row, h1, cutK_imp h2 hk⟩
    · exact g
  case rp g' fl wd rows i o => obtain ⟨row, h1, h2⟩ := g; exact ⟨row, h1, cutK_imp h2 hk⟩
theorem storeP_imp {e e1 : List AV} {b : List (Option (List AV))} {h : Hp} {t : Nat} {p v : AV} {K K' : St → Prop} (g : storeP C ⟨e, b, h⟩ t v K p) (hk : ∀ b' h', K ⟨e, b', h'⟩ → K' ⟨e1, b', h'⟩) :
    storeP C ⟨e1, b, h⟩ t v K' p := by
  cases p <;> try exact g
  case lp s o =>
    simp only [storeP, fl_eq, flH_eq, nk_eq, updK_eq] at g ⊢
    obtain ⟨g1, g⟩ := g
    refine ⟨g1, ?_⟩
    split at g
    · split at g
      · exact hk _ _ g
      · exact g.elim
    · exact g.elim
  case pt id i o =>
    simp only [storeP, fl_eq, flH_eq, nk_eq, updK_eq] at g ⊢
    obtain ⟨g1, g⟩ := g
    refine ⟨g1, ?_⟩
    split at g
    · obtain ⟨g2, row, g3, g⟩ := g
      refine ⟨g2, row, g3, ?_⟩
      split at g
      · exact hk _ _ g
      · exact g.elim
    · exact g.elim
theorem binP_imp {t : Nat} {op : BinOp} {x y : AV} {K K' : AV → Prop} (g : binP C t op K x y) (hk : ∀ v, K v → K' v) : binP C t op K' x y := by
  unfold binP at *
  split at g
  · split at g
    · exact ⟨g.1, hk _ g.2⟩
    · exact ⟨g.1, hk _ g.2⟩
    · exact ⟨g.1, g.2.1, hk _ g.2.2⟩
    · exact ⟨g.1, g.2.1, hk _ g.2.2⟩
    · refine ⟨g.1, ?_⟩
      have g2 := g.2
      split at g2
      · exact hk _ g2
      · exact g2.elim
  · split at g
    · exact ⟨g.1, hk _ g.2⟩
    · split at g
      · exact hk _ g
      · exact g.elim
  · split at g
    · exact hk _ g
    · exact hk _ g
    · exact g.elim
  · split at g
    · split at g
      · exact hk _ g
      · exact hk _ g
      · exact g.elim
    · exact g.elim
theorem fieldVP_imp {t f : Nat} {x : AV} {K K' : AV → Prop} (g : fieldVP C t f K x) (hk : ∀ v, K v → K' v) : fieldVP C t f K' x := by
  cases x <;> try exact g
  simp only [fieldVP] at g ⊢
  split at g
  · exact cutK_imp g hk
  · exact g
theorem indexVP_imp {t : Nat} {x n : AV} {K K' : AV → Prop} (g : indexVP C t K x n) (hk : ∀ v, K v → K' v) : indexVP C t K' x n := by
  cases n <;> try exact g
  cases x <;> try exact g
  · exact ⟨g.1, g.2.1, hk _ g.2.2⟩
  · simp only [indexVP] at g ⊢
    split at g
    · exact ⟨g.1, g.2.1, cutK_imp g.2.2 hk⟩
    · exact g
theorem indexAP_imp {t : Nat} {x n : AV} {K K' : AV → Prop} (g : indexAP C hp t K x n) (hk : ∀ v, K v → K' v) : indexAP C hp t K' x n := by
  cases n <;> try exact g
  simp only [indexAP] at g ⊢
  split at g
  · refine ⟨g.1, ?_⟩
    have g2 := g.2
    cases x <;> try exact g2
    · exact ⟨g2.1, g2.2.1, hk _ g2.2.2⟩
    · exact ⟨g2.1, g2.2.1, hk _ g2.2.2⟩
  · exact ⟨g.1, g.2.1, optK_imp g.2.2 hk⟩
  · exact g
theorem bound_arg {st st1 : St} {d : Int} : ∀ (x : Option Operand), (∀ y, x = some y → arg st y = arg st1 y) → bound st d x = bound st1 d x
  | none, _ => rfl
  | some y, h => by simp only [bound, h y rfl]
theorem sliceP_imp {e e1 : List AV} {b : List (Option (List AV))} {h : Hp} {t : Nat} {lo hi : Option Operand} {x : AV} {K K' : AV → Prop} (g : sliceP C ⟨e, b, h⟩ t lo hi K x)
    (h1 : ∀ y, lo = some y → arg ⟨e, b, h⟩ y = arg ⟨e1, b, h⟩ y) (h2 : ∀ y, hi = some y → arg ⟨e, b, h⟩ y = arg ⟨e1, b, h⟩ y) (hk : ∀ v, K v → K' v) : sliceP C ⟨e1, b, h⟩ t lo hi K' x := by
  have q1 : ∀ d, bound ⟨e1, b, h⟩ d lo = bound ⟨e, b, h⟩ d lo := fun d => (bound_arg lo h1).symm
  have q2 : ∀ d, bound ⟨e1, b, h⟩ d hi = bound ⟨e, b, h⟩ d hi := fun d => (bound_arg hi h2).symm
  unfold sliceP at *
  simp only [q1, q2]
  split at g
  · split at g
    · split at g
      · exact ⟨g.1, hk _ g.2⟩
      · exact g.elim
    · exact g.elim
  · refine ⟨g.1, ?_⟩
    have g2 := g.2
    split at g2
    · split at g2
      · exact ⟨g2.1, g2.2.1, hk _ g2.2.2⟩
      · exact g2.elim
    · split at g2
      · exact ⟨g2.1, g2.2.1, hk _ g2.2.2⟩
      · exact g2.elim
    · split at g2
      · exact ⟨g2.1, g2.2.1, hk _ g2.2.2⟩
      · exact g2.elim
    · split at g2
      · exact ⟨g2.1, hk _ g2.2⟩
      · exact g2.elim
    · exact g2.elim
  · exact g
theorem args_eq {st st1 : St} : ∀ (l : List Operand), (∀ x ∈ l, arg st x = arg st1 x) → args? st l = args? st1 l
  | [], _ => rfl
  | x :: l, h => by
    have ih := args_eq l (fun y hy => h y (List.mem_cons_of_mem _ hy))
    simp only [args?, mapO] at ih ⊢
    rw [h x (List.mem_cons_self), ih]
theorem fill_eq {st st1 : St} {place : Nat → Option (Nat × Nat)} : ∀ (l : List (Nat × Operand)) (z : List AV), (∀ x ∈ l, arg st x.2 = arg st1 x.2) → fill st place l z = fill st1 place l z
  | [], _, _ => rfl
  | (i, x) :: l, z, h => by
    have h1 := h (i, x) (List.mem_cons_self)
    have ih := fun z => fill_eq (place := place) l z (fun y hy => h y (List.mem_cons_of_mem _ hy))
    have hf : fill st place l = fill st1 place l := funext ih
    simp only [] at h1
    simp only [fill, h1, hf]
theorem builtinP_imp {e e1 : List AV} {b : List (Option (List AV))} {h : Hp} {q : Bool} {ts : List Nat} {bi : Builtin} {l : List AV} {K K' : AV → St → Prop} (g : builtinP C q ts bi l ⟨e, b, h⟩ K)
    (hk : ∀ v h', K v ⟨e, b, h'⟩ → K' v ⟨e1, b, h'⟩) : builtinP C q ts bi l ⟨e1, b, h⟩ K' := by
  cases bi <;> try exact g
  case len =>
    simp only [builtinP] at g ⊢
    split at g
    · exact optK_imp g fun v => hk _ _
    · exact g
  case cap =>
    simp only [builtinP] at g ⊢
    split at g
    · exact ⟨g.1, hk _ _ g.2⟩
    · exact g
  case max => exact optK_imp g fun v => hk _ _
  case min => exact optK_imp g fun v => hk _ _
  case append =>
    simp only [builtinP, appZ, setK, pushK, fl_eq, flH_eq, nk_eq, updK_eq] at g ⊢
    split at g
    · obtain ⟨g1, g2, old, g3, g4, g⟩ := g
      exact ⟨g1, g2, old, g3, g4, hk _ _ g⟩
    · obtain ⟨g1, g2, old, new, g3, g4, g5, g⟩ := g
      refine ⟨g1, g2, old, new, g3, g4, g5, ?_⟩
      split at g
      · exact hk _ _ g
      · exact hk _ _ g
      · exact g
    · exact g
  case copy =>
    simp only [builtinP, copyS, setK, fl_eq, flH_eq, nk_eq, updK_eq] at g ⊢
    split at g
    · obtain ⟨g1, g2, new, g3, g⟩ := g
      refine ⟨g1, g2, new, g3, ?_⟩
      split at g
      · exact ⟨g.1, g.2.1, g.2.2.1, hk _ _ g.2.2.2⟩
      · exact g
    · obtain ⟨g1, g2, new, g3, g⟩ := g
      refine ⟨g1, g2, new, g3, ?_⟩
      split at g
      · exact ⟨g.1, g.2.1, g.2.2.1, hk _ _ g.2.2.2⟩
      · exact g
    · exact g
  case clear =>
    simp only [builtinP, setK, fl_eq, flH_eq, nk_eq, updK_eq] at g ⊢
    split at g
    · obtain ⟨g1, g2, g⟩ := g
      refine ⟨g1, g2, ?_⟩
      split at g
      · exact ⟨g.1, g.2.1, g.2.2.1, g.2.2.2.1, hk _ _ g.2.2.2.2⟩
      · exact g
    · exact g
theorem indexGP_imp {t g : Nat} {n : AV} {K K' : AV → Prop} (h : indexGP C t g K n) (hk : ∀ v, K v → K' v) : indexGP C t g K' n := by
  cases n <;> try exact h.elim
  simp only [indexGP] at h ⊢
  split at h
  · exact ⟨h.1, h.2.1, h.2.2.1, hk _ h.2.2.2⟩
  · exact h.elim
theorem callP_imp {e e1 : List AV} {b : List (Option (List AV))} {h : Hp} {q : Bool} {f : Nat} {l : List AV} {K K' : AV → St → Prop} (g : callP C P q f l ⟨e, b, h⟩ K)
    (hk : ∀ v h', K v ⟨e, b, h'⟩ → K' v ⟨e1, b, h'⟩) : callP C P q f l ⟨e1, b, h⟩ K' := by
  rcases g with ⟨xs, h1, r, h2, h3, h4⟩ | ⟨h0, xs, h1, r, hp', h2, h3, h4⟩ | ⟨h0, h1, r, hp', h2, h3⟩ | ⟨h0, xs, h1, r, h2, h3⟩ | ⟨h0, h1, r, h2, h3⟩
  · exact .inl ⟨xs, h1, r, h2, h3, hk _ _ h4⟩
  · refine .inr (.inl ⟨h0, xs, h1, r, hp', h2, h3, ?_⟩)
    simp only [fl_eq, flH_eq, nk_eq] at h4 ⊢
    exact hk _ _ h4
  · refine .inr (.inr (.inl ⟨h0, h1, r, hp', h2, ?_⟩))
    simp only [fl_eq, flH_eq, nk_eq] at h3 ⊢
    exact hk _ _ h3
  · exact .inr (.inr (.inr (.inl ⟨h0, xs, h1, r, h2, fun x hx => ⟨(h3 x hx).1, hk _ _ (h3 x hx).2⟩⟩)))
  · simp only [flH_eq] at h3
    exact .inr (.inr (.inr (.inr ⟨h0, h1, r, h2, fun x y hx => by simp only [flH_eq]; exact hk _ _ (h3 x y hx)⟩)))
def isBox (o : Oper) : Bool := match o.op with
  | .alloc _ | .box _ _ => true
  | _ => false
def isStO : Op → Bool
  | .store .. => true
  | _ => false
def isSt (o : Oper) : Bool := isStO o.op
def isLd (o : Oper) : Bool := match o.op with
  | .load .. => true
  | _ => false
/-- What is claimed of the address of a load, a store. -/
def ldC (C : Cfg) (me : Nat) (o : Oper) : Nat := match o.op with
  | .load _ a => clm C me a
  | _ => 0
def stC (C : Cfg) (me : Nat) (o : Oper) : Nat := match o.op with
  | .store _ a _ => clm C me a
  | _ => 0
/-- What an operation that makes no box leaves of memory. -/
structure Kept (C : Cfg) (me : Nat) (o : Oper) (b : List (Option (List AV))) (h : Hp) (b' : List (Option (List AV))) (h' : Hp) : Prop where
  bx : isSt o = false → b' = b
  far : stC C me o = 1 → b' = b
  near : ∀ n, stC C me o = n + 2 → h' = h ∧ ∀ m, m ≠ n → at? b' m = at? b m
theorem at?_upd_ne {α : Type} {l : List α} {i j : Nat} {v : α} (h : i ≠ j) : at? (upd l i v) j = at? l j := by
  rw [at?_eq, at?_eq, upd_eq, List.getElem?_set_ne h]
theorem storeP_kept {e e1 : List AV} {b : List (Option (List AV))} {h : Hp} {t c : Nat} {p v : AV} {K K' : St → Prop} (hc : badC c p = false) (g : storeP C ⟨e, b, h⟩ t v K p)
    (hk : ∀ b' h', (c = 1 → b' = b) → (∀ n, c = n + 2 → h' = h ∧ ∀ m, m ≠ n → at? b' m = at? b m) → K ⟨e, b', h'⟩ → K' ⟨e1, b', h'⟩) :
    storeP C ⟨e1, b, h⟩ t v K' p := by
  cases p <;> try exact g
  case lp s o =>
    simp only [storeP, fl_eq, flH_eq, nk_eq, updK_eq] at g ⊢
    obtain ⟨g1, g⟩ := g
    refine ⟨g1, ?_⟩
    split at g
    · split at g
      · refine hk _ _ ?_ ?_ g
        · rintro rfl; simp [badC] at hc
        · rintro n rfl
          have hs : s = n := by simpa [badC] using hc
          exact ⟨rfl, fun m hm => at?_upd_ne (by omega)⟩
      · exact g.elim
    · exact g.elim
  case pt id i o =>
    simp only [storeP, fl_eq, flH_eq, nk_eq, updK_eq] at g ⊢
    obtain ⟨g1, g⟩ := g
    refine ⟨g1, ?_⟩
    split at g
    · obtain ⟨g2, row, g3, g⟩ := g
      refine ⟨g2, row, g3, ?_⟩
      split at g
      · refine hk _ _ (fun _ => rfl) ?_ g
        rintro n rfl; simp [badC] at hc
      · exact g.elim
    · exact g.elim
theorem op_frame2 {e e1 : List AV} {b : List (Option (List AV))} {h : Hp} {q : Bool} {K K' : AV → St → Prop} (hb : isBox o = false) (ha : ∀ x ∈ o.op.operands, arg ⟨e, b, h⟩ x = arg ⟨e1, b, h⟩ x)
    (hk2 : ∀ v b' h', Kept C me o b h b' h' → K v ⟨e, b', h'⟩ → K' v ⟨e1, b', h'⟩) (g : opP C P me q o ⟨e, b, h⟩ K) : opP C P me q o ⟨e1, b, h⟩ K' := by
  have hk : isSt o = false → ∀ v h', K v ⟨e, b, h'⟩ → K' v ⟨e1, b, h'⟩ := fun ho v h' => hk2 v b h' ⟨fun _ => rfl, fun _ => rfl, fun n hn => by
    unfold stC at hn; unfold isSt at ho
    cases hop : o.op <;> rw [hop] at hn ho <;> simp [isStO] at hn ho⟩
  cases hop : o.op <;> (try (simp only [opP, hop] at g; done)) <;> simp only [opP, hop] at g ⊢ <;> rw [hop] at ha <;> simp only [isBox, hop] at hb <;> (try replace hk := hk ((congrArg isStO hop).trans rfl))
  case move x => rw [← ha x (by simp [Op.operands])]; exact optK_imp g fun v => hk _ _
  case assign x => rw [← ha x (by simp [Op.operands])]; exact optK_imp g fun v => hk _ _
  case pick c x y =>
    rw [← ha c (by simp [Op.operands]), ← ha x (by simp [Op.operands]), ← ha y (by simp [Op.operands])]
    split at g
    · exact optK_imp g fun v => hk _ _
    · exact optK_imp g fun v => hk _ _
    · exact ⟨fun z => optK_imp (g.1 z) fun v => hk _ _, fun z => optK_imp (g.2 z) fun v => hk _ _⟩
    · exact g
  case alloc => simp at hb
  case box => simp at hb
  case build t ps =>
    obtain ⟨g1, g⟩ := g
    refine ⟨g1, ?_⟩
    have hf : ∀ place z, fill ⟨e1, b, h⟩ place ps.toList z = fill ⟨e, b, h⟩ place ps.toList z := fun place z => (fill_eq _ _ fun x hx => ha x.2 (by simp only [Op.operands, List.mem_toArray, List.mem_map]; exact ⟨x, hx, rfl⟩)).symm
    simp only [hf]
    split at g
    · exact optK_imp g fun v => hk _ _
    · exact ⟨g.1, optK_imp g.2 fun v => hk _ _⟩
    · exact g
  case buildSlice t n ps =>
    obtain ⟨g1, g2, g⟩ := g
    refine ⟨g1, g2, ?_⟩
    have hf : ∀ place z, fill ⟨e1, b, h⟩ place ps.toList z = fill ⟨e, b, h⟩ place ps.toList z := fun place z => (fill_eq _ _ fun x hx => ha x.2 (by simp only [Op.operands, List.mem_toArray, List.mem_map]; exact ⟨x, hx, rfl⟩)).symm
    simp only [hf, pushK, fl_eq, flH_eq, nk_eq] at g ⊢
    exact optK_imp g fun v hv => ⟨hv.1, hv.2.1, hk _ _ hv.2.2⟩
  case load t x =>
    rw [← ha x (by simp [Op.operands])]
    refine optK_imp g fun p hp => ?_
    split at hp
    · exact hp.elim
    · exact loadP_imp hp fun v => hk _ _
  case store t x y =>
    rw [← ha x (by simp [Op.operands]), ← ha y (by simp [Op.operands])]
    refine ⟨g.1, optK_imp g.2 fun p hp => ?_⟩
    split at hp
    · exact hp.elim
    · rename_i hbad
      refine optK_imp hp fun v hv => storeP_kept hbad hv fun b' h' k1 k2 => hk2 _ b' h' ⟨?_, ?_, ?_⟩
      · intro q; simp [isSt, isStO, hop] at q
      · intro q; exact k1 (by simpa [stC, hop] using q)
      · intro n q; exact k2 n (by simpa [stC, hop] using q)
  case nilCheck x =>
    rw [← ha x (by simp [Op.operands])]
    split at g
    · exact hk _ _ g
    · exact hk _ _ g
    · exact hk _ _ g
    · exact g
  case binOp op t x y t' =>
    rw [← ha x (by simp [Op.operands]), ← ha y (by simp [Op.operands])]
    split at g
    · obtain ⟨g1, g2, g⟩ := g
      refine ⟨g1, g2, optK_imp g fun v hv => ⟨hv.1, ?_⟩⟩
      have hv2 := hv.2
      split at hv2
      · exact fun z hz => hk _ _ (hv2 z hz)
      · exact fun z hz => hk _ _ (hv2 z hz)
      · exact hv2
    · exact optK_imp g fun p hp => optK_imp hp fun v hv => binP_imp hv fun v => hk _ _
  case unOp op t x =>
    rw [← ha x (by simp [Op.operands])]
    exact optK_imp g fun p hp => optK_imp hp fun v => hk _ _
  case convert s d x =>
    rw [← ha x (by simp [Op.operands])]
    refine optK_imp g fun p hp => ?_
    split at hp
    · refine ⟨hp.1, ?_⟩
      have hp2 := hp.2
      split at hp2
      · exact hk _ _ hp2
      · exact hp2
    · split at hp
      · exact ⟨hp.1, hk _ _ hp.2⟩
      · obtain ⟨h1, h2, rows, l, h3, h4, h5⟩ := hp
        exact ⟨h1, h2, rows, l, h3, h4, hk _ _ h5⟩
    · exact hp
  case makeFunc f first caps =>
    cases f <;> try exact g
    case func f' =>
      refine ⟨g.1, ?_⟩
      rw [← args_eq (st := ⟨e, b, h⟩) caps.toList fun x hx => ha x (by simp [Op.operands]; right; simpa using hx)]
      exact optK_imp g.2 fun l hl => ⟨hl.1, hk _ _ hl.2⟩
  case makeSlice t x y =>
    rw [← ha x (by simp [Op.operands]), ← ha y (by simp [Op.operands])]
    simp only [pushK, fl_eq, flH_eq, nk_eq] at g ⊢
    split at g
    · exact ⟨g.1, g.2.1, g.2.2.1, hk _ _ g.2.2.2⟩
    · exact g.elim
  case slice t x lo hi mx =>
    have h1 : ∀ y, lo = some y → arg ⟨e, b, h⟩ y = arg ⟨e1, b, h⟩ y := fun y hy => ha y (by subst hy; simp [Op.operands])
    have h2 : ∀ y, hi = some y → arg ⟨e, b, h⟩ y = arg ⟨e1, b, h⟩ y := fun y hy => ha y (by subst hy; simp [Op.operands])
    have h3 : ∀ y, mx = some y → arg ⟨e, b, h⟩ y = arg ⟨e1, b, h⟩ y := fun y hy => ha y (by subst hy; simp [Op.operands])
    have hx := ha x (by simp [Op.operands])
    cases mx with
    | none =>
      simp only [] at g ⊢
      rw [← hx]
      exact optK_imp g fun p hp => sliceP_imp hp h1 h2 fun v => hk _ _
    | some m =>
      simp only [] at g ⊢
      rw [← hx, ← bound_arg lo h1, ← bound_arg hi h2, ← bound_arg (some m) h3]
      exact ⟨g.1, optK_imp g.2 fun p hp => ⟨hp.1, optK_imp hp.2 fun l hl => optK_imp hl fun h' hh => optK_imp hh fun m hm => ⟨hm.1, hk _ _ hm.2⟩⟩⟩
  case fieldAddr t x f =>
    rw [← ha x (by simp [Op.operands])]
    exact optK_imp g fun p hp => ⟨hp.1, optK_imp hp.2 fun v hv => optK_imp hv fun v => hk _ _⟩
  case field t x f =>
    rw [← ha x (by simp [Op.operands])]
    exact optK_imp g fun p hp => fieldVP_imp hp fun v => hk _ _
  case indexAddr t x ix =>
    rw [← ha x (by simp [Op.operands]), ← ha ix (by simp [Op.operands])]
    split at g
    · exact optK_imp g fun n hn => indexGP_imp hn fun v => hk _ _
    · exact optK_imp g fun p hp => optK_imp hp fun n hn => indexAP_imp hn fun v => hk _ _
  case index t x ix =>
    rw [← ha x (by simp [Op.operands]), ← ha ix (by simp [Op.operands])]
    exact optK_imp g fun p hp => optK_imp hp fun n hn => indexVP_imp hn fun v => hk _ _
  case extract x n =>
    rw [← ha x (by simp [Op.operands])]
    refine optK_imp g fun p hp => ?_
    split at hp
    · exact optK_imp hp fun v => hk _ _
    · exact hp
  case call c =>
    have hargs : args? ⟨e1, b, h⟩ c.args.toList = args? ⟨e, b, h⟩ c.args.toList := (args_eq c.args.toList fun x hx => ha x (by simp [Op.operands, Call.operands]; right; simpa using hx)).symm
    rw [hargs]
    refine optK_imp g fun l hl => ?_
    split at hl
    · exact builtinP_imp hl (fun v h' => hk v h')
    · rename_i f hc
      rw [← ha f (by simp [Op.operands, Call.operands, hc])]
      refine optK_imp hl fun v hv => ?_
      split at hv
      · exact callP_imp hv (fun v h' => hk v h')
      · exact hv
    · exact hl

theorem op_frame {e e1 : List AV} {b : List (Option (List AV))} {h : Hp} {q : Bool} {K K' : AV → St → Prop} (hb : isBox o = false) (ha : ∀ x ∈ o.op.operands, arg ⟨e, b, h⟩ x = arg ⟨e1, b, h⟩ x)
    (hk : ∀ v b' h', K v ⟨e, b', h'⟩ → K' v ⟨e1, b', h'⟩) (g : opP C P me q o ⟨e, b, h⟩ K) : opP C P me q o ⟨e1, b, h⟩ K' :=
  op_frame2 hb ha (fun v b' h' _ => hk v b' h') g
end Go.Proofs.Ytmblcloikeobdaa.Ev

namespace Go.Proofs.Ytmblcloikeobdaa.Ev
open Go
set_option linter.unusedVariables false
set_option linter.unusedSimpArgs false
variable {C : Cfg} {P : Program} {J J0 J' J1 J2 : Inj} {lb : Nat → Nat} {w w0 w' : World} {a : Act} {st : St} {hp hp' : Hp} {o : Oper} {Q : Exit → Act → World → Prop} {ops : Array Oper} {me : Nat}

/-- Operations that look at their operands alone. -/
def isE (o : Oper) : Bool := match o.op with
  | .move _ | .assign _ | .pick .. | .binOp .. | .unOp .. | .field .. | .index .. | .extract .. | .makeFunc .. | .fieldAddr .. | .nilCheck _ | .build .. => true
  | .call c => match c.callee with
    | .builtin .len | .builtin .min | .builtin .max => true
    | _ => false
  | _ => false
/-- Operations that read memory. -/
def isR (o : Oper) : Bool := match o.op with
  | .load .. | .indexAddr .. | .slice .. | .convert .. => true
  | .call c => match c.callee with
    | .value _ => true
    | _ => false
  | _ => false
/-- Parts of strings, which look at their operands alone. -/
def isS (C : Cfg) (o : Oper) : Bool := match o.op with
  | .slice t _ _ _ none => match tyd C t with
    | .str => true
    | _ => false
  | _ => false
theorem optK_ex {α β : Type} {x : Option α} {T : (β → Prop) → α → Prop} {K : β → Prop} (h : optK x (T K)) (ht : ∀ a, T K a → ∃ v, T (fun y => y = v) a ∧ K v) : ∃ v, optK x (T fun y => y = v) ∧ K v := by
  cases x with
  | none => exact h.elim
  | some a => exact ht a h
theorem cutK_ex {t o : Nat} {row : List AV} {K : AV → Prop} (h : cutK C t o row K) : ∃ v, cutK C t o row (fun y => y = v) ∧ K v := by
  unfold cutK at *
  split at h <;> try exact h.elim
  split at h <;> try exact h.elim
  exact ⟨_, rfl, h⟩
theorem loadP_ex {st : St} {t : Nat} {p : AV} {K : AV → Prop} (g : loadP C st t K p) : ∃ v, loadP C st t (fun y => y = v) p ∧ K v := by
  cases p <;> try exact g.elim
  case lp s o =>
    simp only [loadP] at g ⊢
    split at g
    · exact cutK_ex g
    · exact g.elim
  case pt id i o =>
    simp only [loadP] at g ⊢
    split at g
    · obtain ⟨row, h1, h2⟩ := g
      obtain ⟨v, h3, h4⟩ := cutK_ex h2
      exact ⟨v, ⟨row, h1, h3⟩, h4⟩
    · exact g.elim
  case rp g' fl wd rows i o =>
    obtain ⟨row, h1, h2⟩ := g
    obtain ⟨v, h3, h4⟩ := cutK_ex h2
    exact ⟨v, ⟨row, h1, h3⟩, h4⟩
theorem binP_ex {t : Nat} {op : BinOp} {x y : AV} {K : AV → Prop} (g : binP C t op K x y) : ∃ v, binP C t op (fun y => y = v) x y ∧ K v := by
  unfold binP at *
  split at g
  · split at g
    · exact ⟨_, ⟨g.1, rfl⟩, g.2⟩
    · exact ⟨_, ⟨g.1, rfl⟩, g.2⟩
    · exact ⟨_, ⟨g.1, g.2.1, rfl⟩, g.2.2⟩
    · exact ⟨_, ⟨g.1, g.2.1, rfl⟩, g.2.2⟩
    · obtain ⟨g1, g2⟩ := g
      split at g2
      · exact ⟨_, ⟨g1, rfl⟩, g2⟩
      · exact g2.elim
  · split at g
    · exact ⟨_, ⟨g.1, rfl⟩, g.2⟩
    · split at g
      · exact ⟨_, rfl, g⟩
      · exact g.elim
  · split at g
    · exact ⟨_, rfl, g⟩
    · exact ⟨_, rfl, g⟩
    · exact g.elim
  · split at g
    · split at g
      · exact ⟨_, rfl, g⟩
      · exact ⟨_, rfl, g⟩
      · exact g.elim
    · exact g.elim
theorem fieldVP_ex {t f : Nat} {x : AV} {K : AV → Prop} (g : fieldVP C t f K x) : ∃ v, fieldVP C t f (fun y => y = v) x ∧ K v := by
  cases x <;> try exact g.elim
  simp only [fieldVP] at g ⊢
  split at g
  · exact cutK_ex g
  · exact g.elim
theorem indexVP_ex {t : Nat} {x n : AV} {K : AV → Prop} (g : indexVP C t K x n) : ∃ v, indexVP C t (fun y => y = v) x n ∧ K v := by
  cases n <;> try exact g.elim
  cases x <;> try exact g.elim
  · exact ⟨_, ⟨g.1, g.2.1, rfl⟩, g.2.2⟩
  · simp only [indexVP] at g ⊢
    split at g
    · obtain ⟨v, h3, h4⟩ := cutK_ex g.2.2
      exact ⟨v, ⟨g.1, g.2.1, h3⟩, h4⟩
    · exact g.elim
theorem indexAP_ex {t : Nat} {x n : AV} {K : AV → Prop} (g : indexAP C hp t K x n) : ∃ v, indexAP C hp t (fun y => y = v) x n ∧ K v := by
  cases n <;> try exact g.elim
  simp only [indexAP] at g ⊢
  split at g
  · obtain ⟨g1, g2⟩ := g
    cases x <;> try exact g2.elim
    · exact ⟨_, ⟨g1, g2.1, g2.2.1, rfl⟩, g2.2.2⟩
    · exact ⟨_, ⟨g1, g2.1, g2.2.1, rfl⟩, g2.2.2⟩
  · obtain ⟨g1, g2, g3⟩ := g
    obtain ⟨v, h3, h4⟩ := optK_some g3
    exact ⟨v, ⟨g1, g2, by rw [h3]; rfl⟩, h4⟩
  · exact g.elim
theorem sliceP_ex {st : St} {t : Nat} {lo hi : Option Operand} {x : AV} {K : AV → Prop} (g : sliceP C st t lo hi K x) : ∃ v, sliceP C st t lo hi (fun y => y = v) x ∧ K v := by
  unfold sliceP at *
  split at g
  · split at g
    · split at g
      · exact ⟨_, ⟨g.1, rfl⟩, g.2⟩
      · exact g.elim
    · exact g.elim
  · obtain ⟨g1, g2⟩ := g
    split at g2
    · split at g2
      · exact ⟨_, ⟨g1, g2.1, g2.2.1, rfl⟩, g2.2.2⟩
      · exact g2.elim
    · split at g2
      · exact ⟨_, ⟨g1, g2.1, g2.2.1, rfl⟩, g2.2.2⟩
      · exact g2.elim
    · split at g2
      · exact ⟨_, ⟨g1, g2.1, g2.2.1, rfl⟩, g2.2.2⟩
      · exact g2.elim
    · split at g2
      · exact ⟨_, ⟨g1, g2.1, rfl⟩, g2.2⟩
      · exact g2.elim
    · exact g2.elim
  · exact g.elim
theorem optK_ex' {α : Type} {x : Option α} {K : α → Prop} (h : optK x K) : ∃ v, (optK x fun y => y = v) ∧ K v := by
  cases x with
  | none => exact h.elim
  | some a => exact ⟨a, rfl, h⟩
/-- What such an operation yields: one value, and the state as it was. -/
theorem op_ex {K : AV → St → Prop} (hr : (isE o || isR o) = true) (hw : wrC C me o = false) (g : opP C P me (quietKind C me o) o st K) :
    ∃ v, opP C P me (quietKind C me o) o st (fun y s => y = v ∧ s = st) ∧ K v st := by
  have hq : quietKind C me o = true := by
    cases hop : o.op <;> simp [isE, isR, hop] at hr <;> simp [quietKind, hop]
    rename_i c
    simp only [wrC, hop] at hw
    cases hc : c.callee <;> simp [hc] at hr hw ⊢ <;> first | exact hw | skip
    rename_i b
    cases b <;> simp at hr ⊢
  rw [hq] at g ⊢
  have key : ∀ {α : Type} (x : Option α) (T : (AV → Prop) → α → Prop), (∀ K a, T K a → ∃ v, T (fun y => y = v) a ∧ K v) → ∀ K : AV → Prop, optK x (T K) → ∃ v, optK x (T fun y => y = v) ∧ K v :=
    fun x T hT K h => optK_ex h (hT K)
  have fin : ∀ (F : (AV → Prop) → Prop), (∀ K : AV → Prop, F K → ∃ v, F (fun y => y = v) ∧ K v) → F (fun v => K v st) → ∃ v, F (fun y => y = v ∧ True) ∧ K v st := by
    intro F hF h
    obtain ⟨v, h1, h2⟩ := hF _ h
    exact ⟨v, by simpa using h1, h2⟩
  cases hop : o.op <;> simp [isE, isR, hop] at hr <;> simp only [opP, hop] at g ⊢ <;> (try simp only [eq_self, and_true])
  case move x => exact optK_ex' g
  case assign x => exact optK_ex' g
  case pick c x y =>
    split at g
    · exact optK_ex' g
    · exact optK_ex' g
    · rename_i z hz
      cases z
      · obtain ⟨v, h1, h2⟩ := optK_ex' (g.2 rfl)
        exact ⟨v, ⟨by simp, fun _ => h1⟩, h2⟩
      · obtain ⟨v, h1, h2⟩ := optK_ex' (g.1 rfl)
        exact ⟨v, ⟨fun _ => h1, by simp⟩, h2⟩
    · exact g.elim
  case build t ps =>
    obtain ⟨g1, g⟩ := g
    split at g
    · obtain ⟨l, h1, h2⟩ := optK_some g
      exact ⟨_, ⟨g1, by rw [h1]; rfl⟩, h2⟩
    · obtain ⟨g2, g⟩ := g
      obtain ⟨l, h1, h2⟩ := optK_some g
      exact ⟨_, ⟨g1, g2, by rw [h1]; rfl⟩, h2⟩
    · exact g.elim
  case load t x =>
    obtain ⟨p, h1, g⟩ := optK_some g
    rw [h1]
    simp only [optK] at g ⊢
    split at g
    · exact g.elim
    · obtain ⟨v, h3, h4⟩ := loadP_ex g
      exact ⟨v, h3, h4⟩
  case nilCheck x =>
    split at g
    · exact ⟨_, rfl, g⟩
    · exact ⟨_, rfl, g⟩
    · exact ⟨_, rfl, g⟩
    · exact g.elim
  case binOp op t x y t' =>
    split at g
    · simp at g
    · obtain ⟨p, h1, g⟩ := optK_some g
      obtain ⟨r, h2, g⟩ := optK_some g
      obtain ⟨v, h3, h4⟩ := binP_ex g
      exact ⟨v, by rw [h1, h2]; exact h3, h4⟩
  case unOp op t x =>
    obtain ⟨p, h1, g⟩ := optK_some g
    obtain ⟨r, h2, g⟩ := optK_some g
    exact ⟨r, by rw [h1]; simp only [optK, h2], g⟩
  case convert s d x =>
    obtain ⟨p, h1, g⟩ := optK_some g
    rw [h1]
    simp only [optK]
    split at g
    · obtain ⟨g1, g⟩ := g
      split at g
      · exact ⟨_, ⟨g1, rfl⟩, g⟩
      · exact g.elim
    · split at g
      · exact ⟨_, ⟨g.1, rfl⟩, g.2⟩
      · obtain ⟨h1, h2, rows, l, h3, h4, h5⟩ := g
        exact ⟨_, ⟨h1, h2, rows, l, h3, h4, rfl⟩, h5⟩
    · exact g.elim
  case makeFunc f first caps =>
    cases f <;> try exact g.elim
    obtain ⟨g1, g⟩ := g
    obtain ⟨l, h1, h2, h3⟩ := optK_some g
    exact ⟨_, ⟨g1, by rw [h1]; exact ⟨h2, rfl⟩⟩, h3⟩
  case slice t x lo hi mx =>
    cases mx with
    | none => exact key _ (fun K v => sliceP C st t lo hi K v) (fun K a => sliceP_ex) _ g
    | some m =>
      simp only [] at g ⊢
      obtain ⟨g1, g⟩ := g
      obtain ⟨p, h1, h2, g⟩ := optK_some g
      obtain ⟨l, h3, g⟩ := optK_some g
      obtain ⟨r, h4, g⟩ := optK_some g
      obtain ⟨s, h5, h6, g⟩ := optK_some g
      exact ⟨_, ⟨g1, by rw [h1, h3, h4, h5]; exact ⟨h2, h6, rfl⟩⟩, g⟩
  case fieldAddr t x f =>
    obtain ⟨p, h1, h2, g⟩ := optK_some g
    obtain ⟨v, h3, g⟩ := optK_some g
    obtain ⟨r, h4, g⟩ := optK_some g
    exact ⟨r, by rw [h1, h3]; refine ⟨h2, ?_⟩; simp only [optK, h4], g⟩
  case field t x f => exact key _ (fieldVP C t f) (fun K a => fieldVP_ex) _ g
  case indexAddr t x ix =>
    split at g
    · rename_i q hq
      obtain ⟨n, h2, g⟩ := optK_some g
      cases n <;> try exact g.elim
      simp only [indexGP] at g
      split at g
      · rename_i h5 h6
        refine ⟨_, ?_, g.2.2.2⟩
        rw [h2]
        simp only [optK, indexGP, h5, h6]
        exact ⟨g.1, g.2.1, g.2.2.1, trivial⟩
      · exact g.elim
    obtain ⟨p, h1, g⟩ := optK_some g
    obtain ⟨n, h2, g⟩ := optK_some g
    obtain ⟨v, h3, h4⟩ := indexAP_ex g
    exact ⟨v, by rw [h1, h2]; exact h3, h4⟩
  case index t x ix =>
    obtain ⟨p, h1, g⟩ := optK_some g
    obtain ⟨n, h2, g⟩ := optK_some g
    obtain ⟨v, h3, h4⟩ := indexVP_ex g
    exact ⟨v, by rw [h1, h2]; exact h3, h4⟩
  case extract x n =>
    obtain ⟨p, h1, g⟩ := optK_some g
    rw [h1]
    simp only [optK] at g ⊢
    split at g
    · exact optK_ex' g
    · exact g.elim
  case call c =>
    obtain ⟨l, h1, g⟩ := optK_some g
    rw [h1]
    simp only [optK] at g ⊢
    split at g
    · rename_i b hb
      cases b <;> simp [hb] at hr <;> simp only [builtinP] at g ⊢
      · split at g
        · obtain ⟨n, h2, h3⟩ := optK_some g
          exact ⟨_, by rw [h2]; exact ⟨rfl, trivial⟩, h3⟩
        · exact g.elim
      · obtain ⟨n, h2, h3⟩ := optK_some g
        exact ⟨_, by rw [h2]; exact ⟨rfl, trivial⟩, h3⟩
      · obtain ⟨n, h2, h3⟩ := optK_some g
        exact ⟨_, by rw [h2]; exact ⟨rfl, trivial⟩, h3⟩
    · obtain ⟨v, h2, g⟩ := optK_some g
      rw [show arg st _ = _ from h2]
      simp only [] at g ⊢
      split at g
      · rcases g with ⟨xs, q1, r, q2, q3, q4⟩ | ⟨h0, _⟩ | ⟨h0, _⟩ | ⟨h0, _⟩ | ⟨h0, _⟩
        · exact ⟨r, .inl ⟨xs, q1, r, q2, q3, rfl, rfl⟩, q4⟩
        · simp at h0
        · simp at h0
        · simp at h0
        · simp at h0
      · exact g.elim
    · exact g.elim
end Go.Proofs.Ytmblcloikeobdaa.Ev

namespace Go.Proofs.Ytmblcloikeobdaa.Ev
open Go
set_option linter.unusedVariables false
set_option linter.unusedSimpArgs false
variable {C : Cfg} {P : Program} {J J0 J' J1 J2 : Inj} {lb : Nat → Nat} {w w0 w' : World} {a : Act} {st st1 : St} {hp hp' : Hp} {o x y : Oper} {Q : Exit → Act → World → Prop} {ops : Array Oper} {me : Nat}

theorem op_frameE {K K' : AV → St → Prop} (hE : isE o = true) (ha : ∀ x ∈ o.op.operands, arg st x = arg st1 x) (hk : ∀ v, K v st → K' v st1) (g : opP C P me (quietKind C me o) o st K) : opP C P me (quietKind C me o) o st1 K' := by
  have hq : quietKind C me o = true := by
    cases hop : o.op <;> simp [isE, hop] at hE <;> simp [quietKind, hop]
    rename_i c
    cases hc : c.callee <;> simp [hc] at hE ⊢
    rename_i b
    cases b <;> simp at hE ⊢
  rw [hq] at g ⊢
  cases hop : o.op <;> simp [isE, hop] at hE <;> simp only [opP, hop] at g ⊢ <;> rw [hop] at ha
  case move x => rw [← ha x (by simp [Op.operands])]; exact optK_imp g hk
  case assign x => rw [← ha x (by simp [Op.operands])]; exact optK_imp g hk
  case pick c x y =>
    rw [← ha c (by simp [Op.operands]), ← ha x (by simp [Op.operands]), ← ha y (by simp [Op.operands])]
    split at g
    · exact optK_imp g hk
    · exact optK_imp g hk
    · exact ⟨fun z => optK_imp (g.1 z) hk, fun z => optK_imp (g.2 z) hk⟩
    · exact g
  case build t ps =>
    obtain ⟨g1, g⟩ := g
    refine ⟨g1, ?_⟩
    have hf : ∀ place z, fill st1 place ps.toList z = fill st place ps.toList z := fun place z => (fill_eq _ _ fun x hx => ha x.2 (by simp only [Op.operands, List.mem_toArray, List.mem_map]; exact ⟨x, hx, rfl⟩)).symm
    simp only [hf]
    split at g
    · exact optK_imp g fun v => hk _
    · exact ⟨g.1, optK_imp g.2 fun v => hk _⟩
    · exact g
  case nilCheck x =>
    rw [← ha x (by simp [Op.operands])]
    split at g
    · exact hk _ g
    · exact hk _ g
    · exact hk _ g
    · exact g
  case binOp op t x y t' =>
    rw [← ha x (by simp [Op.operands]), ← ha y (by simp [Op.operands])]
    split at g
    · simp at g
    · exact optK_imp g fun p hp => optK_imp hp fun v hv => binP_imp hv hk
  case unOp op t x =>
    rw [← ha x (by simp [Op.operands])]
    exact optK_imp g fun p hp => optK_imp hp hk
  case makeFunc f first caps =>
    cases f <;> try exact g
    case func f' =>
      refine ⟨g.1, ?_⟩
      rw [← args_eq (st := st) caps.toList fun x hx => ha x (by simp [Op.operands]; right; simpa using hx)]
      exact optK_imp g.2 fun l hl => ⟨hl.1, hk _ hl.2⟩
  case fieldAddr t x f =>
    rw [← ha x (by simp [Op.operands])]
    exact optK_imp g fun p hp => ⟨hp.1, optK_imp hp.2 fun v hv => optK_imp hv hk⟩
  case field t x f =>
    rw [← ha x (by simp [Op.operands])]
    exact optK_imp g fun p hp => fieldVP_imp hp hk
  case index t x ix =>
    rw [← ha x (by simp [Op.operands]), ← ha ix (by simp [Op.operands])]
    exact optK_imp g fun p hp => optK_imp hp fun n hn => indexVP_imp hn hk
  case extract x n =>
    rw [← ha x (by simp [Op.operands])]
    refine optK_imp g fun p hp => ?_
    split at hp
    · exact optK_imp hp hk
    · exact hp
  case call c =>
    have hargs : args? st1 c.args.toList = args? st c.args.toList := (args_eq c.args.toList fun x hx => ha x (by simp [Op.operands, Call.operands]; right; simpa using hx)).symm
    rw [hargs]
    refine optK_imp g fun l hl => ?_
    split at hl
    · rename_i b hb
      cases b <;> simp [hb] at hE <;> simp only [builtinP] at hl ⊢
      · split at hl
        · exact optK_imp hl fun v => hk _
        · exact hl
      · exact optK_imp hl hk
      · exact optK_imp hl hk
    · rename_i f hc
      simp [hc] at hE
    · exact hl
/-! # Any order -/
theorem notB_spec {v : AV} {want : Bool} (h : notB v want = true) : (∃ x, asB v = some x ∧ x ≠ want) ∨ v = .tp [] := by
  unfold notB at h
  split at h
  · exact .inl ⟨_, rfl, by simpa using h⟩
  · exact .inl ⟨_, rfl, by simpa using h⟩
  · exact .inr rfl
  · cases h
theorem notB_of {v : AV} {want x : Bool} (h : asB v = some x) (hne : x ≠ want) : notB v want = true := by
  cases v <;> simp [asB] at h <;> subst h <;> simp [notB] <;> exact hne
/-- One operation in an order that is drawn. -/
def aOp (C : Cfg) (P : Program) (me : Nat) (ops : Array Oper) (i : Nat) (K : St → Prop) (st : St) : Prop := match ops[i]? with
  | none => False
  | some o => match o.guard with
    | none => opP C P me (quietKind C me o) o st fun v st' => K (st'.put o.dst v)
    | some (g, want) => ∃ d, dstOf ops.toList g = some d ∧ ((asB (nth st.env d) = some want ∧ opP C P me (quietKind C me o) o st fun v st' => K (st'.put o.dst v)) ∨ (notB (nth st.env d) want = true ∧ K (st.put o.dst (.tp []))))
def aAny (C : Cfg) (P : Program) (me : Nat) (ops : Array Oper) : Nat → Array Bool → (St → Prop) → St → Prop
  | 0, listed, K, st => Region.ready .any ops listed = [] ∧ K st
  | fuel + 1, listed, K, st => (Region.ready .any ops listed = [] → K st) ∧ ∀ i ∈ Region.ready .any ops listed, aOp C P me ops i (aAny C P me ops fuel (listed.setIfInBounds i true) K) st
theorem aAny_sound (T : TyOk C P) (hG : J0.G = C.gl) {Kf : St → Prop} : ∀ (fuel : Nat) (listed : Array Bool) (st : St) (J : Inj) (lb : Nat → Nat) (w : World) (a : Act), Rel J lb w a st → Ext J0 J w0 w →
    aAny C P me ops fuel listed Kf st → wpAny P .any ops (Post J0 w0 fun ex st => ex = .norm ∧ Kf st) fuel listed a w
  | 0, listed, st, J, lb, w, a, R, E, h => ⟨h.1, .norm, st, J, lb, ⟨rfl, h.2⟩, trivial, R, E⟩
  | fuel + 1, listed, st, J, lb, w, a, R, E, h => by
    refine ⟨fun hr => ⟨.norm, st, J, lb, ⟨rfl, h.1 hr⟩, trivial, R, E⟩, ?_⟩
    intro i hi
    have hop := h.2 i hi
    have ih := fun st J lb w a => aAny_sound T hG (Kf := Kf) fuel (listed.setIfInBounds i true) st J lb w a
    unfold aOp at hop
    split at hop
    · exact hop.elim
    · rename_i o ho
      have step : (opP C P me (quietKind C me o) o st fun v st' => aAny C P me ops fuel (listed.setIfInBounds i true) Kf (st'.put o.dst v)) → Region.wanted o (yielded ops a.tmps) = true →
          wpOp P ops (Post J0 w0 fun ex st => ex = .norm ∧ Kf st) i (wpAny P .any ops (Post J0 w0 fun ex st => ex = .norm ∧ Kf st) fuel (listed.setIfInBounds i true)) a w := by
        intro h hw
        refine wpOp_do ho hw (Oper.wp_imp (op_sound T (E.G.trans hG) R h) ?_)
        rintro a' w' ⟨v, st', J', lb', hk', R', E'⟩
        exact ih _ _ _ _ _ R' (E.trans E') hk'
      split at hop
      · rename_i hg
        exact step hop (by simp [Region.wanted, hg])
      · rename_i g want hg
        obtain ⟨d, hd, ⟨hx, hop⟩ | ⟨hx, hop⟩⟩ := hop
        · have hy := guard_val (ops := ops) R hd hx
          exact step hop (by simp [Region.wanted, hg, hy])
        · refine wpOp_skip ho ?_ (ih _ _ _ _ _ (rel_undef R _) E hop)
          simp only [Region.wanted, hg]
          rcases notB_spec hx with ⟨x, h1, h2⟩ | h1
          · rw [guard_val (ops := ops) R hd h1]; simp; exact h2
          · rw [guard_und (ops := ops) R hd h1]; rfl
/-- What 'x' reads stays where 'y' is done. -/
def stays (C : Cfg) (me : Nat) (x y : Oper) : Bool := match isBox y, isSt y with
  | true, _ => true
  | false, true => match stC C me y with
    | 0 => false
    | 1 => isLd x && Nat.ble 2 (ldC C me x)
    | n + 2 => !isLd x || (Nat.ble 1 (ldC C me x) && ldC C me x != n + 2)
  | false, false => isLd x && Nat.ble 2 (ldC C me x)
/-- Two operations that may change places: 'x', which stood first, and 'y'. -/
def commute (C : Cfg) (me : Nat) (ops : Array Oper) (x y : Oper) : Bool :=
  (((isE x || isS C x) && !isBox y) || ((isE y || isS C y) && !isBox x && !wrC C me y) || (isR x && isR y && !wrC C me y) || ((isE x || isR x) && stays C me x y)) && x.apart ops y && !wrC C me x
theorem arg_put {st : St} {d : Option Nat} {v : AV} {z : Operand} (h : ∀ t, d = some t → z ≠ .tmp t) : arg (st.put d v) z = arg st z := by
  cases d with
  | none => rfl
  | some d =>
    cases z <;> try rfl
    rename_i t
    have hne : d ≠ t := fun e => h d rfl (by rw [e])
    simp [arg, St.put, upd_eq, nth_eq, List.getElem?_set_ne hne]
theorem looks_arg {d : Option Nat} (h : ∀ t, d = some t → t ∉ o.looksAt ops) (z : Operand) (hz : z ∈ o.op.operands) : ∀ t, d = some t → z ≠ .tmp t := by
  intro t ht e
  subst e
  exact h t ht (List.mem_append_left _ (List.mem_filterMap.2 ⟨.tmp t, by simpa using hz, rfl⟩))
theorem nth_put {st : St} {d : Option Nat} {v : AV} {t : Nat} (h : d ≠ some t) : nth (st.put d v).env t = nth st.env t := by
  cases d with
  | none => rfl
  | some d =>
    have hne : d ≠ t := fun e => h (by rw [e])
    simp [St.put, upd_eq, nth_eq, List.getElem?_set_ne hne]
theorem guard_look {d : Option Nat} (h : ∀ t, d = some t → t ∉ o.looksAt ops) {g : Nat} {want : Bool} (hg : o.guard = some (g, want)) {u : Nat} (hu : dstOf ops.toList g = some u) : d ≠ some u := by
  intro e
  refine h u e ?_
  unfold dstOf at hu
  rw [at?_eq] at hu
  simp only [Array.getElem?_toList] at hu
  cases ho : ops[g]? with
  | none => rw [ho] at hu; simp at hu
  | some o' =>
    rw [ho] at hu
    have : o'.dst = some u := by simpa using hu
    simp [Oper.looksAt, hg, ho, this]
theorem put_comm {st : St} {d e : Option Nat} {u v : AV} (h : ∀ t, d = some t → e ≠ some t) : (st.put d u).put e v = (st.put e v).put d u := by
  cases d with
  | none => rfl
  | some d =>
    cases e with
    | none => rfl
    | some e =>
      have hne : d ≠ e := fun q => h d rfl (by rw [q])
      simp only [St.put, upd_eq]
      rw [List.set_comm _ _ hne]
/-- What one operation does, guard and all: as 'aOp', of the operation itself. -/
def gOp (C : Cfg) (P : Program) (me : Nat) (ops : Array Oper) (o : Oper) (K : St → Prop) (st : St) : Prop := match o.guard with
  | none => opP C P me (quietKind C me o) o st fun v st' => K (st'.put o.dst v)
  | some (g, want) => ∃ d, dstOf ops.toList g = some d ∧ ((asB (nth st.env d) = some want ∧ opP C P me (quietKind C me o) o st fun v st' => K (st'.put o.dst v)) ∨ (notB (nth st.env d) want = true ∧ K (st.put o.dst (.tp []))))
theorem aOp_eq {i : Nat} (h : ops[i]? = some o) {K : St → Prop} : aOp C P me ops i K st = gOp C P me ops o K st := by
  unfold aOp gOp; rw [h]
/-- Either the operation is done, or its slot is emptied. -/
theorem gOp_cases {K : St → Prop} (h : gOp C P me ops o K st) :
    (((∀ g want, o.guard = some (g, want) → ∃ d, dstOf ops.toList g = some d ∧ asB (nth st.env d) = some want)) ∧ opP C P me (quietKind C me o) o st fun v st' => K (st'.put o.dst v)) ∨
    ((∃ g want d, o.guard = some (g, want) ∧ dstOf ops.toList g = some d ∧ notB (nth st.env d) want = true) ∧ K (st.put o.dst (.tp []))) := by
  unfold gOp at h
  split at h
  · rename_i hg
    exact .inl ⟨by intro g want e; rw [hg] at e; simp at e, h⟩
  · rename_i g want hg
    obtain ⟨d, hd, ⟨hx, h⟩ | ⟨hx, h⟩⟩ := h
    · refine .inl ⟨?_, h⟩
      intro g' want' e
      rw [hg] at e
      simp at e
      obtain ⟨rfl, rfl⟩ := e
      exact ⟨d, hd, hx⟩
    · exact .inr ⟨⟨g, want, d, hg, hd, hx⟩, h⟩
theorem gOp_do {K : St → Prop} (hg : ∀ g want, o.guard = some (g, want) → ∃ d, dstOf ops.toList g = some d ∧ asB (nth st.env d) = some want) (h : opP C P me (quietKind C me o) o st fun v st' => K (st'.put o.dst v)) : gOp C P me ops o K st := by
  unfold gOp
  split
  · exact h
  · rename_i g want e
    obtain ⟨d, hd, hx⟩ := hg g want e
    exact ⟨d, hd, .inl ⟨hx, h⟩⟩
theorem gOp_skip {K : St → Prop} (hg : ∃ g want d, o.guard = some (g, want) ∧ dstOf ops.toList g = some d ∧ notB (nth st.env d) want = true) (h : K (st.put o.dst (.tp []))) : gOp C P me ops o K st := by
  obtain ⟨g, want, d, hg, hd, hx⟩ := hg
  unfold gOp
  rw [hg]
  exact ⟨d, hd, .inr ⟨hx, h⟩⟩
end Go.Proofs.Ytmblcloikeobdaa.Ev

namespace Go.Proofs.Ytmblcloikeobdaa.Ev
open Go
set_option linter.unusedVariables false
set_option linter.unusedSimpArgs false
variable {C : Cfg} {P : Program} {J J0 J' J1 J2 : Inj} {lb : Nat → Nat} {w w0 w' : World} {a : Act} {st st1 : St} {hp hp' : Hp} {o x y : Oper} {Q : Exit → Act → World → Prop} {ops : Array Oper} {me : Nat}

theorem storeP_ex {t : Nat} {p v : AV} {K : St → Prop} (g : storeP C st t v K p) : ∃ s, storeP C st t v (fun s' => s' = s) p ∧ K s := by
  obtain ⟨e, b, h⟩ := st
  cases p <;> try exact g.elim
  case lp s o =>
    simp only [storeP, fl_eq, flH_eq, nk_eq, updK_eq] at g ⊢
    obtain ⟨g1, g⟩ := g
    split at g
    · split at g
      · exact ⟨_, ⟨g1, rfl⟩, g⟩
      · exact g.elim
    · exact g.elim
  case pt id i o =>
    simp only [storeP, fl_eq, flH_eq, nk_eq, updK_eq] at g ⊢
    obtain ⟨g1, g⟩ := g
    split at g
    · obtain ⟨g2, row, g3, g⟩ := g
      split at g
      · rename_i hc
        exact ⟨_, ⟨g1, g2, row, g3, by rw [hc]⟩, g⟩
      · exact g.elim
    · exact g.elim
theorem op_ex2 {K : AV → St → Prop} (hb : isBox o = false) (hw : wrC C me o = false) (g : opP C P me (quietKind C me o) o st K) :
    ∃ v s, opP C P me (quietKind C me o) o st (fun y s' => y = v ∧ s' = s) ∧ K v s := by
  by_cases hr : (isE o || isR o) = true
  · obtain ⟨v, h1, h2⟩ := op_ex hr hw g
    exact ⟨v, st, h1, h2⟩
  · cases hop : o.op <;> simp [isE, isR, hop] at hr <;> simp only [isBox, hop] at hb <;> (try (simp only [opP, hop] at g; done)) <;> simp only [opP, hop] at g ⊢
    case alloc => simp at hb
    case box => simp at hb
    case buildSlice t n ps =>
      obtain ⟨g1, g2, g⟩ := g
      obtain ⟨l, h1, h2, h3, g⟩ := optK_some g
      obtain ⟨e, b, h⟩ := st
      simp only [pushK, fl_eq, flH_eq, nk_eq] at g ⊢
      exact ⟨_, _, ⟨g1, g2, by rw [h1]; exact ⟨h2, h3, rfl, rfl⟩⟩, g⟩
    case store t x y =>
      obtain ⟨g1, g⟩ := g
      obtain ⟨p, h1, g⟩ := optK_some g
      split at g
      · exact g.elim
      · rename_i hbad
        obtain ⟨v, h2, g⟩ := optK_some g
        obtain ⟨s, h3, h4⟩ := storeP_ex g
        exact ⟨_, s, ⟨g1, by rw [h1, h2]; simp only [optK, hbad]; simpa [optK] using h3⟩, h4⟩
    case makeSlice t x y =>
      obtain ⟨e, b, h⟩ := st
      simp only [pushK, fl_eq, flH_eq, nk_eq] at g ⊢
      split at g
      · exact ⟨_, _, ⟨g.1, g.2.1, g.2.2.1, rfl, rfl⟩, g.2.2.2⟩
      · exact g.elim
    case call c =>
      obtain ⟨l, h1, g⟩ := optK_some g
      rw [h1]
      simp only [optK] at g ⊢
      obtain ⟨e, b, h⟩ := st
      split at g
      · rename_i bi hc
        cases bi <;> simp [hc] at hr <;> (try (simp only [builtinP] at g; done)) <;> simp only [builtinP, appZ, copyS, setK, pushK, fl_eq, flH_eq, nk_eq, updK_eq] at g ⊢
        · split at g
          · obtain ⟨g1, g2, old, g3, g4, g⟩ := g
            exact ⟨_, _, ⟨g1, g2, old, g3, g4, rfl, rfl⟩, g⟩
          · obtain ⟨g1, g2, old, new, g3, g4, g5, g⟩ := g
            split at g
            · exact ⟨_, _, ⟨g1, g2, old, new, g3, g4, g5, rfl, rfl⟩, g⟩
            · exact ⟨_, _, ⟨g1, g2, old, new, g3, g4, g5, rfl, rfl⟩, g⟩
            · exact g.elim
          · exact g.elim
        · split at g
          · exact ⟨_, _, ⟨g.1, rfl, rfl⟩, g.2⟩
          · exact g.elim
        · split at g
          · obtain ⟨g1, g2, g⟩ := g
            split at g
            · exact ⟨_, _, ⟨g1, g2, ⟨g.1, g.2.1, g.2.2.1, g.2.2.2.1, rfl, rfl⟩⟩, g.2.2.2.2⟩
            · exact g.elim
          · exact g.elim
        · split at g
          · obtain ⟨g1, g2, new, g3, g⟩ := g
            split at g
            · exact ⟨_, _, ⟨g1, g2, new, g3, ⟨g.1, g.2.1, g.2.2.1, rfl, rfl⟩⟩, g.2.2.2⟩
            · exact g.elim
          · obtain ⟨g1, g2, new, g3, g⟩ := g
            split at g
            · exact ⟨_, _, ⟨g1, g2, new, g3, ⟨g.1, g.2.1, g.2.2.1, rfl, rfl⟩⟩, g.2.2.2⟩
            · exact g.elim
          · exact g.elim
      · rename_i f hc
        simp [hc] at hr
      · exact g.elim
/-- The value of an operation, guard and all, that leaves the state as it is. -/
def gVal (C : Cfg) (P : Program) (me : Nat) (ops : Array Oper) (o : Oper) (st : St) (v : AV) : Prop :=
  ((∀ g want, o.guard = some (g, want) → ∃ d, dstOf ops.toList g = some d ∧ asB (nth st.env d) = some want) ∧ opP C P me (quietKind C me o) o st fun y s => y = v ∧ s = st) ∨
  ((∃ g want d, o.guard = some (g, want) ∧ dstOf ops.toList g = some d ∧ notB (nth st.env d) want = true) ∧ v = .tp [])
theorem gVal_of {K : St → Prop} (hr : (isE o || isR o) = true) (hw : wrC C me o = false) (h : gOp C P me ops o K st) : ∃ v, gVal C P me ops o st v ∧ K (st.put o.dst v) := by
  rcases gOp_cases h with ⟨h1, h2⟩ | ⟨h1, h2⟩
  · obtain ⟨v, h3, h4⟩ := op_ex hr hw h2
    exact ⟨v, .inl ⟨h1, h3⟩, h4⟩
  · exact ⟨.tp [], .inr ⟨h1, rfl⟩, h2⟩
theorem isE_box (h : isE o = true) : isBox o = false := by
  cases hop : o.op <;> simp [isE, hop] at h <;> simp [isBox, hop]
theorem isR_box (h : isR o = true) : isBox o = false := by
  cases hop : o.op <;> simp [isR, hop] at h <;> simp [isBox, hop]
/-- The guard's word is the same where its slot is the same. -/
theorem guard_ok_iff (hs : ∀ g want, o.guard = some (g, want) → ∀ d, dstOf ops.toList g = some d → nth st1.env d = nth st.env d)
    (h : ∀ g want, o.guard = some (g, want) → ∃ d, dstOf ops.toList g = some d ∧ asB (nth st.env d) = some want) :
    ∀ g want, o.guard = some (g, want) → ∃ d, dstOf ops.toList g = some d ∧ asB (nth st1.env d) = some want := by
  intro g want hg
  obtain ⟨d, hd, hx⟩ := h g want hg
  exact ⟨d, hd, by rw [hs g want hg d hd]; exact hx⟩
theorem guard_no_iff (hs : ∀ g want, o.guard = some (g, want) → ∀ d, dstOf ops.toList g = some d → nth st1.env d = nth st.env d)
    (h : ∃ g want d, o.guard = some (g, want) ∧ dstOf ops.toList g = some d ∧ notB (nth st.env d) want = true) :
    ∃ g want d, o.guard = some (g, want) ∧ dstOf ops.toList g = some d ∧ notB (nth st1.env d) want = true := by
  obtain ⟨g, want, d, hg, hd, hx⟩ := h
  exact ⟨g, want, d, hg, hd, by rw [hs g want hg d hd]; exact hx⟩
theorem isS_spec (h : isS C o = true) : ∃ t x lo hi, o.op = .slice t x lo hi none ∧ tyd C t = .str := by
  unfold isS at h
  split at h
  · rename_i t x lo hi hop
    split at h
    · rename_i e; exact ⟨t, x, lo, hi, hop, e⟩
    · cases h
  · cases h
theorem isS_R (h : isS C o = true) : isR o = true := by
  obtain ⟨t, x, lo, hi, hop, _⟩ := isS_spec h
  simp [isR, hop]
theorem isS_frame {K K' : AV → St → Prop} (h : isS C o = true) (ha : ∀ z ∈ o.op.operands, arg st z = arg st1 z) (hk : ∀ v, K v st → K' v st1) (g : opP C P me (quietKind C me o) o st K) : opP C P me (quietKind C me o) o st1 K' := by
  obtain ⟨t, x, lo, hi, hop, ht⟩ := isS_spec h
  have q1 : ∀ d, bound st1 d lo = bound st d lo := fun d => (bound_arg lo fun y hy => ha y (by subst hy; simp [Op.operands, hop])).symm
  have q2 : ∀ d, bound st1 d hi = bound st d hi := fun d => (bound_arg hi fun y hy => ha y (by subst hy; simp [Op.operands, hop])).symm
  simp only [opP, hop] at g ⊢
  rw [← ha x (by simp [Op.operands, hop])]
  refine optK_imp g fun v hv => ?_
  simp only [sliceP, ht, q1, q2] at hv ⊢
  split at hv
  · split at hv
    · exact ⟨hv.1, hk _ hv.2⟩
    · exact hv.elim
  · exact hv.elim
/-- The same reading: of what an operation that reads looks at. -/
inductive Same4 (C : Cfg) (me : Nat) (o : Oper) (st st1 : St) : Prop
  | e (h : isE o = true)
  | s (h : isS C o = true)
  | all (h : isR o = true) (b : st1.bx = st.bx) (m : st1.hp = st.hp)
  | hp (h : isR o = true) (hw : wrC C me o = false) (hl : isLd o = true → ldC C me o = 1) (m : st1.hp = st.hp)
  | at (h : isLd o = true) (n : Nat) (hl : ldC C me o = n + 2) (b : at? st1.bx n = at? st.bx n)
  | box (h : isR o = true) (hw : wrC C me o = false) (d : Nat) (hd : ∀ z ∈ o.op.operands, ∀ k, arg st z ≠ some (.lp d k)) (b : ∀ m, m ≠ d → at? st1.bx m = at? st.bx m) (m : st1.hp = st.hp)
theorem wdOk_hp {h h1 : Hp} (e : h1 = h) (id sz : Nat) : wdOk h1 id sz = wdOk h id sz := by rw [e]
theorem loadP_other {e e1 : List AV} {b b1 : List (Option (List AV))} {h : Hp} {t : Nat} {p : AV} {K K' : AV → Prop} (hb : ∀ m k, p = .lp m k → at? b1 m = at? b m) (g : loadP C ⟨e, b, h⟩ t K p) (hk : ∀ v, K v → K' v) : loadP C ⟨e1, b1, h⟩ t K' p := by
  cases p <;> try exact g
  case lp s o =>
    simp only [loadP] at g ⊢
    rw [hb s o rfl]
    split at g
    · exact cutK_imp g hk
    · exact g
  case pt id i o =>
    simp only [loadP] at g ⊢
    split at g
    · obtain ⟨row, h1, h2⟩ := g; exact ⟨row, h1, cutK_imp h2 hk⟩
    · exact g
  case rp g' fl wd rows i o => obtain ⟨row, h1, h2⟩ := g; exact ⟨row, h1, cutK_imp h2 hk⟩
theorem sliceP_other {e e1 : List AV} {b b1 : List (Option (List AV))} {h : Hp} {t : Nat} {lo hi : Option Operand} {x : AV} {K K' : AV → Prop} (g : sliceP C ⟨e, b, h⟩ t lo hi K x)
    (h1 : ∀ y, lo = some y → arg ⟨e, b, h⟩ y = arg ⟨e1, b1, h⟩ y) (h2 : ∀ y, hi = some y → arg ⟨e, b, h⟩ y = arg ⟨e1, b1, h⟩ y) (hk : ∀ v, K v → K' v) : sliceP C ⟨e1, b1, h⟩ t lo hi K' x := by
  have q1 : ∀ d, bound ⟨e1, b1, h⟩ d lo = bound ⟨e, b, h⟩ d lo := fun d => (bound_arg lo h1).symm
  have q2 : ∀ d, bound ⟨e1, b1, h⟩ d hi = bound ⟨e, b, h⟩ d hi := fun d => (bound_arg hi h2).symm
  unfold sliceP at *
  simp only [q1, q2]
  split at g
  · split at g
    · split at g
      · exact ⟨g.1, hk _ g.2⟩
      · exact g.elim
    · exact g.elim
  · refine ⟨g.1, ?_⟩
    have g2 := g.2
    split at g2
    · split at g2
      · exact ⟨g2.1, g2.2.1, hk _ g2.2.2⟩
      · exact g2.elim
    · split at g2
      · exact ⟨g2.1, g2.2.1, hk _ g2.2.2⟩
      · exact g2.elim
    · split at g2
      · exact ⟨g2.1, g2.2.1, hk _ g2.2.2⟩
      · exact g2.elim
    · split at g2
      · exact ⟨g2.1, hk _ g2.2⟩
      · exact g2.elim
    · exact g2.elim
  · exact g
/-- Reading, where boxes that are not looked at have changed. -/
theorem op_other {K K' : AV → St → Prop} (hr : isR o = true) (hw : wrC C me o = false) (ha : ∀ z ∈ o.op.operands, arg st z = arg st1 z) (hh : st1.hp = st.hp)
    (hb : isLd o = true → ∀ z ∈ o.op.operands, ∀ m k, arg st z = some (.lp m k) → badC (ldC C me o) (.lp m k) = false → at? st1.bx m = at? st.bx m)
    (hk : ∀ v, K v st → K' v st1) (g : opP C P me (quietKind C me o) o st K) : opP C P me (quietKind C me o) o st1 K' := by
  have hq : quietKind C me o = true := by
    cases hop : o.op <;> simp [isR, hop] at hr <;> simp [quietKind, hop]
    rename_i c
    simp only [wrC, hop] at hw
    cases hc : c.callee <;> simp [hc] at hr hw ⊢
    exact hw
  obtain ⟨e, b, h⟩ := st
  obtain ⟨e1, b1, h1⟩ := st1
  simp only [] at hh hb
  subst hh
  rw [hq] at g ⊢
  cases hop : o.op <;> simp [isR, hop] at hr <;> simp only [opP, hop] at g ⊢ <;> rw [hop] at ha
  case load t x =>
    rw [← ha x (by simp [Op.operands])]
    obtain ⟨p, hp, g⟩ := optK_some g
    rw [hp]
    simp only [optK] at g ⊢
    split at g
    · exact g.elim
    · rename_i hbad
      refine loadP_other (fun m k e => ?_) g fun v => hk _
      subst e
      exact hb (by simp [isLd, hop]) x (by simp [Op.operands, hop]) m k hp (by simpa [ldC, hop] using hbad)
  case convert s d x =>
    rw [← ha x (by simp [Op.operands])]
    refine optK_imp g fun p hp => ?_
    split at hp
    · refine ⟨hp.1, ?_⟩
      have hp2 := hp.2
      split at hp2
      · exact hk _ hp2
      · exact hp2
    · split at hp
      · exact ⟨hp.1, hk _ hp.2⟩
      · obtain ⟨h1, h2, rows, l, h3, h4, h5⟩ := hp
        exact ⟨h1, h2, rows, l, h3, h4, hk _ h5⟩
    · exact hp
  case slice t x lo hi mx =>
    have h1 : ∀ y, lo = some y → arg ⟨e, b, h1⟩ y = arg ⟨e1, b1, h1⟩ y := fun y hy => ha y (by subst hy; simp [Op.operands])
    have h2 : ∀ y, hi = some y → arg ⟨e, b, _⟩ y = arg ⟨e1, b1, _⟩ y := fun y hy => ha y (by subst hy; simp [Op.operands])
    have h3 : ∀ y, mx = some y → arg ⟨e, b, _⟩ y = arg ⟨e1, b1, _⟩ y := fun y hy => ha y (by subst hy; simp [Op.operands])
    have hx := ha x (by simp [Op.operands])
    cases mx with
    | none =>
      simp only [] at g ⊢
      rw [← hx]
      exact optK_imp g fun p hp => sliceP_other hp h1 h2 fun v => hk _
    | some m =>
      simp only [] at g ⊢
      rw [← hx, ← bound_arg lo h1, ← bound_arg hi h2, ← bound_arg (some m) h3]
      exact ⟨g.1, optK_imp g.2 fun p hp => ⟨hp.1, optK_imp hp.2 fun l hl => optK_imp hl fun h' hh => optK_imp hh fun m hm => ⟨hm.1, hk _ hm.2⟩⟩⟩
  case indexAddr t x ix =>
    rw [← ha x (by simp [Op.operands]), ← ha ix (by simp [Op.operands])]
    split at g
    · exact optK_imp g fun n hn => indexGP_imp hn fun v => hk _
    · exact optK_imp g fun p hp => optK_imp hp fun n hn => indexAP_imp hn fun v => hk _
  case call c =>
    have hargs : args? ⟨e1, b1, h1⟩ c.args.toList = args? ⟨e, b, h1⟩ c.args.toList := (args_eq c.args.toList fun x hx => ha x (by simp [Op.operands, Call.operands]; right; simpa using hx)).symm
    rw [hargs]
    refine optK_imp g fun l hl => ?_
    split at hl
    · rename_i bi hc
      simp [hc] at hr
    · rename_i f hc
      rw [← ha f (by simp [Op.operands, Call.operands, hc])]
      refine optK_imp hl fun v hv => ?_
      split at hv
      · rcases hv with ⟨xs, q1, r, q2, q3, q4⟩ | ⟨h0, _⟩ | ⟨h0, _⟩ | ⟨h0, _⟩ | ⟨h0, _⟩
        · exact .inl ⟨xs, q1, r, q2, q3, hk _ q4⟩
        · simp at h0
        · simp at h0
        · simp at h0
        · simp at h0
      · exact hv
    · exact hl
theorem isLd_R (h : isLd o = true) : isR o = true := by
  unfold isLd at h
  split at h
  · rename_i hop; simp [isR, hop]
  · cases h
theorem isLd_wr (h : isLd o = true) : wrC C me o = false := by
  unfold isLd at h
  split at h
  · rename_i hop; simp [wrC, hop]
  · cases h
/-- A value stays where its operands do. -/
theorem gVal_move {v : AV} (hm : Same4 C me o st st1) (ha : ∀ z ∈ o.op.operands, arg st z = arg st1 z)
    (hs : ∀ g want, o.guard = some (g, want) → ∀ d, dstOf ops.toList g = some d → nth st1.env d = nth st.env d) (h : gVal C P me ops o st v) : gVal C P me ops o st1 v := by
  rcases h with ⟨h1, h2⟩ | ⟨h1, h2⟩
  · refine .inl ⟨guard_ok_iff hs h1, ?_⟩
    rcases hm with hE | hS | ⟨hR, e1, e2⟩ | ⟨hR, hw, hl, e2⟩ | ⟨hL, n, hl, e1⟩ | ⟨hR, hw, d, hd, e1, e2⟩
    · exact op_frameE hE ha (fun u hu => ⟨hu.1, rfl⟩) h2
    · exact isS_frame hS ha (fun u hu => ⟨hu.1, rfl⟩) h2
    · obtain ⟨e, b, h⟩ := st
      obtain ⟨e', b', h'⟩ := st1
      simp only [] at e1 e2
      subst e1; subst e2
      refine op_frame (isR_box hR) ha (fun u b' h' hu => ⟨hu.1, ?_⟩) h2
      have := hu.2
      simp only [St.mk.injEq, true_and] at this ⊢
      exact this
    · refine op_other hR hw ha e2 (fun q z hz m k _ hb => ?_) (fun u hu => ⟨hu.1, rfl⟩) h2
      rw [hl q] at hb; simp [badC] at hb
    · have hb2 : isBox o = false := isR_box (isLd_R hL)
      have hq : quietKind C me o = true := by
        unfold isLd at hL
        split at hL
        · rename_i hop; simp [quietKind, hop]
        · cases hL
      unfold isLd at hL
      split at hL
      · rename_i t x hop
        simp only [opP, hop] at h2 ⊢
        rw [← ha x (by simp [Op.operands, hop])]
        obtain ⟨p, hp, h2⟩ := optK_some h2
        rw [hp]
        rw [hq] at h2 ⊢
        simp only [optK, Bool.true_and] at h2 ⊢
        simp only [ldC, hop] at hl
        rw [hl] at h2 ⊢
        split at h2
        · exact h2.elim
        · rename_i hbad
          cases p <;> simp [badC] at hbad
          subst hbad
          simp only [loadP] at h2 ⊢
          rw [e1]
          split at h2
          · exact cutK_imp h2 fun u hu => ⟨hu.1, trivial⟩
          · exact h2.elim
      · cases hL
    · refine op_other hR hw ha e2 (fun q z hz m k hz2 hb => ?_) (fun u hu => ⟨hu.1, rfl⟩) h2
      refine e1 m ?_
      rintro rfl
      exact hd z hz k hz2
  · exact .inr ⟨guard_no_iff hs h1, h2⟩
theorem gVal_do {K : St → Prop} {v : AV} (hr : (isE o || isR o) = true) (h : gVal C P me ops o st v) (hk : K (st.put o.dst v)) : gOp C P me ops o K st := by
  have hbx : isBox o = false := by
    simp only [Bool.or_eq_true] at hr
    rcases hr with hr | hr
    · exact isE_box hr
    · exact isR_box hr
  rcases h with ⟨h1, h2⟩ | ⟨h1, rfl⟩
  · refine gOp_do h1 ?_
    obtain ⟨e, b, h⟩ := st
    refine op_frame hbx (fun _ _ => rfl) (fun u b' h' hu => ?_) h2
    rw [hu.1, hu.2]; exact hk
  · exact gOp_skip h1 hk
/-- An operation's effect that is one value and one state. -/
theorem gOp_ex {K : St → Prop} (hb : isBox o = false) (hw : wrC C me o = false) (h : gOp C P me ops o K st) :
    (∃ v b' h', (∀ g want, o.guard = some (g, want) → ∃ d, dstOf ops.toList g = some d ∧ asB (nth st.env d) = some want) ∧ opP C P me (quietKind C me o) o st (fun y s => y = v ∧ s = ⟨st.env, b', h'⟩) ∧ K (St.put ⟨st.env, b', h'⟩ o.dst v)) ∨
    ((∃ g want d, o.guard = some (g, want) ∧ dstOf ops.toList g = some d ∧ notB (nth st.env d) want = true) ∧ K (st.put o.dst (.tp []))) := by
  rcases gOp_cases h with ⟨h1, h2⟩ | h
  · left
    obtain ⟨e, b, hh⟩ := st
    have h3 : opP C P me (quietKind C me o) o ⟨e, b, hh⟩ fun v st' => st'.env = e ∧ K (st'.put o.dst v) := op_frame (K := fun v st' => K (st'.put o.dst v)) hb (fun _ _ => rfl) (fun u b' h' hu => ⟨rfl, hu⟩) h2
    obtain ⟨v, s, h4, h5, h6⟩ := op_ex2 hb hw h3
    obtain ⟨e', b', h'⟩ := s
    simp only [] at h5
    subst h5
    exact ⟨v, b', h', h1, h4, h6⟩
  · exact .inr h
theorem nth_set {st : St} {d : Option Nat} {v : AV} {t : Nat} (h : d ≠ some t) : nth (st.put d v).env t = nth st.env t := nth_put h
theorem hasLp_of {d : Nat} : ∀ {l : List AV} {t k : Nat}, hasLp d l = false → nth l t ≠ .lp d k
  | [], t, k, _ => by simp [nth]
  | v :: l, 0, k, h => by
    simp only [nth]
    rintro rfl
    simp [hasLp] at h
  | v :: l, t + 1, k, h => by
    simp only [nth]
    refine hasLp_of ?_
    cases v <;> simp [hasLp] at h <;> first | exact h | exact h.2
theorem hasLp_no {d : Nat} : ∀ {l : List AV}, (∀ t k, nth l t ≠ .lp d k) → hasLp d l = false
  | [], _ => rfl
  | v :: l, h => by
    have ih := hasLp_no (l := l) fun t k => h (t + 1) k
    cases v <;> simp only [hasLp] <;> try exact ih
    rename_i s o
    have := h 0 o
    simp only [nth] at this
    rw [ih]
    simp
    rintro rfl
    exact this rfl
theorem noLp_id {d : Nat} : ∀ {l : List AV}, hasLp d l = false → noLp d l = l
  | [], _ => rfl
  | v :: l, h => by
    cases v <;> simp only [hasLp, Bool.or_eq_false_iff] at h <;> simp only [noLp]
    all_goals first | rw [noLp_id h] | skip
    rename_i s o
    rw [noLp_id h.2, if_neg (by simpa using h.1)]
/-- A box in a drawn region: its cells, and what is behind it. -/
theorem gOp_box {K : St → Prop} {K2 : AV → St → Prop} (hB : isBox y = true) (h : opP C P me (quietKind C me y) y st K2) (hK : ∀ v s, K2 v s ↔ K (s.put y.dst v)) :
    ∃ d l, y.dst = some d ∧ hasLp d st.env = false ∧ K (St.put ⟨st.env, upd st.bx d (some l), st.hp⟩ (some d) (.lp d 0)) ∧
      ∀ (st1 : St) (K1 : St → Prop), (∀ z ∈ y.op.operands, arg st1 z = arg st z) → hasLp d st1.env = false → K1 (St.put ⟨st1.env, upd st1.bx d (some l), st1.hp⟩ (some d) (.lp d 0)) → opP C P me (quietKind C me y) y st1 fun v s => K1 (s.put y.dst v) := by
  have hq : quietKind C me y = true := by
    cases hop : y.op <;> simp [isBox, hop] at hB <;> simp [quietKind, hop]
  rw [hq] at h ⊢
  have key : ∀ l, boxP C me true y.dst l st K2 → ∃ d, y.dst = some d ∧ hasLp d st.env = false ∧ K (St.put ⟨st.env, upd st.bx d (some l), st.hp⟩ (some d) (.lp d 0)) ∧
      ∀ (st1 : St) (K1 : St → Prop), hasLp d st1.env = false → K1 (St.put ⟨st1.env, upd st1.bx d (some l), st1.hp⟩ (some d) (.lp d 0)) → boxP C me true y.dst l st1 fun v s => K1 (s.put y.dst v) := by
    intro l g
    obtain ⟨e, b, hh⟩ := st
    cases hd : y.dst with
    | none => rw [hd] at g; exact g.elim
    | some d =>
      rw [hd] at g
      simp only [boxP, fl_eq, flH_eq, nk_eq, noLpK_eq, updK_eq] at g
      obtain ⟨g1, g2⟩ := g
      split at g2
      · simp at g2
      · rename_i hesc
        obtain ⟨g3, g4⟩ := g2
        have g3' : hasLp d e = false := by simpa using g3
        refine ⟨d, rfl, g3', ?_, ?_⟩
        · rw [noLp_id g3'] at g4
          have := (hK _ _).1 g4
          rw [hd] at this; exact this
        · rintro ⟨e1, b1, h1⟩ K1 k1 k2
          simp only [boxP, fl_eq, flH_eq, nk_eq, noLpK_eq, updK_eq, hesc]
          refine ⟨g1, by simpa using k1, ?_⟩
          rw [noLp_id k1]; exact k2
  cases hop : y.op <;> simp [isBox, hop] at hB <;> simp only [opP, hop] at h ⊢
  case alloc t =>
    obtain ⟨h1, h⟩ := h
    obtain ⟨d, a1, a2, a3, a4⟩ := key _ h
    exact ⟨d, _, a1, a2, a3, fun st1 K1 _ k1 k2 => ⟨h1, a4 st1 K1 k1 k2⟩⟩
  case box t x =>
    obtain ⟨v, h1, h⟩ := optK_some h
    obtain ⟨d, a1, a2, a3, a4⟩ := key _ h
    refine ⟨d, _, a1, a2, a3, fun st1 K1 ka k1 k2 => ?_⟩
    rw [ka x (by simp [Op.operands]), h1]
    exact a4 st1 K1 k1 k2
theorem swap {K : St → Prop} (hc : commute C me ops x y = true) (hcl : ∀ d, x.dst = some d → okv (nth st.env d) = true) (h : gOp C P me ops x (gOp C P me ops y K) st) : gOp C P me ops y (gOp C P me ops x K) st := by
  unfold commute at hc
  simp only [Bool.and_eq_true, Bool.or_eq_true, Bool.not_eq_true'] at hc
  obtain ⟨⟨hc, hap⟩, hwx⟩ := hc
  obtain ⟨a1, a2, a3⟩ := Oper.apart_spec hap
  have hxy : ∀ t, x.dst = some t → y.dst ≠ some t := a2
  have hyx : ∀ t, y.dst = some t → x.dst ≠ some t := fun t ht e => a2 t e ht
  -- what 'x' looks at is not touched by 'y', and the other way
  have gx : ∀ (s : St) (u : AV) g want, x.guard = some (g, want) → ∀ d, dstOf ops.toList g = some d → nth (s.put y.dst u).env d = nth s.env d :=
    fun s u g want hg d hd => nth_put (guard_look a3 hg hd)
  have gy : ∀ (s : St) (u : AV) g want, y.guard = some (g, want) → ∀ d, dstOf ops.toList g = some d → nth (s.put x.dst u).env d = nth s.env d :=
    fun s u g want hg d hd => nth_put (guard_look a1 hg hd)
  have ax : ∀ (s : St) (u : AV), ∀ z ∈ x.op.operands, arg (s.put y.dst u) z = arg s z := fun s u z hz => arg_put (looks_arg a3 z hz)
  have ay : ∀ (s : St) (u : AV), ∀ z ∈ y.op.operands, arg (s.put x.dst u) z = arg s z := fun s u z hz => arg_put (looks_arg a1 z hz)
  have aenv : ∀ (s s' : St), s.env = s'.env → ∀ z, arg s z = arg s' z := by
    intro s s' e z
    cases z <;> simp [arg, e]
  rcases hc with ((⟨hE, hB⟩ | ⟨⟨hE, hB⟩, hwy⟩) | ⟨⟨hRx, hRy⟩, hwy⟩) | ⟨hER, hst⟩
  · -- x looks at its operands alone
    have hr : (isE x || isR x) = true := by
      rcases hE with hE | hE
      · simp [hE]
      · simp [isS_R hE]
    have hm4 : ∀ s s' : St, Same4 C me x s s' := fun s s' => by
      rcases hE with hE | hE
      · exact .e hE
      · exact .s hE
    obtain ⟨v, hv, h⟩ := gVal_of hr hwx h
    have fin : ∀ (s : St) (u : AV), s.env = st.env → K ((s.put x.dst v).put y.dst u) → gOp C P me ops x K (s.put y.dst u) := by
      intro s u hs hk
      refine gVal_do hr (gVal_move (hm4 _ _) (fun z hz => ?_) (fun g want hg d hd => ?_) hv) ?_
      · rw [ax s u z hz]; exact aenv _ _ hs.symm z
      · rw [gx s u g want hg d hd, hs]
      · rw [← put_comm hxy]; exact hk
    rcases gOp_cases h with ⟨h1, h2⟩ | ⟨h1, h2⟩
    · refine gOp_do (guard_ok_iff (fun g want hg d hd => (gy st v g want hg d hd).symm) h1) ?_
      obtain ⟨e, b, hh⟩ := st
      cases hd : x.dst with
      | none =>
        rw [hd] at h2
        refine op_frame (e := e) (e1 := e) hB (fun _ _ => rfl) (fun u b' h' hu => fin ⟨e, b', h'⟩ u rfl ?_) h2
        rw [hd]; exact hu
      | some t =>
        rw [hd] at h2
        refine op_frame (e := upd e t v) (e1 := e) hB (fun z hz => ?_) (fun u b' h' hu => fin ⟨e, b', h'⟩ u rfl ?_) h2
        · have := ay ⟨e, b, hh⟩ v z hz
          rw [hd] at this; exact this
        · rw [hd]; exact hu
    · exact gOp_skip (guard_no_iff (fun g want hg d hd => (gy st v g want hg d hd).symm) h1) (fin st (.tp []) rfl h2)
  · -- y looks at its operands alone
    have hr : (isE y || isR y) = true := by
      rcases hE with hE | hE
      · simp [hE]
      · simp [isS_R hE]
    have hm4 : ∀ s s' : St, Same4 C me y s s' := fun s s' => by
      rcases hE with hE | hE
      · exact .e hE
      · exact .s hE
    have fin : ∀ (s : St) (v : AV), s.env = st.env → gOp C P me ops y K (s.put x.dst v) → ∃ u, gVal C P me ops y st u ∧ K ((s.put y.dst u).put x.dst v) := by
      intro s v hs hk
      obtain ⟨u, hu, hk⟩ := gVal_of hr hwy hk
      refine ⟨u, gVal_move (hm4 _ _) (fun z hz => ?_) (fun g want hg d hd => ?_) hu, by rw [← put_comm hxy]; exact hk⟩
      · rw [ay s v z hz]; exact aenv _ _ hs z
      · rw [gy s v g want hg d hd, hs]
    rcases gOp_ex hB hwx h with ⟨v, b', h', h1, h2, h3⟩ | ⟨h1, h2⟩
    · obtain ⟨u, hu, hk⟩ := fin ⟨st.env, b', h'⟩ v rfl h3
      refine gVal_do hr hu (gOp_do (guard_ok_iff (fun g want hg d hd => gx st u g want hg d hd) h1) ?_)
      obtain ⟨e, b, hh⟩ := st
      cases hd : y.dst with
      | none =>
        rw [hd] at hk
        refine op_frame (e := e) (e1 := e) hB (fun _ _ => rfl) (fun p b2 h2 hp => ?_) h2
        rw [hp.1]
        have := hp.2
        simp only [St.mk.injEq, true_and] at this
        obtain ⟨rfl, rfl⟩ := this
        exact hk
      | some t =>
        rw [hd] at hk
        refine op_frame (e := e) (e1 := upd e t u) hB (fun z hz => ?_) (fun p b2 h2 hp => ?_) h2
        · have := ax ⟨e, b, hh⟩ u z hz
          rw [hd] at this; exact this.symm
        · rw [hp.1]
          have := hp.2
          simp only [St.mk.injEq, true_and] at this
          obtain ⟨rfl, rfl⟩ := this
          exact hk
    · obtain ⟨u, hu, hk⟩ := fin st (.tp []) rfl h2
      exact gVal_do hr hu (gOp_skip (guard_no_iff (fun g want hg d hd => gx st u g want hg d hd) h1) hk)
  · -- both read
    have hr1 : (isE x || isR x) = true := by simp [hRx]
    have hr2 : (isE y || isR y) = true := by simp [hRy]
    obtain ⟨v, hv, h⟩ := gVal_of hr1 hwx h
    obtain ⟨u, hu, hk⟩ := gVal_of hr2 hwy h
    have hbx : ∀ (s : St) (d : Option Nat) (u : AV), (s.put d u).bx = s.bx ∧ (s.put d u).hp = s.hp := by
      intro s d u; cases d <;> exact ⟨rfl, rfl⟩
    refine gVal_do hr2 (gVal_move (st := st.put x.dst v) (.all hRy (hbx st _ _).1.symm (hbx st _ _).2.symm) (ay st v) (fun g want hg d hd => (gy st v g want hg d hd).symm) hu) ?_
    refine gVal_do hr1 (gVal_move (.all hRx (hbx st _ _).1 (hbx st _ _).2) (fun z hz => (ax st u z hz).symm) (fun g want hg d hd => gx st u g want hg d hd) hv) ?_
    rw [← put_comm hxy]; exact hk
  · -- what x reads stays
    have hr : (isE x || isR x) = true := by simpa using hER
    obtain ⟨v, hv, h⟩ := gVal_of hr hwx h
    have hbx : ∀ (s : St) (d : Option Nat) (u : AV), (s.put d u).bx = s.bx ∧ (s.put d u).hp = s.hp := by
      intro s d u; cases d <;> exact ⟨rfl, rfl⟩
    have fin : ∀ (s : St) (u : AV), s.env = st.env → Same4 C me x st (s.put y.dst u) → K ((s.put x.dst v).put y.dst u) → gOp C P me ops x K (s.put y.dst u) := by
      intro s u hs hm hk
      refine gVal_do hr (gVal_move hm (fun z hz => ?_) (fun g want hg d hd => ?_) hv) ?_
      · rw [ax s u z hz]; exact aenv _ _ hs.symm z
      · rw [gx s u g want hg d hd, hs]
      · rw [← put_comm hxy]; exact hk
    rcases gOp_cases h with ⟨h1, h2⟩ | ⟨h1, h2⟩
    · refine gOp_do (guard_ok_iff (fun g want hg d hd => (gy st v g want hg d hd).symm) h1) ?_
      cases hB : isBox y with
      | true =>
        obtain ⟨d, l, hd, hno, hk, hmk⟩ := gOp_box (K := K) hB h2 (fun _ _ => Iff.rfl)
        have hno' : hasLp d st.env = false := by
          refine hasLp_no fun t k e => ?_
          by_cases hxt : x.dst = some t
          · have := hcl t hxt
            rw [e] at this; simp [okv] at this
          · have := hasLp_of (t := t) (k := k) hno
            rw [nth_put hxt] at this
            exact this e
        refine hmk st _ (fun z hz => (ay st v z hz).symm) hno' ?_
        have hk' : K ((St.put ⟨st.env, upd st.bx d (some l), st.hp⟩ x.dst v).put (some d) (.lp d 0)) := by
          cases hx : x.dst with
          | none => rw [hx] at hk; exact hk
          | some t => rw [hx] at hk; exact hk
        have := fin ⟨st.env, upd st.bx d (some l), st.hp⟩ (.lp d 0) rfl ?_ (by rw [hd]; exact hk')
        · rw [hd] at this; exact this
        · rw [hd]
          rcases hER with hE | hR
          · exact .e hE
          · refine .box hR hwx d ?_ ?_ rfl
            · intro z hz k e
              cases z <;> simp [arg] at e
              · exact hasLp_of hno' e
              · rename_i c
                unfold ofConst at e
                split at e <;> simp at e
            · intro m hm
              exact at?_upd_ne (Ne.symm hm)
      | false =>
        obtain ⟨e, b, hh⟩ := st
        have fin2 : ∀ u b' h', Kept C me y b hh b' h' → K ((St.put ⟨e, b', h'⟩ x.dst v).put y.dst u) → gOp C P me ops x K (St.put ⟨e, b', h'⟩ y.dst u) := by
          intro u b' h' kp hk
          refine fin ⟨e, b', h'⟩ u rfl ?_ hk
          unfold stays at hst
          rw [hB] at hst
          have q1 := (hbx ⟨e, b', h'⟩ y.dst u).1
          have q2 := (hbx ⟨e, b', h'⟩ y.dst u).2
          simp only [] at q1 q2
          rcases hER with hE | hR
          · exact .e hE
          cases hS : isSt y with
          | false =>
            rw [hS] at hst
            simp only [Bool.and_eq_true, Nat.ble_eq] at hst
            obtain ⟨hL, hn⟩ := hst
            obtain ⟨n, hn⟩ : ∃ n, ldC C me x = n + 2 := ⟨ldC C me x - 2, by omega⟩
            exact .at hL n hn (by rw [q1, kp.bx hS])
          | true =>
            rw [hS] at hst
            simp only [] at hst
            split at hst
            · cases hst
            · rename_i hc
              simp only [Bool.and_eq_true, Nat.ble_eq] at hst
              obtain ⟨hL, hn⟩ := hst
              obtain ⟨n, hn⟩ : ∃ n, ldC C me x = n + 2 := ⟨ldC C me x - 2, by omega⟩
              exact .at hL n hn (by rw [q1, kp.far hc])
            · rename_i n hc
              obtain ⟨k1, k2⟩ := kp.near n hc
              simp only [Bool.or_eq_true, Bool.not_eq_true', Bool.and_eq_true, Nat.ble_eq, bne_iff_ne] at hst
              by_cases hL : isLd x = true
              · rcases hst with hst | ⟨h3, h4⟩
                · rw [hL] at hst; cases hst
                · by_cases h5 : ldC C me x = 1
                  · exact .hp hR hwx (fun _ => h5) (by rw [q2, k1])
                  · obtain ⟨m, hm⟩ : ∃ m, ldC C me x = m + 2 := ⟨ldC C me x - 2, by omega⟩
                    exact .at hL m hm (by rw [q1, k2 m (by rintro rfl; exact h4 hm)])
              · exact .hp hR hwx (fun q => absurd q hL) (by rw [q2, k1])
        cases hd : x.dst with
        | none =>
          rw [hd] at h2 fin2
          exact op_frame2 (e := e) (e1 := e) hB (fun _ _ => rfl) (fun u b' h' kp hu => fin2 u b' h' kp hu) h2
        | some t =>
          rw [hd] at h2 fin2
          refine op_frame2 (e := upd e t v) (e1 := e) hB (fun z hz => ?_) (fun u b' h' kp hu => fin2 u b' h' kp hu) h2
          have := ay ⟨e, b, hh⟩ v z hz
          rw [hd] at this; exact this
    · refine gOp_skip (guard_no_iff (fun g want hg d hd => (gy st v g want hg d hd).symm) h1) ?_
      refine gVal_do hr (gVal_move (st := st) ?_ (fun z hz => (ax st (.tp []) z hz).symm) (fun g want hg d hd => gx st (.tp []) g want hg d hd) hv) ?_
      · rcases hER with hE | hR
        · exact .e hE
        · exact .all hR (hbx st _ _).1 (hbx st _ _).2
      · rw [← put_comm hxy]; exact h2
end Go.Proofs.Ytmblcloikeobdaa.Ev

namespace Go.Proofs.Ytmblcloikeobdaa.Ev
open Go
set_option linter.unusedVariables false
set_option linter.unusedSimpArgs false
variable {C : Cfg} {P : Program} {J J0 J' J1 J2 : Inj} {lb : Nat → Nat} {w w0 w' : World} {a : Act} {st st1 : St} {hp hp' : Hp} {o x y : Oper} {Q : Exit → Act → World → Prop} {ops : Array Oper} {me : Nat}

/-! # First things first -/
theorem gOp_mono {K K' : St → Prop} (hk : ∀ s : St, (∀ t, o.dst ≠ some t → okv (nth st.env t) = true → okv (nth s.env t) = true) → K s → K' s) (h : gOp C P me ops o K st) : gOp C P me ops o K' st := by
  have put : ∀ (s : St) (u : AV), s.env = st.env → ∀ t, o.dst ≠ some t → okv (nth st.env t) = true → okv (nth (s.put o.dst u).env t) = true := by
    intro s u e t ht h
    rw [nth_put ht, e]; exact h
  rcases gOp_cases h with ⟨h1, h2⟩ | ⟨h1, h2⟩
  · cases hB : isBox o with
    | false =>
      obtain ⟨e, b, hh⟩ := st
      exact gOp_do h1 (op_frame hB (fun _ _ => rfl) (fun u b' h' hu => hk _ (put ⟨e, b', h'⟩ u rfl) hu) h2)
    | true =>
      obtain ⟨d, l, hd, hno, hK, hmk⟩ := gOp_box (K := K) hB h2 (fun _ _ => Iff.rfl)
      refine gOp_do h1 (hmk st _ (fun _ _ => rfl) hno (hk _ ?_ hK))
      have := put ⟨st.env, upd st.bx d (some l), st.hp⟩ (.lp d 0) rfl
      rw [hd] at this; rw [hd]; exact this
  · exact gOp_skip h1 (hk _ (put st (.tp []) rfl) h2)
/-- Operation 'i' stands before 'j', by a chain of edges. -/
inductive Before (ops : Array Oper) : Nat → Nat → Prop
  | base {i j : Nat} {o : Oper} {e : Edge} (ho : ops[j]? = some o) (he : e ∈ o.after) (hb : Region.binds .any e = true) (hi : e.on = i) : Before ops i j
  | step {i j k : Nat} {o : Oper} {e : Edge} (ho : ops[j]? = some o) (he : e ∈ o.after) (hb : Region.binds .any e = true) (hk : e.on = k) (h : Before ops i k) : Before ops i j
def Closed (ops : Array Oper) (listed : Array Bool) : Prop := ∀ j o, ops[j]? = some o → listed.getD j false = true → ∀ e ∈ o.after, Region.binds .any e = true → listed.getD e.on false = true
theorem closed_before {listed : Array Bool} (hc : Closed ops listed) {i j : Nat} (h : Before ops i j) : listed.getD j false = true → listed.getD i false = true := by
  induction h with
  | base ho he hb hi => intro hj; rw [← hi]; exact hc _ _ ho hj _ he hb
  | step ho he hb hk h ih => intro hj; refine ih ?_; rw [← hk]; exact hc _ _ ho hj _ he hb
theorem ready_before {listed : Array Bool} (hc : Closed ops listed) {i j : Nat} (hj : j ∈ Region.ready .any ops listed) (h : Before ops i j) : listed.getD i false = true := by
  obtain ⟨_, o, ho, hall⟩ := mem_ready.1 hj
  cases h with
  | base ho' he hb hi => rw [ho] at ho'; simp at ho'; subst ho'; rw [← hi]; exact hall _ he hb
  | step ho' he hb hk h => rw [ho] at ho'; simp at ho'; subst ho'; refine closed_before hc h ?_; rw [← hk]; exact hall _ he hb
theorem closed_set {listed : Array Bool} (hc : Closed ops listed) {i : Nat} (hi : i ∈ Region.ready .any ops listed) : Closed ops (listed.setIfInBounds i true) := by
  intro j o ho hl e he hb
  obtain ⟨_, oi, hoi, hall⟩ := mem_ready.1 hi
  by_cases hij : i = j
  · subst hij
    rw [hoi] at ho; simp at ho; subst ho
    exact getD_set_true (hall e he hb)
  · rw [getD_set_ne false hij] at hl
    exact getD_set_true (hc j o ho hl e he hb)
theorem unlisted {listed : Array Bool} {i : Nat} (h : listed.getD i true = false) : listed.getD i false = false := by
  rcases Nat.lt_or_ge i listed.size with h' | h'
  · simp [h'] at h ⊢; exact h
  · simp [Array.getElem?_eq_none h'] at h
theorem aAny_first {i : Nat} {oi : Oper} {K : St → Prop} (hi : ops[i]? = some oi) :
    ∀ (fuel : Nat) (listed : Array Bool) (st : St), Closed ops listed →
      (∀ j oj, ops[j]? = some oj → j ≠ i → listed.getD j true = false → ¬ Before ops i j → commute C me ops oi oj = true) →
      (∀ d, oi.dst = some d → okv (nth st.env d) = true) →
      i ∈ Region.ready .any ops listed → aOp C P me ops i (aAny C P me ops fuel (listed.setIfInBounds i true) K) st → aAny C P me ops (fuel + 1) listed K st := by
  have nobox : ∀ {x y : Oper}, commute C me ops x y = true → isBox x = false := by
    intro x y h
    unfold commute at h
    simp only [Bool.and_eq_true, Bool.or_eq_true, Bool.not_eq_true'] at h
    rcases h.1.1 with ((⟨h1, h2⟩ | ⟨⟨h1, h2⟩, _⟩) | ⟨⟨h1, h2⟩, _⟩) | ⟨h1, h2⟩
    · rcases h1 with h1 | h1
      · exact isE_box h1
      · exact isR_box (isS_R h1)
    · exact h2
    · exact isR_box h1
    · rcases h1 with h1 | h1
      · exact isE_box h1
      · exact isR_box h1
  have nowr : ∀ {x y : Oper}, commute C me ops x y = true → wrC C me x = false := by
    intro x y h
    unfold commute at h
    simp only [Bool.and_eq_true, Bool.or_eq_true, Bool.not_eq_true'] at h
    exact h.2
  have apart2 : ∀ {x y : Oper} {d : Nat}, commute C me ops x y = true → x.dst = some d → y.dst ≠ some d := by
    intro x y d h hd
    unfold commute at h
    simp only [Bool.and_eq_true] at h
    exact (Oper.apart_spec h.1.2).2.1 d hd
  intro fuel
  induction fuel with
  | zero =>
    intro listed st hc hfree hcl hr H
    refine ⟨fun h => (by rw [h] at hr; cases hr), fun j hj => ?_⟩
    by_cases hji : j = i
    · subst hji; exact H
    · obtain ⟨hun, oj, hoj, _⟩ := mem_ready.1 hj
      have hcom := hfree j oj hoj hji hun fun hb => by
        have h1 := ready_before hc hj hb
        have h2 := unlisted (mem_ready.1 hr).1
        rw [h1] at h2; cases h2
      rw [aOp_eq hi] at H
      have : ∃ s, aAny C P me ops 0 (listed.setIfInBounds i true) K s := by
        rcases gOp_ex (nobox hcom) (nowr hcom) H with ⟨v, b', h', _, _, h⟩ | ⟨_, h⟩
        · exact ⟨_, h⟩
        · exact ⟨_, h⟩
      obtain ⟨s, hs, _⟩ := this
      have hm := ready_mono hj hji
      rw [hs] at hm
      cases hm
  | succ fuel ih =>
    intro listed st hc hfree hcl hr H
    refine ⟨fun h => (by rw [h] at hr; cases hr), fun j hj => ?_⟩
    by_cases hji : j = i
    · subst hji; exact H
    · obtain ⟨hun, oj, hoj, _⟩ := mem_ready.1 hj
      have hcom := hfree j oj hoj hji hun fun hb => by
        have h1 := ready_before hc hj hb
        have h2 := unlisted (mem_ready.1 hr).1
        rw [h1] at h2; cases h2
      rw [aOp_eq hi] at H
      rw [aOp_eq hoj]
      have H2 : gOp C P me ops oi (gOp C P me ops oj (aAny C P me ops fuel ((listed.setIfInBounds i true).setIfInBounds j true) K)) st := by
        refine gOp_mono (fun s _ hs => ?_) H
        have := hs.2 j (ready_mono hj hji)
        rwa [aOp_eq hoj] at this
      have H3 := swap hcom hcl H2
      refine gOp_mono (fun s hkp hs => ?_) H3
      refine ih (listed.setIfInBounds j true) s (closed_set hc hj) ?_ (fun d hd => hkp d (apart2 hcom hd) (hcl d hd)) (ready_mono hr (Ne.symm hji)) ?_
      · intro k ok hk hki hunk hno
        refine hfree k ok hk hki ?_ hno
        by_cases hjk : j = k
        · subst hjk; exact hun
        · rw [getD_set_ne true hjk] at hunk; exact hunk
      · rw [aOp_eq hi, Array.setIfInBounds_comm _ _ hji]
        exact hs
/-! ## What is checked, once and for all -/
/-- Who stands before whom: a number for each operation, whose binary places are those that stand before it. -/
def preOf (ops : List Oper) : List Nat := ops.foldl (fun acc o => acc ++ [(o.after.toList.filter (Region.binds .any ·)).foldl (fun m e => m ||| (2 ^ e.on ||| acc.getD e.on 0)) 0]) []
theorem fold_bits {α : Type} (f : α → Nat) (i : Nat) : ∀ (l : List α) (m : Nat), (l.foldl (fun m e => m ||| f e) m).testBit i = true → m.testBit i = true ∨ ∃ e ∈ l, (f e).testBit i = true
  | [], m, h => Or.inl h
  | e :: l, m, h => by
    rcases fold_bits f i l _ h with h | ⟨x, hx, h⟩
    · rw [Nat.testBit_or, Bool.or_eq_true] at h
      rcases h with h | h
      · exact Or.inl h
      · exact Or.inr ⟨e, List.mem_cons_self, h⟩
    · exact Or.inr ⟨x, List.mem_cons_of_mem _ hx, h⟩
theorem preOf_spec (ops : Array Oper) : ∀ j i, ((preOf ops.toList).getD j 0).testBit i = true → Before ops i j := by
  have key : ∀ (rest done : List Oper) (acc : List Nat), done ++ rest = ops.toList → acc.length = done.length → (∀ j i, (acc.getD j 0).testBit i = true → Before ops i j) →
      ∀ j i, ((rest.foldl (fun acc o => acc ++ [(o.after.toList.filter (Region.binds .any ·)).foldl (fun m e => m ||| (2 ^ e.on ||| acc.getD e.on 0)) 0]) acc).getD j 0).testBit i = true → Before ops i j := by
    intro rest
    induction rest with
    | nil => intro done acc _ _ h; simpa using h
    | cons o rest ih =>
      intro done acc hd hl h
      simp only [List.foldl_cons]
      refine ih (done ++ [o]) _ (by simpa using hd) (by simp [hl]) ?_
      intro j i hi
      by_cases hj : j < acc.length
      · rw [List.getD_eq_getElem?_getD, List.getElem?_append_left hj, ← List.getD_eq_getElem?_getD] at hi
        exact h j i hi
      · rw [List.getD_eq_getElem?_getD, List.getElem?_append_right (by omega)] at hi
        by_cases hj2 : j = acc.length
        · subst hj2
          simp only [Nat.sub_self, List.getElem?_cons_zero, Option.getD_some] at hi
          have hi2 := fold_bits (fun e => 2 ^ e.on ||| acc.getD e.on 0) i (o.after.toList.filter (Region.binds .any ·)) 0 hi
          clear hi
          rcases hi2 with hi | ⟨e, he, hi⟩
          · rw [Nat.zero_testBit] at hi; cases hi
          simp only [List.mem_filter, Array.mem_toList_iff] at he
          obtain ⟨he, hb⟩ := he
          have ho : ops[acc.length]? = some o := by
            rw [hl, ← Array.getElem?_toList, ← hd, List.getElem?_append_right (Nat.le_refl _)]
            simp
          rw [Nat.testBit_or, Bool.or_eq_true] at hi
          rcases hi with hi | hi
          · rw [Nat.testBit_two_pow, decide_eq_true_eq] at hi
            subst hi
            exact .base ho he hb rfl
          · exact .step ho he hb rfl (h _ _ hi)
        · rw [List.getElem?_eq_none (by simp; omega)] at hi
          simp at hi
  exact key ops.toList [] [] rfl rfl (by simp)
def freeOk (C : Cfg) (me : Nat) (ops : Array Oper) (pre : List Nat) (listed : Array Bool) (i : Nat) : Bool := match ops[i]? with
  | none => false
  | some oi => (List.range ops.size).all fun j => j == i || listed.getD j true || (pre.getD j 0).testBit i || match ops[j]? with
      | some oj => commute C me ops oi oj
      | none => true
theorem freeOk_spec {pre : List Nat} (hp : ∀ j i, (pre.getD j 0).testBit i = true → Before ops i j) {listed : Array Bool} {i : Nat} {oi : Oper} (hi : ops[i]? = some oi) (h : freeOk C me ops pre listed i = true) (j : Nat) (oj : Oper)
    (hj : ops[j]? = some oj) (hne : j ≠ i) (hun : listed.getD j true = false) (hno : ¬ Before ops i j) : commute C me ops oi oj = true := by
  simp only [freeOk, hi, List.all_eq_true, List.mem_range] at h
  have h1 := h j (Array.getElem?_eq_some_iff.1 hj).1
  simp only [hj, Bool.or_eq_true, beq_iff_eq, hne, false_or, hun, Bool.false_eq_true] at h1
  rcases h1 with h1 | h1
  · exact absurd (hp j i h1) hno
  · exact h1
/-- The slots of the operations are all different, and a guard's operation stands before. -/
def dstsOk (ops : Array Oper) : Bool := (List.range ops.size).all fun i => (List.range ops.size).all fun j => i == j || match (ops[i]?).bind (·.dst), (ops[j]?).bind (·.dst) with
  | some d, some e => d != e
  | _, _ => true
theorem dstsOk_spec (h : dstsOk ops = true) {i j : Nat} {x y : Oper} (hi : ops[i]? = some x) (hj : ops[j]? = some y) (hne : i ≠ j) {d : Nat} (hx : x.dst = some d) : y.dst ≠ some d := by
  simp only [dstsOk, List.all_eq_true, List.mem_range] at h
  have h1 := h i (Array.getElem?_eq_some_iff.1 hi).1 j (Array.getElem?_eq_some_iff.1 hj).1
  intro hy
  simp [hi, hj, hx, hy, hne] at h1
def guardOk (ops : Array Oper) (listed : Array Bool) (i : Nat) : Bool := match (ops[i]?).bind (·.guard) with
  | some (g, _) => listed.getD g false
  | none => true
def stepOk (ops : Array Oper) (pre : List Nat) (listed : Array Bool) (i : Nat) : Bool :=
  (Region.ready .any ops listed).contains i && guardOk ops listed i
def altCovers (is : List Nat) : Plan → List Nat × Bool
  | .alt i _ q => altCovers (i :: is) q
  | .no => (is, true)
  | _ => (is, false)
def planOk (C : Cfg) (me : Nat) (ops : Array Oper) (pre : List Nat) : Plan → Nat → Array Bool → Bool → Bool
  | .done, fuel, listed, top => top && fuel == 0 && (Region.ready .any ops listed).isEmpty
  | .take i p, fuel, listed, top => top && fuel != 0 && stepOk ops pre listed i && freeOk C me ops pre listed i && planOk C me ops pre p (fuel - 1) (listed.setIfInBounds i true) true
  | .alt i p q, fuel, listed, top => (!top || ((altCovers [i] q).2 && (Region.ready .any ops listed).all fun j => (altCovers [i] q).1.contains j)) && fuel != 0 && stepOk ops pre listed i &&
      planOk C me ops pre p (fuel - 1) (listed.setIfInBounds i true) true && planOk C me ops pre q fuel listed false
  | .no, _, _, top => !top
def textPlan : (k n : Nat) → Plan
  | _, 0 => .done
  | k, n + 1 => .take k (textPlan (k + 1) n)
def planOf (ops : Array Oper) : Option Plan → Plan
  | some p => p
  | none => textPlan 0 ops.size
def regionOk (C : Cfg) (me : Nat) (ops : Array Oper) (plan : Option Plan) : Bool :=
  dstsOk ops && planOk C me ops (preOf ops.toList) (planOf ops plan) ops.size (Array.replicate ops.size false) true
end Go.Proofs.Ytmblcloikeobdaa.Ev

namespace Go.Proofs.Ytmblcloikeobdaa.Ev
open Go
set_option linter.unusedVariables false
set_option linter.unusedSimpArgs false
set_option linter.constructorNameAsVariable false
variable {C : Cfg} {P : Program} {J J0 J' J1 J2 : Inj} {lb : Nat → Nat} {w w0 w' : World} {a : Act} {st st1 : St} {hp hp' : Hp} {o x y : Oper} {Q : Exit → Act → World → Prop} {ops : Array Oper} {me : Nat}

/-- What is known of slots. -/
def KnSt (kn : List (Nat × Bool)) (st : St) : Prop := ∀ d b, (d, b) ∈ kn → asB (nth st.env d) = some b
theorem kget_mem : ∀ {kn : List (Nat × Bool)} {d : Nat} {b : Bool}, kget kn d = some b → (d, b) ∈ kn
  | [], _, _, h => by simp [kget] at h
  | (e, c) :: l, d, b, h => by
    simp only [kget] at h
    split at h
    · rename_i e'
      simp at e' h
      subst e'; subst h
      exact List.mem_cons_self
    · exact List.mem_cons_of_mem _ (kget_mem h)
def KnOk (ops : Array Oper) (listed : Array Bool) (kn : List (Nat × Bool)) : Prop := ∀ d b, (d, b) ∈ kn → ∀ (j : Nat) (oj : Oper), ops[j]? = some oj → listed.getD j true = false → oj.dst ≠ some d
theorem asB_noLp {d t : Nat} {l : List AV} {b : Bool} (h : asB (nth l t) = some b) : asB (nth (noLp d l) t) = some b := by
  rcases noLp_nth d l t with e | ⟨_, o, e⟩
  · rw [e]; exact h
  · rw [e] at h; simp [asB] at h
theorem op_keep {q : Bool} {K : AV → St → Prop} (h : opP C P me q o st K) : opP C P me q o st fun v s => (∀ d b, asB (nth st.env d) = some b → asB (nth s.env d) = some b) ∧ K v s := by
  by_cases hb : isBox o = false
  · obtain ⟨e, b, hh⟩ := st
    exact op_frame hb (fun _ _ => rfl) (fun v b' h' hk => ⟨fun _ _ h => h, hk⟩) h
  · have key : ∀ l, boxP C me q o.dst l st K → boxP C me q o.dst l st fun v s => (∀ d b, asB (nth st.env d) = some b → asB (nth s.env d) = some b) ∧ K v s := by
      intro l g
      obtain ⟨e, b, hh⟩ := st
      cases hd : o.dst with
      | none => rw [hd] at g; exact g.elim
      | some d =>
        rw [hd] at g
        simp only [boxP, fl_eq, flH_eq, nk_eq, noLpK_eq, updK_eq] at g ⊢
        refine ⟨g.1, ?_⟩
        have g2 := g.2
        split at g2
        · exact ⟨g2.1, fun _ _ h => h, g2.2⟩
        · exact ⟨g2.1, fun _ _ h => asB_noLp h, g2.2⟩
    cases hop : o.op <;> simp [isBox, hop] at hb <;> simp only [opP, hop] at h ⊢
    · exact ⟨h.1, key _ h.2⟩
    · exact optK_imp h fun v hv => key _ hv
theorem step_op {kn : List (Nat × Bool)} {K : AV → St → Prop} (hk : KnSt kn st) (h : stepT C P me o kn st K) : opP C P me (quietKind C me o) o st K := by
  unfold stepT at h
  split at h
  · rename_i c x y hop
    have pick : ∀ b, asB (nth st.env c) = some b → (if b then optK (arg st x) fun v => K v st else optK (arg st y) fun v => K v st) → opP C P me (quietKind C me o) o st K := by
      intro b hb g
      have harg : arg st (.tmp c) = some (nth st.env c) := by simp [arg]
      simp only [opP, hop, harg]
      cases hv : nth st.env c <;> rw [hv] at hb <;> simp [asB] at hb
      · subst hb
        rename_i z
        cases z <;> simpa using g
      · subst hb
        rename_i z
        refine ⟨fun e => ?_, fun e => ?_⟩
        · subst e; simpa using g
        · subst e; simpa using g
    split at h
    · rename_i e; exact pick true (hk _ _ (kget_mem e)) (by simpa using h)
    · rename_i e; exact pick false (hk _ _ (kget_mem e)) (by simpa using h)
    · exact h
  · exact h
theorem kget_cons {d : Nat} {b : Bool} {kn : List (Nat × Bool)} {n : Nat} {x : Bool} (h : (n, x) ∈ (d, b) :: kn) : (d = n ∧ b = x) ∨ (n, x) ∈ kn := by
  rcases List.mem_cons.1 h with h | h
  · simp at h; exact .inl ⟨h.1.symm, h.2.symm⟩
  · exact .inr h
theorem guardT_sound {listed : Array Bool} {i : Nat} {kn : List (Nat × Bool)} {K : List (Nat × Bool) → St → Prop} (hi : ops[i]? = some o) (hd : dstsOk ops = true) (hg : guardOk ops listed i = true)
    (hu : listed.getD i true = false) (hs : KnSt kn st) (ho : KnOk ops listed kn) (h : guardT C P me ops.toList o kn st K) :
    gOp C P me ops o (fun s => ∃ kn', KnSt kn' s ∧ KnOk ops (listed.setIfInBounds i true) kn' ∧ K kn' s) st := by
  have hset : ∀ kn', KnOk ops listed kn' → KnOk ops (listed.setIfInBounds i true) kn' := by
    intro kn' hk d b hd j oj hj hun
    refine hk d b hd j oj hj ?_
    by_cases hij : i = j
    · subst hij; exact hu
    · rw [getD_set_ne true hij] at hun; exact hun
  have put : ∀ kn' (s : St) (v : AV), KnOk ops listed kn' → KnSt kn' s → KnSt kn' (s.put o.dst v) := by
    intro kn' s v hk hs d b hd
    rw [nth_put (hk d b hd i o hi hu)]
    exact hs d b hd
  have step : ∀ kn', KnSt kn' st → KnOk ops listed kn' → (stepT C P me o kn' st fun v st' => putK st' o.dst v (K kn')) →
      opP C P me (quietKind C me o) o st fun v st' => ∃ kn', KnSt kn' (st'.put o.dst v) ∧ KnOk ops (listed.setIfInBounds i true) kn' ∧ K kn' (st'.put o.dst v) := by
    intro kn' h1 h2 h3
    have h4 := op_keep (step_op h1 h3)
    by_cases hb : isBox o = false
    · obtain ⟨e, b, hh⟩ := st
      refine op_frame hb (fun _ _ => rfl) (fun v b' h' hk => ?_) h4
      obtain ⟨hk1, hk2⟩ := hk
      rw [putK_eq] at hk2
      exact ⟨kn', put kn' _ v h2 (fun d b hd => hk1 d b (h1 d b hd)), hset _ h2, hk2⟩
    · have mono : ∀ {l : List AV} {K1 K2 : AV → St → Prop}, (∀ v s, K1 v s → K2 v s) → boxP C me (quietKind C me o) o.dst l st K1 → boxP C me (quietKind C me o) o.dst l st K2 := by
        intro l K1 K2 hk g
        obtain ⟨e, b, hh⟩ := st
        cases hd : o.dst with
        | none => rw [hd] at g; exact g.elim
        | some d =>
          rw [hd] at g
          simp only [boxP, fl_eq, flH_eq, nk_eq, noLpK_eq, updK_eq] at g ⊢
          refine ⟨g.1, ?_⟩
          have g2 := g.2
          split at g2
          · exact ⟨g2.1, hk _ _ g2.2⟩
          · exact ⟨g2.1, hk _ _ g2.2⟩
      have fin : ∀ v s, ((∀ d b, asB (nth st.env d) = some b → asB (nth s.env d) = some b) ∧ putK s o.dst v (K kn')) → ∃ kn', KnSt kn' (s.put o.dst v) ∧ KnOk ops (listed.setIfInBounds i true) kn' ∧ K kn' (s.put o.dst v) := by
        rintro v s ⟨hk1, hk2⟩
        rw [putK_eq] at hk2
        exact ⟨kn', put kn' _ v h2 (fun d b hd => hk1 d b (h1 d b hd)), hset _ h2, hk2⟩
      cases hop : o.op <;> simp [isBox, hop] at hb <;> simp only [opP, hop] at h4 ⊢
      · exact ⟨h4.1, mono fin h4.2⟩
      · exact optK_imp h4 fun v hv => mono fin hv
  have skip : ∀ kn', KnSt kn' st → KnOk ops listed kn' → putK st o.dst (.tp []) (K kn') → ∃ kn', KnSt kn' (st.put o.dst (.tp [])) ∧ KnOk ops (listed.setIfInBounds i true) kn' ∧ K kn' (st.put o.dst (.tp [])) := by
    intro kn' h1 h2 h3
    rw [putK_eq] at h3
    exact ⟨kn', put kn' _ _ h2 h1, hset _ h2, h3⟩
  unfold guardT at h
  split at h
  · rename_i hgu
    exact gOp_do (by intro g want e; rw [hgu] at e; simp at e) (step kn hs ho h)
  · rename_i g want hgu
    split at h
    · exact h.elim
    · rename_i d hdst
      have yes : asB (nth st.env d) = some want → (opP C P me (quietKind C me o) o st fun v st' => ∃ kn', KnSt kn' (st'.put o.dst v) ∧ KnOk ops (listed.setIfInBounds i true) kn' ∧ K kn' (st'.put o.dst v)) →
          gOp C P me ops o (fun s => ∃ kn', KnSt kn' s ∧ KnOk ops (listed.setIfInBounds i true) kn' ∧ K kn' s) st := by
        intro e g'
        refine gOp_do ?_ g'
        intro g2 want2 e2
        rw [hgu] at e2
        simp at e2
        obtain ⟨rfl, rfl⟩ := e2
        exact ⟨d, hdst, e⟩
      have no' : notB (nth st.env d) want = true → (∃ kn', KnSt kn' (st.put o.dst (.tp [])) ∧ KnOk ops (listed.setIfInBounds i true) kn' ∧ K kn' (st.put o.dst (.tp []))) →
          gOp C P me ops o (fun s => ∃ kn', KnSt kn' s ∧ KnOk ops (listed.setIfInBounds i true) kn' ∧ K kn' s) st :=
        fun e g' => gOp_skip ⟨g, want, d, hgu, hdst, e⟩ g'
      have no : ∀ x, asB (nth st.env d) = some x → x ≠ want → (∃ kn', KnSt kn' (st.put o.dst (.tp [])) ∧ KnOk ops (listed.setIfInBounds i true) kn' ∧ K kn' (st.put o.dst (.tp []))) →
          gOp C P me ops o (fun s => ∃ kn', KnSt kn' s ∧ KnOk ops (listed.setIfInBounds i true) kn' ∧ K kn' s) st :=
        fun x e hne g' => no' (notB_of e hne) g'
      split at h
      · rename_i b hb
        have hv := hs _ _ (kget_mem hb)
        split at h
        · rename_i e
          simp at e; subst e
          exact yes hv (step kn hs ho h)
        · rename_i e
          simp at e
          exact no b hv e (skip kn hs ho h)
      · split at h
        · rename_i x hx
          have hv : asB (nth st.env d) = some x := by rw [hx]; rfl
          split at h
          · rename_i e
            simp at e; subst e
            exact yes hv (step kn hs ho h)
          · rename_i e
            simp at e
            exact no x hv e (skip kn hs ho h)
        · rename_i x hx
          have hv : asB (nth st.env d) = some x := by rw [hx]; rfl
          have hgl : listed.getD g false = true := by
            simp only [guardOk, hi, Option.bind_some, hgu] at hg
            exact hg
          have hcons : ∀ z, asB (nth st.env d) = some z → KnSt ((d, z) :: kn) st ∧ KnOk ops listed ((d, z) :: kn) := by
            intro z hz
            refine ⟨fun n b hn => ?_, fun n b hn j oj hj hun => ?_⟩
            · rcases kget_cons hn with ⟨rfl, rfl⟩ | hn
              · exact hz
              · exact hs n b hn
            · rcases kget_cons hn with ⟨rfl, rfl⟩ | hn
              · have hgo : ∃ og, ops[g]? = some og ∧ og.dst = some d := by
                  unfold dstOf at hdst
                  rw [at?_eq] at hdst
                  simp only [Array.getElem?_toList] at hdst
                  cases hog : ops[g]? with
                  | none => rw [hog] at hdst; simp at hdst
                  | some og => rw [hog] at hdst; exact ⟨og, rfl, by simpa using hdst⟩
                obtain ⟨og, hog, hogd⟩ := hgo
                refine dstsOk_spec hd hog hj ?_ hogd
                rintro rfl
                rw [unlisted hun] at hgl
                cases hgl
              · exact ho n b hn j oj hj hun
          by_cases e : x = want
          · subst e
            obtain ⟨k1, k2⟩ := hcons x hv
            exact yes hv (step _ k1 k2 (h.1 rfl))
          · have e' : x = !want := by cases x <;> cases want <;> simp_all
            obtain ⟨k1, k2⟩ := hcons (!want) (by rw [hv, e'])
            exact no x hv e (skip _ k1 k2 (h.2 e'))
        · rename_i l hx
          split at h
          · exact no' (by rw [hx]; rfl) (skip kn hs ho h)
          · exact h.elim
        · exact h.elim
/-- No slot of what is still to be done holds the address of a box. -/
def CleanD (ops : Array Oper) (listed : Array Bool) (st : St) : Prop := ∀ (j : Nat) (oj : Oper), ops[j]? = some oj → listed.getD j true = false → ∀ d, oj.dst = some d → okv (nth st.env d) = true
theorem clean_set {listed : Array Bool} {i : Nat} {oi : Oper} (hd : dstsOk ops = true) (hi : ops[i]? = some oi) (hc : CleanD ops listed st) {s : St} (hk : ∀ t, oi.dst ≠ some t → okv (nth st.env t) = true → okv (nth s.env t) = true) :
    CleanD ops (listed.setIfInBounds i true) s := by
  intro j oj hj hl d hdj
  by_cases hij : i = j
  · subst hij
    exfalso
    rcases Nat.lt_or_ge i listed.size with h | h
    · simp [h] at hl
    · simp [Array.getElem?_eq_none, h] at hl
  · rw [getD_set_ne true hij] at hl
    exact hk d (dstsOk_spec hd hj hi (Ne.symm hij) hdj) (hc j oj hj hl d hdj)
/-- The end of the region. -/
def EndK (K : St → Prop) (s : St) : Prop := ∃ kn, KnSt kn s ∧ refK kn s K
theorem altCovers_mem : ∀ (q : Plan) (is : List Nat) (j : Nat), (altCovers is q).2 = true → j ∈ (altCovers is q).1 → j ∈ is ∨ j ∈ (altCovers [] q).1 := by
  intro q
  induction q with
  | alt i p q _ ih =>
    intro is j h1 h2
    simp only [altCovers] at h1 h2 ⊢
    rcases ih (i :: is) j h1 h2 with h | h
    · rcases List.mem_cons.1 h with rfl | h
      · right
        have : ∀ (q : Plan) (l : List Nat), j ∈ l → j ∈ (altCovers l q).1 := by
          intro q
          induction q with
          | alt i' p' q' _ ih' => intro l hl; exact ih' _ (List.mem_cons_of_mem _ hl)
          | done => intro l hl; exact hl
          | no => intro l hl; exact hl
          | take _ _ _ => intro l hl; exact hl
        exact this q _ List.mem_cons_self
      · exact .inl h
    · right
      have : ∀ (q : Plan) (l l' : List Nat), (∀ z ∈ l, z ∈ l') → j ∈ (altCovers l q).1 → j ∈ (altCovers l' q).1 := by
        intro q
        induction q with
        | alt i' p' q' _ ih' =>
          intro l l' hl hj
          refine ih' _ _ ?_ hj
          intro z hz
          rcases List.mem_cons.1 hz with rfl | hz
          · exact List.mem_cons_self
          · exact List.mem_cons_of_mem _ (hl z hz)
        | done => intro l l' hl hj; exact hl _ hj
        | no => intro l l' hl hj; exact hl _ hj
        | take _ _ _ => intro l l' hl hj; exact hl _ hj
      exact this q [] [i] (by simp) h
  | done => intro is j h1 h2; exact .inl h2
  | no => intro is j h1 h2; exact .inl h2
  | take _ _ _ => intro is j h1 h2; exact .inl h2
theorem plan_sound (hd : dstsOk ops = true) {pre : List Nat} (hp : ∀ j i, (pre.getD j 0).testBit i = true → Before ops i j) {K : St → Prop} : ∀ (p : Plan) (fuel : Nat) (listed : Array Bool) (top : Bool) (kn : List (Nat × Bool)) (st : St),
    Closed ops listed → CleanD ops listed st → planOk C me ops pre p fuel listed top = true → KnSt kn st → KnOk ops listed kn → opsT C P me ops.toList p kn st K →
    (top = true → aAny C P me ops fuel listed (EndK K) st) ∧
    (top = false → ∀ i ∈ (altCovers [] p).1, aOp C P me ops i (aAny C P me ops (fuel - 1) (listed.setIfInBounds i true) (EndK K)) st) := by
  have one : ∀ (i fuel : Nat) (listed : Array Bool) (kn : List (Nat × Bool)) (st : St) (p : Plan),
      (∀ kn st, Closed ops (listed.setIfInBounds i true) → CleanD ops (listed.setIfInBounds i true) st → KnSt kn st → KnOk ops (listed.setIfInBounds i true) kn → opsT C P me ops.toList p kn st K → aAny C P me ops fuel (listed.setIfInBounds i true) (EndK K) st) →
      Closed ops listed → CleanD ops listed st → stepOk ops pre listed i = true → KnSt kn st → KnOk ops listed kn →
      (match at? ops.toList i with
        | some o => guardT C P me ops.toList o kn st fun kn st => opsT C P me ops.toList p kn st K
        | none => False) → aOp C P me ops i (aAny C P me ops fuel (listed.setIfInBounds i true) (EndK K)) st ∧ i ∈ Region.ready .any ops listed ∧ ∃ oi, ops[i]? = some oi := by
    intro i fuel listed kn st p ih hc hcl hs k1 k2 h
    rw [at?_eq, Array.getElem?_toList] at h
    split at h
    · rename_i oi hoi
      simp only [stepOk, Bool.and_eq_true] at hs
      have hr : i ∈ Region.ready .any ops listed := by simpa using hs.1
      refine ⟨?_, hr, oi, hoi⟩
      rw [aOp_eq hoi]
      refine gOp_mono (fun s hk => ?_) (guardT_sound hoi hd hs.2 (mem_ready.1 hr).1 k1 k2 h)
      rintro ⟨kn', h1, h2, h3⟩
      exact ih kn' s (closed_set hc hr) (clean_set hd hoi hcl hk) h1 h2 h3
    · exact h.elim
  intro p
  induction p with
  | done =>
    intro fuel listed top kn st hc hcl hk k1 k2 h
    simp only [planOk, Bool.and_eq_true, beq_iff_eq] at hk
    obtain ⟨⟨rfl, rfl⟩, he⟩ := hk
    refine ⟨fun _ => ⟨by simpa using he, kn, k1, h⟩, by simp⟩
  | no =>
    intro fuel listed top kn st hc hcl hk k1 k2 h
    simp only [planOk, Bool.not_eq_true'] at hk
    subst hk
    exact ⟨by simp, by simp [altCovers]⟩
  | take i p ih =>
    intro fuel listed top kn st hc hcl hk k1 k2 h
    simp only [planOk, Bool.and_eq_true, bne_iff_ne] at hk
    obtain ⟨⟨⟨⟨rfl, hf⟩, hs⟩, hfree⟩, hp'⟩ := hk
    obtain ⟨n, rfl⟩ := Nat.exists_eq_succ_of_ne_zero hf
    simp only [Nat.succ_eq_add_one, Nat.add_sub_cancel] at hp'
    obtain ⟨h1, hr, oi, hoi⟩ := one i n listed kn st p (fun kn st hc hcl k1 k2 h => (ih n _ true kn st hc hcl hp' k1 k2 h).1 rfl) hc hcl hs k1 k2 h
    refine ⟨fun _ => ?_, by simp⟩
    exact aAny_first hoi n listed st hc (fun j oj hj hne hun hno => freeOk_spec hp hoi hfree j oj hj hne hun hno) (fun d hd' => hcl i oi hoi (mem_ready.1 hr).1 d hd') hr h1
  | alt i p q ihp ihq =>
    intro fuel listed top kn st hc hcl hk k1 k2 h
    simp only [planOk, Bool.and_eq_true, bne_iff_ne] at hk
    obtain ⟨⟨⟨⟨hcov, hf⟩, hs⟩, hp'⟩, hq'⟩ := hk
    obtain ⟨n, rfl⟩ := Nat.exists_eq_succ_of_ne_zero hf
    simp only [Nat.succ_eq_add_one, Nat.add_sub_cancel] at hp' hq' ⊢
    obtain ⟨h1, hr, oi, hoi⟩ := one i n listed kn st p (fun kn st hc hcl k1 k2 h => (ihp n _ true kn st hc hcl hp' k1 k2 h).1 rfl) hc hcl hs k1 k2 h.1
    have hrest := (ihq (n + 1) listed false kn st hc hcl hq' k1 k2 h.2).2 rfl
    simp only [Nat.add_sub_cancel] at hrest
    have all : (altCovers [i] q).2 = true → ∀ j ∈ (altCovers [i] q).1, aOp C P me ops j (aAny C P me ops n (listed.setIfInBounds j true) (EndK K)) st := by
      intro h2 j hj
      rcases altCovers_mem q [i] j h2 hj with h | h
      · simp at h; subst h; exact h1
      · exact hrest j h
    refine ⟨?_, ?_⟩
    · rintro rfl
      simp only [Bool.not_true, Bool.false_or, Bool.and_eq_true, List.all_eq_true, List.contains_iff_mem] at hcov
      refine ⟨fun h0 => (by rw [h0] at hr; cases hr), fun j hj => ?_⟩
      exact all hcov.1 j (hcov.2 j hj)
    · rintro rfl j hj
      simp only [altCovers] at hj
      have gen : ∀ (q : Plan) (l : List Nat), j ∈ (altCovers l q).1 → j ∈ l ∨ j ∈ (altCovers [] q).1 := by
        intro q
        induction q with
        | alt i' p' q' _ ih' =>
          intro l hl
          simp only [altCovers] at hl ⊢
          rcases ih' _ hl with h | h
          · rcases List.mem_cons.1 h with rfl | h
            · right
              have : ∀ (q : Plan) (l : List Nat), j ∈ l → j ∈ (altCovers l q).1 := by
                intro q
                induction q with
                | alt i' p' q' _ ih' => intro l hl; exact ih' _ (List.mem_cons_of_mem _ hl)
                | done => intro l hl; exact hl
                | no => intro l hl; exact hl
                | take _ _ _ => intro l hl; exact hl
              exact this _ _ List.mem_cons_self
            · exact .inl h
          · right
            have : ∀ (q : Plan) (l l' : List Nat), (∀ z ∈ l, z ∈ l') → j ∈ (altCovers l q).1 → j ∈ (altCovers l' q).1 := by
              intro q
              induction q with
              | alt i' p' q' _ ih' =>
                intro l l' hl hj
                refine ih' _ _ ?_ hj
                intro z hz
                rcases List.mem_cons.1 hz with rfl | hz
                · exact List.mem_cons_self
                · exact List.mem_cons_of_mem _ (hl z hz)
              | done => intro l l' hl hj; exact hl _ hj
              | no => intro l l' hl hj; exact hl _ hj
              | take _ _ _ => intro l l' hl hj; exact hl _ hj
            exact this q' [] [i'] (by simp) h
        | done => intro l hl; exact .inl hl
        | no => intro l hl; exact .inl hl
        | take _ _ _ => intro l hl; exact .inl hl
      rcases gen q [i] hj with h | h
      · simp at h; subst h; exact h1
      · exact hrest j h
end Go.Proofs.Ytmblcloikeobdaa.Ev

namespace Go.Proofs.Ytmblcloikeobdaa.Ev
open Go
set_option linter.unusedVariables false
set_option linter.unusedSimpArgs false
set_option linter.constructorNameAsVariable false
variable {C : Cfg} {P : Program} {J J0 J' J1 J2 : Inj} {lb : Nat → Nat} {w w0 w' : World} {a : Act} {st st1 : St} {hp hp' : Hp} {o x y : Oper} {ops : Array Oper} {me : Nat}

theorem opsD_text {all : List Oper} {K : St → Prop} : ∀ (rest : List Oper) (k : Nat) (kn : List (Nat × Bool)) (st : St), all.drop k = rest → opsD C P me all rest kn st K → opsT C P me all (textPlan k rest.length) kn st K
  | [], k, kn, st, _, h => h
  | o :: rest, k, kn, st, hk, h => by
    have hi : at? all k = some o := by
      have : (all.drop k)[0]? = some o := by rw [hk]; rfl
      rw [at?_eq]; simpa using this
    have hr : all.drop (k + 1) = rest := by rw [← List.drop_drop, hk]; rfl
    simp only [List.length_cons, textPlan, opsT, hi]
    simp only [opsD] at h
    have ih : ∀ kn, (opsD C P me all rest kn · K) = fun st => opsD C P me all rest kn st K := fun _ => rfl
    have mono : ∀ {K1 K2 : List (Nat × Bool) → St → Prop}, (∀ kn s, K1 kn s → K2 kn s) → guardT C P me all o kn st K1 → guardT C P me all o kn st K2 := by
      intro K1 K2 hk g
      have put : ∀ kn s d v, putK s d v (K1 kn) → putK s d v (K2 kn) := fun kn s d v g => by rw [putK_eq] at g ⊢; exact hk _ _ g
      have stp : ∀ {kn} {F1 F2 : AV → St → Prop}, (∀ v s, F1 v s → F2 v s) → stepT C P me o kn st F1 → stepT C P me o kn st F2 := by
        intro kn F1 F2 hF g
        have opm : opP C P me (quietKind C me o) o st F1 → opP C P me (quietKind C me o) o st F2 := by
          intro g
          by_cases hb : isBox o = false
          · obtain ⟨e, b, hh⟩ := st
            exact op_frame hb (fun _ _ => rfl) (fun v b' h' hk => hF _ _ hk) g
          · have bm : ∀ {l : List AV}, boxP C me (quietKind C me o) o.dst l st F1 → boxP C me (quietKind C me o) o.dst l st F2 := by
              intro l g
              obtain ⟨e, b, hh⟩ := st
              cases hd : o.dst with
              | none => rw [hd] at g; exact g.elim
              | some d =>
                rw [hd] at g
                simp only [boxP, fl_eq, flH_eq, nk_eq, noLpK_eq, updK_eq] at g ⊢
                refine ⟨g.1, ?_⟩
                have g2 := g.2
                split at g2
                · exact ⟨g2.1, hF _ _ g2.2⟩
                · exact ⟨g2.1, hF _ _ g2.2⟩
            cases hop : o.op <;> simp [isBox, hop] at hb <;> simp only [opP, hop] at g ⊢
            · exact ⟨g.1, bm g.2⟩
            · exact optK_imp g fun v hv => bm hv
        unfold stepT at g ⊢
        split at g
        · split at g
          · exact optK_imp g fun v => hF _ _
          · exact optK_imp g fun v => hF _ _
          · exact opm g
        · exact opm g
      unfold guardT at g ⊢
      split at g
      · exact stp (fun v s => put _ _ _ _) g
      · split at g
        · exact g
        · split at g
          · split at g
            · exact stp (fun v s => put _ _ _ _) g
            · exact put _ _ _ _ g
          · split at g
            · split at g
              · exact stp (fun v s => put _ _ _ _) g
              · exact put _ _ _ _ g
            · exact ⟨fun e => stp (fun v s => put _ _ _ _) (g.1 e), fun e => put _ _ _ _ (g.2 e)⟩
            · split at g
              · exact put _ _ _ _ g
              · exact g
            · exact g
    exact mono (fun kn s hs => opsD_text rest (k + 1) kn s hr hs) h
theorem refK_sound {K : St → Prop} : ∀ (kn : List (Nat × Bool)) (st : St), KnSt kn st → Rel J lb w a st → refK kn st K → ∃ st', K st' ∧ Rel J lb w a st'
  | [], st, _, R, h => ⟨st, h, R⟩
  | (d, b) :: kn, st, hk, R, h => by
    simp only [refK, putK_eq] at h
    have hb := hk d b List.mem_cons_self
    refine refK_sound kn _ ?_ (rel_refine R hb) h
    intro n x hn
    have h0 := hk n x (List.mem_cons_of_mem _ hn)
    by_cases e : d = n
    · subst e
      rw [hb] at h0
      simp at h0; subst h0
      by_cases hl : d < st.env.length
      · simp [St.put, upd_eq, nth_eq, hl, asB]
      · rw [nth_eq, List.getElem?_eq_none (by omega)] at hb
        simp [asB] at hb
    · rw [nth_put (by simpa using e)]; exact h0
theorem drawn_sound (T : TyOk C P) (hG : J.G = C.gl) {id : Nat} {plan : Option Plan} {K : St → Prop} 
    (h : okDst ops.toList st.env = true ∧ match plan with | none => opsD C P me ops.toList ops.toList [] st K | some p => opsT C P me ops.toList p [] st K) (hok : regionOk C me ops plan = true) (R : Rel J lb w a st) :
    (Code.region id ops true).wp P (Post J w fun ex st => ex = .norm ∧ K st) a w := by
  simp only [regionOk, Bool.and_eq_true] at hok
  obtain ⟨hd, hp⟩ := hok
  obtain ⟨hcl, h⟩ := h
  have hclean : CleanD ops (Array.replicate ops.size false) st := by
    have key : ∀ (l : List Oper), okDst l st.env = true → ∀ o ∈ l, ∀ d, o.dst = some d → okv (nth st.env d) = true := by
      intro l
      induction l with
      | nil => intro _ o ho; cases ho
      | cons x l ih =>
        intro h o ho d hd
        simp only [okDst, Bool.and_eq_true] at h
        rcases List.mem_cons.1 ho with rfl | ho
        · have := h.1
          rw [hd] at this; exact this
        · exact ih h.2 o ho d hd
    intro j oj hj _ d hd
    refine key _ hcl oj ?_ d hd
    rw [Array.mem_toList_iff]
    exact Array.mem_of_getElem? hj
  have hT : opsT C P me ops.toList (planOf ops plan) [] st K := by
    cases plan with
    | none => simpa [planOf] using opsD_text ops.toList 0 [] st rfl h
    | some p => exact h
  have hany := (plan_sound (C := C) (P := P) (me := me) (K := K) hd (preOf_spec ops) _ ops.size (Array.replicate ops.size false) true [] st (by
    intro j o _ hl
    exfalso
    rcases Nat.lt_or_ge j ops.size with h' | h'
    · simp [h'] at hl
    · simp [Array.getElem?_eq_none, h'] at hl) hclean hp (by intro d b h; simp at h) (by intro d b h; simp at h) hT).1 rfl
  have hE : Ext J J w ({ w with drawn := w.drawn + 1 } : World) := heap_ext (w := w) rfl ⟨rfl, rfl, rfl⟩
  have hR : Rel J lb ({ w with drawn := w.drawn + 1 } : World) a st := heap_rel (w := w) rfl ⟨rfl, rfl, rfl⟩ R
  refine Code.wp_mono ?_ (wp_region_any T.mixed (aAny_sound (J0 := J) (w0 := w) T hG ops.size _ st J lb _ a hR hE hany))
  rintro e a' w' ⟨ex, st', J', lb', ⟨rfl, kn, h1, h2⟩, h3, h4, h5⟩
  obtain ⟨st2, h6, h7⟩ := refK_sound kn st' h1 h4 h2
  exact ⟨.norm, st2, J', lb', ⟨rfl, h6⟩, h3, h7, h5⟩

/-! # Code -/
def codeOk (C : Cfg) (me : Nat) : Code → Bool
  | .region id ops draw => !draw || regionOk C me ops (C.plan me id)
  | .seq x y => codeOk C me x && codeOk C me y
  | .cond _ x y => codeOk C me x && codeOk C me y
  | .block _ x => codeOk C me x
  | .loop x => codeOk C me x
  | _ => true
theorem LoopWp.mono {c : Code} {Q Q' : Exit → Act → World → Prop} (h : LoopWp P c Q a w) (hq : ∀ e a w, Q e a w → Q' e a w) : LoopWp P c Q' a w :=
  fun b k cs => let ⟨e, a', w', q, r⟩ := h b k cs; ⟨e, a', w', hq _ _ _ q, r⟩
theorem wp_of_loop {c : Code} {Q : Exit → Act → World → Prop} (h : LoopWp P c Q a w) : (Code.loop c).wp P Q a w :=
  fun b k cs => let ⟨e, a', w', q, r⟩ := h b k cs; ⟨e, a', w', q, .of_steps (.one step_loop) r⟩
theorem loop_round {c : Code} {Q : Exit → Act → World → Prop} (h : c.wp P (Exit.then (LoopWp P c Q) Q) a w) : LoopWp P c Q a w := by
  intro b k cs
  obtain ⟨e, a₁, w₁, hq, harr⟩ := h b (.inLoop c :: k) cs
  cases e with
  | normal =>
    obtain ⟨e₂, a₂, w₂, hq₂, harr₂⟩ := hq b k cs
    exact ⟨e₂, a₂, w₂, hq₂, .of_steps (Steps.trans harr (.one step_inLoop)) harr₂⟩
  | exit id => exact ⟨_, a₁, w₁, hq, .pass (x := .inLoop c) rfl (fun _ _ => .inl (by simp)) harr⟩
  | goto l => exact ⟨_, a₁, w₁, hq, .pass (x := .inLoop c) rfl (fun _ _ => .inl (by simp)) harr⟩
  | ret => exact ⟨_, a₁, w₁, hq, .pass (x := .inLoop c) rfl (fun _ _ => .inl (by simp)) harr⟩
  | panic ch => exact ⟨_, a₁, w₁, hq, .pass (x := .inLoop c) rfl (fun _ _ => .inl (by simp)) harr⟩
  | outgrown => exact ⟨_, a₁, w₁, hq, .pass (x := .inLoop c) rfl (fun _ _ => .inl (by simp)) harr⟩
theorem keepAt_get {α : Type} (l : List Nat) (z : α) : ∀ (r : List α) (n t : Nat), (keepAt l z n r)[t]? = (r[t]?).map fun v => if l.contains (n + t) then v else z
  | [], n, t => by simp [keepAt]
  | v :: r, n, 0 => by simp [keepAt]
  | v :: r, n, t + 1 => by
    simp only [keepAt, List.getElem?_cons_succ]
    rw [keepAt_get l z r (n + 1) t, show n + 1 + t = n + (t + 1) from by omega]
theorem keepAt_len {α : Type} (l : List Nat) (z : α) : ∀ (r : List α) (n : Nat), (keepAt l z n r).length = r.length
  | [], _ => rfl
  | v :: r, n => by simp [keepAt, keepAt_len l z r]
theorem rel_keep (R : Rel J lb w a st) (l : List Nat) : Rel J lb w a (st.keep l) := by
  have hbox : ∀ s c, at? (st.keep l).bx s = some (some c) → at? st.bx s = some (some c) := by
    intro s c h
    rw [at?_eq] at h ⊢
    simp only [St.keep, keepAt_get] at h
    cases hs : st.bx[s]? with
    | none => rw [hs] at h; simp at h
    | some v =>
      rw [hs] at h
      simp only [Option.map_some, Option.some.injEq] at h
      split at h
      · rw [h]
      · simp at h
  refine ⟨R.inv, by simp [St.keep, keepAt_len, R.sz], ?_, fun s c h => R.box s c (hbox s c h), ?_, ?_, R.dfr⟩
  · intro t ht
    simp only [St.keep, keepAt_len] at ht
    have h0 := R.env t ht
    simp only [St.keep, nth_eq, keepAt_get] at h0 ⊢
    simp only [List.getElem?_eq_getElem ht, Option.map_some, Option.getD_some] at h0 ⊢
    split
    · exact h0
    · trivial
  · exact fun s s' ⟨c, h⟩ ⟨c', h'⟩ he => R.binj s s' ⟨c, hbox s c h⟩ ⟨c', hbox s' c' h'⟩ he
  · exact fun s id x ⟨c, h⟩ hl hm => R.bobj s id x ⟨c, hbox s c h⟩ hl hm
theorem Ext.low {J J' : Inj} {w w' : World} (E : Ext J J' w w') (n : Nat) : Ext (J.low n) J' w w' := by
  refine ⟨E.G, E.base, E.K, E.F, E.Fnew, ?_, E.size, E.keep, E.shape, E.same⟩
  intro id x h
  simp only [Inj.low] at h
  split at h
  · exact E.m id x h
  · simp at h
theorem Ext.refl_low (J : Inj) (w : World) (n : Nat) : Ext (J.low n) J w w := (Ext.refl J w).low n
theorem Ext.transN {n : Nat} {J J' J'' : Inj} {w w' w'' : World} (h : Ext (J.low n) J' w w') (h' : Ext (J'.low n) J'' w' w'') : Ext (J.low n) J'' w w'' := by
  have h1 : Ext (J.low n) (J'.low n) w w' := by
    refine ⟨h.G, h.base, h.K, h.F, h.Fnew, ?_, h.size, h.keep, h.shape, h.same⟩
    intro id x hx
    have h2 := h.m id x hx
    simp only [Inj.low] at hx ⊢
    split at hx
    · rename_i hl; simp [hl, h2]
    · simp at hx
  exact h1.trans h'
theorem Post.low {n : Nat} {R : Ex → St → Prop} {e : Exit} (h : Post J w R e a w') : PostN n J w R e a w' := by
  obtain ⟨ex, st, J', lb', h1, h2, h3, h4⟩ := h
  exact ⟨ex, st, J', lb', h1, h2, h3, h4.low n⟩
theorem post_ext {n : Nat} {R : Ex → St → Prop} {e : Exit} (E : Ext (J0.low n) J w0 w) (h : PostN n J w R e a w') : PostN n J0 w0 R e a w' := by
  obtain ⟨ex, st, J', lb', h1, h2, h3, h4⟩ := h
  exact ⟨ex, st, J', lb', h1, h2, h3, E.transN h4⟩
variable {n : Nat}
theorem wpT_sound (T : TyOk C P) : ∀ (c : Code) (st : St) (K : Ex → St → Prop), codeOk C me c = true → wpT C P n me c st K → Tri C n P c st K
  | .skip, st, K, _, h => fun J lb w a hG R => wp_skip ⟨.norm, st, J, lb, h, trivial, R, Ext.refl_low _ _ _⟩
  | .region id ops draw, st, K, hc, h => fun J lb w a hG R => by
    simp only [wpT] at h
    simp only [codeOk, Bool.or_eq_true, Bool.not_eq_true'] at hc
    refine Code.wp_mono (Q := Post J w fun ex st => ex = .norm ∧ K .norm st) ?_ ?_
    · rintro e a' w' ⟨ex, st', J', lb', ⟨rfl, h1⟩, h2, h3, h4⟩
      exact ⟨.norm, st', J', lb', h1, h2, h3, h4.low n⟩
    · cases draw with
      | false =>
        refine wp_region ?_
        have := opsP_sound (me := me) (Kf := K .norm) T hG ops.toList 0 st J lb w a rfl R (Ext.refl _ _) h
        simpa [List.range_eq_range'] using this
      | true =>
        have hok := hc.resolve_left (by simp)
        refine drawn_sound (me := me) (plan := C.plan me id) T hG ?_ hok R
        simp only [] at h
        cases hp : C.plan me id with
        | none => rw [hp] at h; exact h
        | some p => rw [hp] at h; exact h
  | .seq x y, st, K, hc, h => fun J lb w a hG R => by
    simp only [codeOk, Bool.and_eq_true] at hc
    simp only [wpT] at h
    have hx := wpT_sound T x st _ hc.1 h J lb w a hG R
    refine wp_seq (Code.wp_mono ?_ hx)
    rintro e a' w' ⟨ex, st', J', lb', h1, h2, h3, h4⟩
    cases e <;> cases ex <;> simp only [exM] at h2 <;> try exact h2.elim
    · have := wpT_sound T y st' K hc.2 h1 J' lb' w' a' (h4.G.trans hG) h3
      exact Code.wp_mono (fun e a w h => post_ext h4 h) this
    · subst h2
      exact ⟨_, st', J', lb', h1, rfl, h3, h4⟩
    · exact ⟨.ret, st', J', lb', h1, trivial, h3, h4⟩
  | .cond c x y, st, K, hc, h => fun J lb w a hG R => by
    simp only [codeOk, Bool.and_eq_true] at hc
    simp only [wpT] at h
    split at h
    · rename_i s
      split at h
      · rename_i hv
        have he := getD_tmps R s
        rw [hv] at he
        simp only [EV, VR] at he
        exact wp_cond_true (c := .tmp s) (by simpa [Act.eval] using he) (wpT_sound T x st K hc.1 h J lb w a hG R)
      · rename_i hv
        have he := getD_tmps R s
        rw [hv] at he
        simp only [EV, VR] at he
        exact wp_cond_false (c := .tmp s) (by simpa [Act.eval] using he) (wpT_sound T y st K hc.2 h J lb w a hG R)
      · rename_i z hv
        have he := getD_tmps R s
        rw [hv] at he
        simp only [EV, VR] at he
        have hb : asB (nth st.env s) = some z := by rw [hv]; rfl
        cases z
        · have h1 := h.2 rfl
          rw [putK_eq] at h1
          exact wp_cond_false (c := .tmp s) (by simpa [Act.eval] using he) (wpT_sound T y _ K hc.2 h1 J lb w a hG (rel_refine R hb))
        · have h1 := h.1 rfl
          rw [putK_eq] at h1
          exact wp_cond_true (c := .tmp s) (by simpa [Act.eval] using he) (wpT_sound T x _ K hc.1 h1 J lb w a hG (rel_refine R hb))
      · exact h.elim
    · exact h.elim
  | .block id x, st, K, hc, h => fun J lb w a hG R => by
    simp only [codeOk] at hc
    simp only [wpT] at h
    have hx := wpT_sound T x st _ hc h J lb w a hG R
    refine wp_block (Code.wp_mono ?_ hx)
    rintro e a' w' ⟨ex, st', J', lb', h1, h2, h3, h4⟩
    cases e <;> cases ex <;> simp only [exM] at h2 <;> try exact h2.elim
    · exact ⟨.norm, st', J', lb', h1, trivial, h3, h4⟩
    · rename_i k k'
      subst h2
      simp only [Exit.inBlock]
      simp only [] at h1
      split
      · rename_i e
        subst e
        simp only [beq_self_eq_true] at h1
        exact ⟨.norm, st', J', lb', h1, trivial, h3, h4⟩
      · rename_i e
        have : (k == id) = false := by simpa using e
        rw [this] at h1
        exact ⟨.exit k, st', J', lb', h1, rfl, h3, h4⟩
    · exact ⟨.ret, st', J', lb', h1, trivial, h3, h4⟩
  | .loop x, st, K, hc, h => fun J lb w a hG R => wp_of_loop (h J lb w a hG (rel_keep R _))
  | .exit id, st, K, _, h => fun J lb w a hG R => wp_exit ⟨.exit id, st, J, lb, h, rfl, R, Ext.refl_low _ _ _⟩
  | .ret, st, K, _, h => fun J lb w a hG R => wp_ret ⟨.ret, st, J, lb, h, trivial, R, Ext.refl_low _ _ _⟩
  | .label _, _, _, _, h => h.elim
  | .goto _, _, _, _, h => h.elim
/-- One round of a loop, and on. -/
theorem TriLP_round (T : TyOk C P) {c : Code} {K : Ex → St → Prop} (hc : codeOk C me c = true) (h : wpT C P n me c st fun ex st' => match ex with
    | .norm => TriL C n P c (st'.keep (C.live me (firstReg c))) K
    | .exit id => K (.exit id) st'
    | .ret => K .ret st') : TriL C n P c st K := by
  intro J lb w a hG R
  refine loop_round (Code.wp_mono ?_ (wpT_sound T c st _ hc h J lb w a hG R))
  rintro e a' w' ⟨ex, st', J', lb', h1, h2, h3, h4⟩
  cases e <;> cases ex <;> simp only [exM] at h2 <;> try exact h2.elim
  · exact LoopWp.mono (h1 J' lb' w' a' (h4.G.trans hG) (rel_keep h3 _)) fun e a w h => post_ext h4 h
  · subst h2
    exact ⟨_, st', J', lb', h1, rfl, h3, h4⟩
  · exact ⟨.ret, st', J', lb', h1, trivial, h3, h4⟩
end Go.Proofs.Ytmblcloikeobdaa.Ev

namespace Go.Proofs.Ytmblcloikeobdaa.Ev
open Go
set_option linter.unusedVariables false
set_option linter.unusedSimpArgs false
set_option linter.constructorNameAsVariable false
variable {C : Cfg} {P : Program} {J J0 J' J1 J2 : Inj} {lb : Nat → Nat} {w w0 w' : World} {a : Act} {st st1 : St} {hp hp' : Hp} {o x y : Oper} {ops : Array Oper} {me : Nat}

/-! # Functions -/
/-- What is checked of the whole program, once. -/
structure ProgOk (C : Cfg) (P : Program) : Prop where
  ty : TyOk C P
  code : ∀ (f : Nat) (F : Func) (c : Code), C.ok f = true → P.funcs[f]? = some F → F.body = some c → codeOk C f c = true
  nm : ∀ (f : Nat) (F : Func), C.ok f = true → P.funcs[f]? = some F → F.body.isSome = true → (F.name == "runtime.NumGoroutine") = false
theorem load_var (T : TyOk C P) (R : Rel J lb w a st) {t : Nat} {p : AV} {K : AV → Prop} {cp : Value} (hp : EV J lb w p cp) (h : loadP C st t K p) :
    ∃ v cv ad, K v ∧ cp = .pointer (some ad) ∧ (loadVar t ad).run P w = .ok cv w ∧ VR J w v cv := by
  obtain ⟨v, cv, h1, h2, h3⟩ := load_sound T R hp h
  have : ∃ ad, cp = .pointer (some ad) := by
    cases p <;> try exact h.elim
    · obtain ⟨_, blk, off, hp, _⟩ := hp; exact ⟨_, hp⟩
    · obtain ⟨blk, base, wd, _, hp⟩ := hp; exact ⟨_, hp⟩
    · exact ⟨_, hp⟩
  obtain ⟨ad, rfl⟩ := this
  refine ⟨v, cv, ad, h1, rfl, ?_, h3⟩
  simpa [Instr.loadAt, Instr.sureAddr] using h2
theorem resK_sound (T : TyOk C P) (R : Rel J lb w a st) {K : List AV → Prop} : ∀ (l : List ResultVar) (K : List AV → Prop), resK C st K l → ∃ rs vs, K rs ∧ (l.mapM fun
    | .tmp t => pure (a.tmps.getD t undef)
    | .cell b t => do loadVar t (← asAddr (a.tmps.getD b undef)) : Sem (List Value)).run P w = .ok vs w ∧ EVs J lb w rs vs ∧ vs.length = l.length
  | [], K, h => ⟨[], [], h, rfl, trivial, rfl⟩
  | .tmp t :: l, K, h => by
    simp only [resK, fv_eq] at h
    obtain ⟨rs, vs, h1, h2, h3, h4⟩ := resK_sound T R (K := K) l _ h
    refine ⟨_, a.tmps.getD t undef :: vs, h1, ?_, ⟨getD_tmps R t, h3⟩, by simp [h4]⟩
    rw [List.mapM_cons]
    simp only [Sem.run_bind, Sem.run_pure, Result.andThen_ok, h2]
  | .cell b t :: l, K, h => by
    simp only [resK] at h
    obtain ⟨v, cv, ad, h0, hpt, hl, hv⟩ := load_var T R (getD_tmps R b) h
    obtain ⟨rs, vs, h1, h2, h3, h4⟩ := resK_sound T R (K := K) l _ h0
    refine ⟨_, cv :: vs, h1, ?_, ⟨VR_EV hv, h3⟩, by simp [h4]⟩
    rw [List.mapM_cons]
    have hA : (asAddr (a.tmps.getD b undef)).run P w = .ok ad w := by rw [hpt]; rfl
    simp only [Sem.run_bind, Sem.run_pure, Result.andThen_ok, hA, hl, h2]
theorem nth_app (l r : List AV) (t : Nat) : nth (l ++ r) t = if t < l.length then nth l t else nth r (t - l.length) := by
  rw [nth_eq]
  by_cases h : t < l.length
  · rw [List.getElem?_append_left h, if_pos h, nth_eq]
  · rw [List.getElem?_append_right (by omega), if_neg h, nth_eq]
theorem VRs_nth : ∀ (l : List AV) (vs : List Value) (t : Nat), VRs J w l vs → t < l.length → VR J w (nth l t) (vs.getD t undef)
  | x :: l, v :: vs, 0, h, _ => by simpa [nth] using h.1
  | x :: l, v :: vs, t + 1, h, hl => by simpa [nth] using VRs_nth l vs t h.2 (by simpa using hl)
  | [], _, _, _, hl => by simp at hl
  | _ :: _, [], _, h, _ => h.elim
theorem Ext.unlow (hI : Inv J w hp) (E : Ext (J.low hp.length) J' w w') : Ext J J' w w' := by
  refine ⟨E.G, E.base, E.K, E.F, E.Fnew, fun id x h => E.m id x ?_, E.size, E.keep, E.shape, E.same⟩
  simp [Inj.low, hI.dom id x h, h]
def oneOf : List Value → Value
  | [v] => v
  | vs => .tuple vs.toArray
theorem fn_sound (O : ProgOk C P) {f : Nat} {args : List AV} {K : AV → Hp → Prop} (h : fnP C P f args hp K) (J : Inj) (w : World) (vals : List Value) (hG : J.G = C.gl) (hI : Inv J w hp) (hv : VRs J w args vals) :
    Does P f vals.toArray w fun v w' => ∃ r hp' J', K r hp' ∧ Ext J J' w w' ∧ Inv J' w' hp' ∧ VR J' w' r v := by
  have T := O.ty
  unfold fnP at h
  split at h
  · exact h.elim
  · rename_i F hF
    rw [T.fns, at?_eq, Array.getElem?_toList] at hF
    obtain ⟨hlen, h⟩ := h
    simp only [Bool.and_eq_true] at hlen
    obtain ⟨hok, hlen⟩ := hlen
    have hlen := Nat.le_of_ble_eq_true hlen
    split at h
    · exact h.elim
    · rename_i c hc
      simp only [fl_eq, flH_eq, nk_eq] at h
      have hvl := VRs_len _ _ hv
      left
      refine ⟨?_, ?_⟩
      · have hn := O.nm f F hok hF (by simp [hc])
        have hn' : ¬ F.name = "runtime.NumGoroutine" := by simpa using hn
        simp [callFunc, hF, hn', hc]
      · refine calls_of_wp hF hc ?_
        have R : Rel J (fun _ => 0) w { tmps := vals.toArray ++ Array.replicate (F.ntmps - vals.toArray.size) undef, defers := [] } ⟨args ++ reps (F.ntmps - args.length) .u, reps F.ntmps none, hp⟩ := by
          have hbx : ∀ s c, at? (reps F.ntmps (none : Option (List AV))) s = some (some c) → False := by
            intro s c h
            rw [at?_eq, reps_eq] at h
            rw [List.getElem?_replicate] at h
            split at h <;> simp at h
          refine ⟨hI, by simp [reps_eq, hvl], ?_, fun s c h => (hbx s c h).elim, fun s s' ⟨c, h⟩ _ _ => (hbx s c h).elim, fun s id x ⟨c, h⟩ => (hbx s c h).elim, rfl⟩
          intro t ht
          simp only [nth_app]
          split
          · rename_i hl
            refine VR_EV ?_
            have := VRs_nth args vals t hv hl
            have ht' : t < vals.length := by omega
            simp only [Array.getD_eq_getD_getElem?]
            rw [Array.getElem?_append_left (by simpa using ht')]
            simpa using this
          · have : nth (reps (F.ntmps - args.length) AV.u) (t - args.length) = .u := by
              rw [nth_eq, reps_eq, List.getElem?_replicate]
              split <;> rfl
            rw [this]; trivial
        have hw := wpT_sound T c _ _ (O.code f F c hok hF hc) h J _ w _ hG R
        refine Code.wp_mono ?_ hw
        rintro e a' w' ⟨ex, st', J', lb', h1, h2, h3, h4⟩
        have h4 := h4.unlow hI
        have fin : resK C st' (fun r => okvs r = true ∧ match r with | [v] => K v st'.hp | r => K (.tp r) st'.hp) F.results.toList →
            a'.defers = [] ∧ ∃ v, (results F a'.tmps).run P w' = .ok v w' ∧ ∃ v', Ending.returned v = .returned v' ∧ ∃ r hp' J', K r hp' ∧ Ext J J' w w' ∧ Inv J' w' hp' ∧ VR J' w' r v' := by
          intro hr
          refine ⟨h3.dfr, ?_⟩
          obtain ⟨rs, vs, ⟨g1, g2⟩, g3, g4, g5⟩ := resK_sound T h3 (K := fun _ => True) F.results.toList _ hr
          have hvs := EVs_VRs _ _ g4 g1
          have hres : (results F a'.tmps).run P w' = .ok (oneOf vs) w' := by
            unfold results
            rw [Array.mapM_eq_mapM_toList]
            simp only [Sem.run_bind, Sem.run_map]
            refine Eq.trans (congrArg (fun r : Result (List Value) => (r.andThen fun (a : List Value) w' => Result.ok a.toArray w').andThen fun (a : Array Value) w' => Sem.run P (pure (if h : a.size = 1 then a[0] else Value.tuple a)) w') g3) ?_
            match vs with
            | [] => rfl
            | [_] => rfl
            | _ :: _ :: _ => rfl
          refine ⟨_, hres, _, rfl, ?_⟩
          clear hres g3 g4 g5
          match rs, vs, hvs, g2 with
          | [r], [v], hvs, g2 => exact ⟨r, st'.hp, J', g2, h4, h3.inv, hvs.1⟩
          | [], [], hvs, g2 => exact ⟨_, st'.hp, J', g2, h4, h3.inv, [], rfl, trivial⟩
          | r1 :: r2 :: rs, v1 :: v2 :: vs, hvs, g2 => exact ⟨_, st'.hp, J', g2, h4, h3.inv, v1 :: v2 :: vs, rfl, hvs⟩
          | [], _ :: _, hvs, _ => exact hvs.elim
          | _ :: _, [], hvs, _ => exact hvs.elim
          | [_], _ :: _ :: _, hvs, _ => exact hvs.2.elim
          | _ :: _ :: _, [_], hvs, _ => exact hvs.2.elim
        cases e <;> cases ex <;> simp only [exM] at h2 <;> try exact h2.elim
        · exact fin h1
        · exact h1.elim
        · exact fin h1
theorem FnP_of (O : ProgOk C P) {f : Nat} {args : List AV} {r : AV} (h : fnP C P f args hp fun r' hp'' => r' = r ∧ hp'' = hp') : Fn C P f args hp r hp' := by
  intro J w vals hG hI hv
  have := fn_sound O h J w vals hG hI hv
  rcases this with ⟨h1, h2⟩ | ⟨v, w', h1, r', hp'', J', ⟨rfl, rfl⟩, h3⟩
  · refine .inl ⟨h1, Calls.mono h2 ?_⟩
    rintro e w' ⟨v, rfl, r', hp'', J', ⟨rfl, rfl⟩, h3⟩
    exact ⟨v, rfl, J', h3⟩
  · exact .inr ⟨v, w', h1, J', h3⟩
theorem ROP_of (O : ProgOk C P) {f : Nat} {args : List AV} {r : AV} (h : fnP C P f args [] fun r' hp'' => Back hp'' 4 r' r) : RO C P f args r := by
  intro J w vals hG hI hv
  exact fn_sound O h J w vals hG hI hv
end Go.Proofs.Ytmblcloikeobdaa.Ev

namespace Go.Proofs.Ytmblcloikeobdaa.Ev
open Go
set_option linter.unusedVariables false
set_option linter.unusedSimpArgs false
variable {C : Cfg} {P : Program}

/-! # What a computation checks of a program and its tables -/
def eqFields : List (Nat × Nat) → List Field → Bool
  | [], [] => true
  | (t, o) :: l, f :: r => f.type == t && f.offset == o && eqFields l r
  | _, _ => false
def eqG (P : Program) : Nat → Nat → Bool
  | 0, _ => true
  | d + 1, t => match P.underlying t with
    | some (.interface ms) => !ms.isEmpty
    | some (.struct fs) => fs.toList.any fun f => f.name != "_" && eqG P d f.type
    | some (.array _ e) => eqG P d e
    | _ => false
theorem eqG_eq (P : Program) : ∀ d t, P.eqGuardType d t = eqG P d t
  | 0, _ => rfl
  | d + 1, t => by
    simp only [Program.eqGuardType, eqG]
    cases hu : P.underlying t with
    | none => rfl
    | some q =>
      cases q <;> try rfl
      case array n e => exact eqG_eq P d _
      case struct fs =>
        simp only []
        rw [← Array.any_toList]
        simp only [eqG_eq P d]
def descOk (C : Cfg) (P : Program) (t : Nat) : TyE → Bool
  | .int k => match P.underlying t with | some (.int k') => k == k' | _ => false
  | .bool => match P.underlying t with | some .bool => true | _ => false
  | .str => match P.underlying t with | some .string => true | _ => false
  | .slice e => match P.underlying t with | some (.slice e') => e == e' | _ => false
  | .ptr e => match P.underlying t with | some (.pointer e') => e == e' | _ => false
  | .strct fs => (match P.underlying t with | some (.struct F) => eqFields fs F.toList && F.toList.all (fun f => !(f.name == "_") && tsz C f.type != 0) | _ => false) && !(eqG P P.depth t) && !(P.stoodInHeld t)
  | .arr n e => match P.underlying t with | some (.array n' e') => n == n' && e == e' | _ => false
  | .func => true
  | .other => tsz C t == 0
def plainDesc : TypeDesc → Bool
  | .struct _ | .array _ _ => false
  | _ => true
def infoOk (C : Cfg) (P : Program) (t : Nat) : Bool := tsz C t == 0 || (tby C t != 0 && match P.info? t with
  | some x => x.size == tsz C t && x.bytes == tby C t && (match x.zero with
    | some z => zeroOk (tze C t) z.cells.toList && z.cells.size == tsz C t
    | none => false) && (isAg C t || match P.underlying t with | some d => plainDesc d | none => false)
  | none => false)
def tyOk (C : Cfg) (P : Program) : Bool :=
  P.follows .mixedOrders && (match tyd C 0 with | .other => true | _ => false) && tsz C 0 == 0 && (List.range C.ty.length).all fun t => descOk C P t (tyd C t) && infoOk C P t
theorem eqFields_spec : ∀ (l : List (Nat × Nat)) (r : List Field), eqFields l r = true → r.map (fun f => (f.type, f.offset)) = l
  | [], [], _ => rfl
  | (t, o) :: l, f :: r, h => by
    simp only [eqFields, Bool.and_eq_true, beq_iff_eq] at h
    simp [h.1.1, h.1.2, eqFields_spec l r h.2]
  | [], _ :: _, h => by simp [eqFields] at h
  | _ :: _, [], h => by simp [eqFields] at h
theorem tyOk_spec (hf : C.fns = P.funcs.toList) (h : tyOk C P = true) : TyOk C P := by
  simp only [tyOk, Bool.and_eq_true, List.all_eq_true, List.mem_range, beq_iff_eq] at h
  obtain ⟨⟨⟨h1, h2⟩, h3⟩, h4⟩ := h
  have out : ∀ t, ¬ t < C.ty.length → tyd C t = .other ∧ tsz C t = 0 := by
    intro t ht
    have : at? C.ty t = none := by rw [at?_eq]; exact List.getElem?_eq_none (by omega)
    simp [tyd, tsz, this]
  have ho : tyd C 0 = .other := by
    generalize tyd C 0 = q at h2
    cases q <;> simp at h2 ⊢
  refine ⟨h1, hf, h3, ho, ?_, ?_, ?_⟩
  · intro t ht
    by_cases hl : t < C.ty.length
    · have := (h4 t hl).2
      simp only [infoOk, Bool.or_eq_true, beq_iff_eq, Bool.and_eq_true, bne_iff_ne] at this
      rcases this with h | h
      · exact absurd h ht
      · exact h.1
    · exact absurd (out t hl).2 ht
  · intro t
    by_cases hl : t < C.ty.length
    · have hd := (h4 t hl).1
      generalize tyd C t = q at hd
      cases q <;> simp only [descOk] at hd ⊢
      case int k => split at hd <;> simp at hd; rename_i e; subst hd; exact e
      case bool => split at hd <;> simp at hd; assumption
      case str => split at hd <;> simp at hd; assumption
      case slice e => split at hd <;> simp at hd; rename_i e; subst hd; exact e
      case ptr e => split at hd <;> simp at hd; rename_i e; subst hd; exact e
      case strct fs =>
        simp only [Bool.and_eq_true, Bool.not_eq_true'] at hd
        obtain ⟨⟨hd, g1⟩, g2⟩ := hd
        split at hd
        · rename_i F e
          simp only [Bool.and_eq_true, List.all_eq_true, Bool.not_eq_true', bne_iff_ne] at hd
          exact ⟨F, e, eqFields_spec _ _ hd.1, fun f hf => hd.2 f hf, by rw [eqG_eq]; exact g1, g2⟩
        · simp at hd
      case arr n e => split at hd <;> simp at hd; rename_i e; obtain ⟨rfl, rfl⟩ := hd; exact e
      case other => simpa using hd
    · rw [(out t hl).1]; exact (out t hl).2
  · intro t ht
    by_cases hl : t < C.ty.length
    · have hi := (h4 t hl).2
      simp only [infoOk, Bool.or_eq_true, beq_iff_eq, Bool.and_eq_true] at hi
      rcases hi with hi | ⟨_, hi⟩
      · exact absurd hi ht
      · split at hi
        · rename_i x hx
          simp only [Bool.and_eq_true, beq_iff_eq, Bool.or_eq_true] at hi
          obtain ⟨⟨⟨g1, g2⟩, g3⟩, g4⟩ := hi
          split at g3
          · rename_i z hz
            simp only [Bool.and_eq_true, beq_iff_eq] at g3
            refine ⟨x, hx, g1, g2, z, hz, g3.1, g3.2, ?_⟩
            intro hag
            rw [hag] at g4
            have g4 := g4.resolve_left (by simp)
            split at g4
            · rename_i d hd
              refine ⟨by rw [hd]; rfl, ?_⟩
              intro d' hd'
              rw [hd] at hd'
              simp at hd'; subst hd'
              exact ⟨fun F e => by subst e; simp [plainDesc] at g4, fun n e e' => by subst e'; simp [plainDesc] at g4⟩
            · simp at g4
          · simp at g3
        · simp at hi
    · exact absurd (out t hl).2 ht
def fnOk (C : Cfg) (f : Nat) (F : Func) : Bool := !C.ok f || (!(F.name == "runtime.NumGoroutine") && match F.body with | some c => codeOk C f c | none => true)
def fnsOk (C : Cfg) : Nat → List Func → Bool
  | _, [] => true
  | n, F :: l => fnOk C n F && fnsOk C (n + 1) l
theorem fnsOk_spec : ∀ (l : List Func) (n : Nat), fnsOk C n l = true → ∀ i F, l[i]? = some F → fnOk C (n + i) F = true
  | [], _, _, _, _, h => by simp at h
  | F :: l, n, h, 0, F', hi => by
    simp at hi; subst hi
    simp only [fnsOk, Bool.and_eq_true] at h
    exact h.1
  | F :: l, n, h, i + 1, F', hi => by
    simp only [fnsOk, Bool.and_eq_true] at h
    have := fnsOk_spec l (n + 1) h.2 i F' (by simpa using hi)
    rwa [show n + 1 + i = n + (i + 1) from by omega] at this
theorem fnsOk_cut : ∀ (k n : Nat) (l : List Func), fnsOk C n (l.take k) = true → fnsOk C (n + k) (l.drop k) = true → fnsOk C n l = true
  | 0, n, l, _, h => by simpa using h
  | k + 1, n, [], _, _ => rfl
  | k + 1, n, F :: l, h1, h2 => by
    simp only [List.take_succ_cons, List.drop_succ_cons, fnsOk, Bool.and_eq_true] at h1 h2 ⊢
    exact ⟨h1.1, fnsOk_cut k (n + 1) l h1.2 (by rw [show n + 1 + k = n + (k + 1) by omega]; exact h2)⟩
theorem progOk_spec (hf : C.fns = P.funcs.toList) (h1 : tyOk C P = true) (h2 : fnsOk C 0 P.funcs.toList = true) : ProgOk C P := by
  have key : ∀ (f : Nat) (F : Func), C.ok f = true → P.funcs[f]? = some F → (F.name == "runtime.NumGoroutine") = false ∧ ∀ c, F.body = some c → codeOk C f c = true := by
    intro f F hok hF
    have := fnsOk_spec _ 0 h2 f F (by simpa using hF)
    simp only [Nat.zero_add, fnOk, hok, Bool.not_true, Bool.false_or, Bool.and_eq_true, Bool.not_eq_true'] at this
    refine ⟨this.1, fun c hc => ?_⟩
    have h3 := this.2
    rw [hc] at h3
    exact h3
  exact ⟨tyOk_spec hf h1, fun f F c hok hF hc => (key f F hok hF).2 c hc, fun f F hok hF _ => (key f F hok hF).1⟩
end Go.Proofs.Ytmblcloikeobdaa.Ev

namespace Go.Proofs.Ytmblcloikeobdaa.Ev
open Go
set_option linter.unusedVariables false
set_option linter.unusedSimpArgs false
variable {C : Cfg} {P : Program} {W W' : World}

/-! # From the outside -/
/-- The view of one who calls from outside: all that there is may be read, and is to be kept. -/
def rowJ (W : World) (G : List (Nat × Nat × List (List AV)) := []) : Inj where
  base := W.heap.size
  K := fun b => b < W.heap.size
  F := fun b => b < W.heap.size
  m := fun _ => none
  G := G
theorem rowJ_inv (W : World) (G : List (Nat × Nat × List (List AV))) (hg : ∀ x ∈ G, x.1 < W.heap.size ∧ flatRows x.2.2 = true ∧ VRrows (rowJ W) W x.2.2 x.2.1 x.1 0 ∧ blkSz W x.1 (x.2.1 * x.2.2.length)) : Inv (rowJ W G) W [] :=
  ⟨Nat.le_refl _, fun _ h => h, fun _ h => h, by simp [at?], by rintro _ _ _ _ ⟨_, h⟩; simp [at?] at h, by simp [rowJ], fun x hx => ⟨(hg x hx).1, (hg x hx).2.1, VRrows_flat _ _ _ _ (hg x hx).2.1 (hg x hx).2.2.1, (hg x hx).2.2.2⟩⟩
theorem ext_below {G : List (Nat × Nat × List (List AV))} {J' : Inj} (E : Ext (rowJ W G) J' W W') : RowKit.Below W.heap.size W W' :=
  ⟨E.same.1, E.same.2.1, E.same.2.2, E.size, fun k hk => E.keep k (.inl hk)⟩
theorem enter_of (O : ProgOk C P) {f : Nat} {F : Func} {c : Code} (hok : C.ok f = true) (hF : P.funcs[f]? = some F) (hc : F.body = some c) (vals : Array Value) (w : World) :
    (callFunc f vals).run P w = .ok (.enter f vals) w := by
  have hn := O.nm f F hok hF (by simp [hc])
  have hn' : ¬ F.name = "runtime.NumGoroutine" := by simpa using hn
  simp [callFunc, hF, hn', hc]
/-- A law that tells 'true'. -/
theorem law_calls {f : Nat} {args : List AV} {vals : List Value} (he : (callFunc f vals.toArray).run P W = .ok (.enter f vals.toArray) W) (h : RO C P f args (.b true)) (hv : VRs (rowJ W) W args vals)
    (hg : ∀ x ∈ C.gl, x.1 < W.heap.size ∧ flatRows x.2.2 = true ∧ VRrows (rowJ W) W x.2.2 x.2.1 x.1 0 ∧ blkSz W x.1 (x.2.1 * x.2.2.length)) :
    Calls P f vals.toArray W fun e W' => e = .returned (.bool true) ∧ RowKit.Below W.heap.size W W' := by
  have hv' : VRs (rowJ W C.gl) W args vals := VRs_extV (J := rowJ W) (J' := rowJ W C.gl) ⟨rfl, fun _ h => h, fun _ _ h => by simp [rowJ] at h, fun _ _ => rfl, fun _ c e fz h => ⟨c, fz, h, rfl⟩⟩ _ _ hv
  rcases h (rowJ W C.gl) W vals rfl (rowJ_inv W C.gl hg) hv' with ⟨_, h2⟩ | ⟨v, w', h1, _⟩
  · refine Calls.mono h2 ?_
    rintro e w' ⟨v, rfl, r0, hp', J', hB, E, hI, hr⟩
    refine ⟨?_, ext_below E⟩
    cases r0 <;> try exact hB.elim
    all_goals simp only [Back] at hB
    all_goals first
      | (rcases hB with hB | hB <;> simp at hB; subst hB; simp only [VR] at hr; rw [hr]; done)
      | (simp at hB; done)
      | (simp at hB; subst hB; simp only [VR] at hr; rw [hr]; done)
      | skip
    all_goals first
      | (obtain ⟨_, _, hB⟩ := hB; simp at hB; done)
      | (obtain ⟨_, _, hB⟩ := hB; cases hB; done)
      | (split at hB <;> first | (exact hB.elim) | (obtain ⟨_, _, hB⟩ := hB; split at hB <;> first | (simp at hB; done) | (obtain ⟨_, _, hB⟩ := hB; simp at hB; done)))
  · rw [he] at h1
    simp at h1
/-- Numbers in an argument. -/
theorem ints_VR {k : IntKind} {a : Option Addr} {len cap : Nat} {zs : List Int} (h : (a = none ∧ len = 0 ∧ cap = 0 ∧ zs = []) ∨
    ∃ x, a = some x ∧ len ≤ cap ∧ zs.length = cap ∧ ∀ i, i < zs.length → W.cell? (x.add i) = some (.int k (zs.getD i 0))) :
    VR (rowJ W) W (.ro true true 1 ((zs.take len).map fun n => [AV.i k n])) (.slice a len cap) := by
  rcases h with ⟨rfl, rfl, rfl, rfl⟩ | ⟨x, rfl, hl, hz, hc⟩
  · exact ⟨none, 0, by simp, Nat.le_refl _, fun _ => rfl, .inl rfl⟩
  · have hfl : ∀ l : List Int, flatRows (l.map fun n => [AV.i k n]) = true := by
      intro l; induction l with
      | nil => rfl
      | cons n l ih => simp [flatRows, allSc, isSc]; exact ih
    refine ⟨some x, cap, by simp; omega, by simp; omega, fun _ => hfl _, ?_⟩
    by_cases h0 : zs.take len = []
    · left; simp [h0]
    · right
      have hpos : 0 < zs.length := by
        rcases Nat.eq_zero_or_pos zs.length with h | h
        · exact absurd (by simp [List.length_eq_zero_iff.1 h]) h0
        · exact h
      obtain ⟨b, o, sp⟩ := x
      have hsp : sp = none ∧ b < W.heap.size := by
        have h1 := hc 0 hpos
        rw [show (⟨b, o, sp⟩ : Addr).add 0 = ⟨b, o, sp⟩ from by simp [Addr.add]] at h1
        simp only [World.cell?] at h1
        split at h1
        · rename_i c e' fz hh
          refine ⟨?_, ?_⟩
          · cases sp with
            | none => rfl
            | some _ => simp at h1
          · rcases Nat.lt_or_ge b W.heap.size with h | h
            · exact h
            · rw [Array.getElem?_eq_none h] at hh; simp at hh
        · simp at h1
      obtain ⟨rfl, hb⟩ := hsp
      refine ⟨b, o, rfl, hb, by simp, ?_⟩
      have key : ∀ (l : List Int) (o : Nat), (∀ i, i < l.length → W.cell? ⟨b, o + i, none⟩ = some (.int k (l.getD i 0))) → VRrows (rowJ W).noM W (l.map fun n => [AV.i k n]) 1 b o := by
        intro l
        induction l with
        | nil => intro o _; trivial
        | cons n l ih =>
          intro o h
          refine ⟨⟨rfl, ⟨⟨.int k n, by simpa using h 0 (by simp), rfl, rfl⟩, trivial⟩⟩, ih (o + 1) ?_⟩
          intro i hi
          have := h (i + 1) (by simpa using hi)
          rw [show o + 1 + i = o + (i + 1) from by omega]
          simpa using this
      refine key _ o ?_
      intro i hi
      have hi' : i < zs.length := by simp at hi; omega
      have hil : i < len := by simp at hi; omega
      have := hc i hi'
      rw [Addr.add_lit] at this
      rw [this]
      simp [List.getElem?_take, hil]
end Go.Proofs.Ytmblcloikeobdaa.Ev
