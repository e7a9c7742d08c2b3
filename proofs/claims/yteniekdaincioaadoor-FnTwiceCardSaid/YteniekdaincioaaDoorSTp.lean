/- Contracts: what the functions of this part return, for arguments as each contract says. -/
import Derived.Test.YteniekdaincioaaDoorEvD
import Derived.Test.YteniekdaincioaaDoorEvTab
import Derived.Test.YteniekdaincioaaDoorSTy
import Derived.Test.YteniekdaincioaaDoorSKb
import Derived.Test.YteniekdaincioaaDoorSLb
import Derived.Test.YteniekdaincioaaDoorSSp
import Derived.Test.YteniekdaincioaaDoorSSq
import Derived.Test.YteniekdaincioaaDoorSLn
import Derived.Test.YteniekdaincioaaDoorSPl
import Derived.Test.YteniekdaincioaaDoorSCq
import Derived.Test.YteniekdaincioaaDoorSPg
import Derived.Test.YteniekdaincioaaDoorSMk
import Derived.Test.YteniekdaincioaaDoorSMr
import Derived.Test.YteniekdaincioaaDoorSPw
import Derived.Test.YteniekdaincioaaDoorSNt
import Derived.Test.YteniekdaincioaaDoorSMs
import Derived.Test.YteniekdaincioaaDoorSRj
import Derived.Test.YteniekdaincioaaDoorSRk
import Derived.Test.YteniekdaincioaaDoorSRm
import Derived.Test.YteniekdaincioaaDoorSTw
set_option linter.constructorNameAsVariable false
set_option linter.unusedVariables false
set_option linter.unusedSimpArgs false
set_option linter.unusedVariables false
set_option maxHeartbeats 4000000
set_option maxRecDepth 20000
set_option linter.unusedSimpArgs false
set_option linter.constructorNameAsVariable false
namespace Go.Proofs.YteniekdaincioaaDoor.Ev
open Go Go.Proofs
attribute [local irreducible] RO Fn IntKind.wrap TriL
/- a datagram that is sent once more (pure) -/
def zzKey : ByteArray := ⟨#[122, 122]⟩
theorem parseL_key {s : ByteArray} {r : Rec} (h : parseL s = (r, 0)) : ∃ b, bs s = bs r.key ++ b := by
  rw [parseL] at h
  generalize idxB 124 ((bs s).drop (idxB 58 (bs s) 0 + 1).toNat) (idxB 58 (bs s) 0 + 1) = k at h
  generalize idxB 58 (bs s) 0 = i at h
  rw [parseK] at h
  repeat' split at h
  all_goals first
    | exact absurd (show (_ : Int) = 0 from congrArg Prod.snd h) (by decide)
    | (have hr := congrArg Prod.fst h
       simp only [] at hr
       subst hr
       refine ⟨(bs s).drop i.toNat, ?_⟩
       simp only [bs_extract, List.drop_zero, Nat.sub_zero]
       exact (List.take_append_drop _ _).symm)
theorem gstep_mem {p : List Rec × List Int} {s : ByteArray} {r : Rec} (h : r ∈ (gstep p s).1) : r ∈ p.1 ∨ parseL s = (r, 0) := by
  rw [gstep] at h
  simp only [List.mem_append] at h
  rcases h with h | h
  · exact .inl h
  · split at h
    · rename_i h0
      rw [List.mem_singleton] at h
      subst h
      exact .inr (by rw [← h0])
    · simp at h
theorem gramF_mem (l : List ByteArray) : ∀ (p : List Rec × List Int) (r : Rec), r ∈ (l.foldl gstep p).1 → r ∈ p.1 ∨ ∃ s ∈ l, parseL s = (r, 0) := by
  induction l with
  | nil => intro p r h; exact .inl h
  | cons x l ih =>
    intro p r h
    rw [List.foldl_cons] at h
    rcases ih _ r h with h | ⟨s, h1, h2⟩
    · rcases gstep_mem h with h | h
      · exact .inl h
      · exact .inr ⟨x, by simp, h⟩
    · exact .inr ⟨s, by simp [h1], h2⟩
theorem parseG_zz {s : ByteArray} (h : zGood (bs s)) : ∀ r ∈ (parseG s).1, r.key ≠ zzKey := by
  intro r hr e
  rw [parseG] at hr
  split at hr
  · simp at hr
  · rcases gramF_mem _ _ _ hr with h1 | ⟨x, h1, h2⟩
    · simp at h1
    · obtain ⟨b, hb⟩ := parseL_key h2
      rw [e] at hb
      exact line_zz h h1 b hb
def twice (n : Net) (k : Nat) (hk : k < n.sends.length) (g : ByteArray) : Net := { n with sends := n.sends ++ [n.sends[k]], grams := n.grams ++ [g] }
theorem gramOf_app (n : Net) (k : Nat) (hk : k < n.sends.length) (g : ByteArray) {x : Send} (h : x.gram.toNat < n.grams.length) : gramOf (twice n k hk g) x = gramOf n x := by
  simp only [gramOf, twice, List.getD_eq_getElem?_getD, List.getElem?_append_left h]
theorem twice_netOk {n : Net} {k : Nat} {hk : k < n.sends.length} {g : ByteArray} (h : netOk n = true) (h12 : n.sends.length ≠ 12) : netOk (twice n k hk g) = true := by
  have hl := netOk_len h
  simp only [netOk, Bool.and_eq_true, List.all_eq_true, decide_eq_true_eq] at h ⊢
  obtain ⟨h1, h2, h3⟩ := h
  have h4 : ∀ x ∈ n.sends, sendOk (twice n k hk g).grams.length x = true := by
    intro x hx
    have := h1 x hx
    simp only [sendOk, Bool.and_eq_true, decide_eq_true_eq, twice, List.length_append, List.length_cons, List.length_nil] at this ⊢
    omega
  refine ⟨?_, ?_, h3⟩
  · intro x hx
    simp only [twice, List.mem_append, List.mem_singleton] at hx
    rcases hx with hx | hx
    · exact h4 x hx
    · subst hx; exact h4 _ (List.getElem_mem _)
  · simp only [twice, List.length_append, List.length_cons, List.length_nil]; omega
theorem mem_gram {n : Net} (h : netOk n = true) : ∀ x ∈ n.sends, x.gram.toNat < n.grams.length := by
  intro x hx
  obtain ⟨j, hj, rfl⟩ := List.getElem_of_mem hx
  exact (netOk_send h hj).2.1
theorem foldl_congr' {α β : Type} {f g : β → α → β} : ∀ (l : List α) (b : β), (∀ b, ∀ x ∈ l, f b x = g b x) → l.foldl f b = l.foldl g b
  | [], _, _ => rfl
  | x :: l, b, h => by
    rw [List.foldl_cons, List.foldl_cons, h b x (by simp)]
    exact foldl_congr' l _ fun b y hy => h b y (by simp [hy])
theorem twice_rej {n : Net} {k : Nat} {hk : k < n.sends.length} {g : ByteArray} (h : netOk n = true) (h12 : n.sends.length ≠ 12) : rejected (twice n k hk g) = addL (rejected n) (parseG (gramOf n n.sends[k])).2 := by
  rw [rejected, rejected, if_pos h, if_pos (twice_netOk h h12), rejT, rejT, List.take_length, List.take_length]
  show List.foldl _ _ (n.sends ++ [n.sends[k]]) = _
  rw [List.foldl_append, List.foldl_cons, List.foldl_nil, gramOf_app n k hk g (mem_gram h _ (List.getElem_mem _))]
  congr 1
  refine foldl_congr' _ _ fun b x hx => ?_
  rw [gramOf_app n k hk g (mem_gram h _ hx)]
theorem flatMap_congr' {α β : Type} {f g : α → List β} : ∀ (l : List α), (∀ x ∈ l, f x = g x) → l.flatMap f = l.flatMap g
  | [], _ => rfl
  | x :: l, h => by
    rw [List.flatMap_cons, List.flatMap_cons, h x (by simp), flatMap_congr' l fun y hy => h y (by simp [hy])]
theorem twice_del {n : Net} {k : Nat} {hk : k < n.sends.length} {g : ByteArray} (h : netOk n = true) (h12 : n.sends.length ≠ 12) : delivered (twice n k hk g) = delivered n ++ (parseG (gramOf n n.sends[k])).1 := by
  rw [delivered, delivered, if_pos h, if_pos (twice_netOk h h12), delT, delT, List.take_length, List.take_length]
  show List.flatMap _ (n.sends ++ [n.sends[k]]) = _
  rw [List.flatMap_append]
  congr 1
  · refine flatMap_congr' _ fun x hx => ?_
    rw [gramOf_app n k hk g (mem_gram h _ hx)]
  · simp only [List.flatMap_cons, List.flatMap_nil, List.append_nil]
    rw [gramOf_app n k hk g (mem_gram h _ (List.getElem_mem _))]
theorem twice_zz {n : Net} {k : Nat} {hk : k < n.sends.length} {g : ByteArray} (h : netOk n = true) (h12 : n.sends.length ≠ 12) (hz : ∀ s ∈ n.grams, zGood (bs s)) : ∀ r ∈ delivered (twice n k hk g), r.key ≠ zzKey := by
  intro r hr
  have key : ∀ x ∈ n.sends, ∀ r ∈ (parseG (gramOf n x)).1, r.key ≠ zzKey := by
    intro x hx r hr
    have hg := mem_gram h x hx
    refine parseG_zz ?_ r hr
    rw [gramOf, List.getD_eq_getElem?_getD, List.getElem?_eq_getElem hg, Option.getD_some]
    exact hz _ (List.getElem_mem _)
  rw [twice_del h h12] at hr
  rcases List.mem_append.1 hr with q | q
  · rw [delivered, if_pos h, delT, List.take_length, List.mem_flatMap] at q
    obtain ⟨x, h1, h2⟩ := q
    exact key x h1 r h2
  · exact key _ (List.getElem_mem _) r q

end Go.Proofs.YteniekdaincioaaDoor.Ev
