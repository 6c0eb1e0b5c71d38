/- Plain laws for printed functions: loops, arithmetic, places. -/
import Derived.Test.YtjeihkabobjlbaaAiW
set_option linter.unusedVariables false
namespace Go.AI

theorem Loop_inv {S E : Type} {step : S → Option (S ⊕ E)} (Inv : S → Prop) (me : S → Nat) (Post : E → Prop)
    (hs : ∀ s, Inv s → (∃ s', step s = some (.inl s') ∧ Inv s' ∧ me s' < me s) ∨ (∃ e, step s = some (.inr e) ∧ Post e)) :
    ∀ s, Inv s → ∃ e, Loop step s = some e ∧ Post e := by
  intro s
  generalize hm : me s = m
  induction m using Nat.strongRecOn generalizing s with
  | _ m ih =>
    intro hi
    rw [Loop_eq]
    rcases hs s hi with ⟨s', h1, h2, h3⟩ | ⟨e, h1, h2⟩
    · rw [h1]; exact ih (me s') (by omega) s' rfl h2
    · rw [h1]; exact ⟨e, rfl, h2⟩
theorem Loop_inl {S E : Type} {step : S → Option (S ⊕ E)} {s s' : S} (h : step s = some (.inl s')) : Loop step s = Loop step s' := by rw [Loop_eq, h]; rfl
theorem Loop_inr {S E : Type} {step : S → Option (S ⊕ E)} {s : S} {e : E} (h : step s = some (.inr e)) : Loop step s = some e := by rw [Loop_eq, h]; rfl

theorem br_of {α : Type} {c : Bool} {x y : α} (h : c = true) : br c x y = x := by subst h; rfl
theorem br_no {α : Type} {c : Bool} {x y : α} (h : c = false) : br c x y = y := by subst h; rfl
theorem brd {α : Type} {p : Prop} [Decidable p] {x y : α} (h : p) : br (decide p) x y = x := br_of (decide_eq_true h)
theorem brn {α : Type} {p : Prop} [Decidable p] {x y : α} (h : ¬p) : br (decide p) x y = y := br_no (decide_eq_false h)
theorem bre {α : Type} {a b : Int} {x y : α} (h : a = b) : br (a == b) x y = x := br_of (by simp [h])
theorem brne {α : Type} {a b : Int} {x y : α} (h : a ≠ b) : br (a == b) x y = y := br_no (by simp [h])
theorem brb {α : Type} {a b : Int} {x y : α} (h : a ≠ b) : br (a != b) x y = x := br_of (by simp [h])
theorem brbe {α : Type} {a b : Int} {x y : α} (h : a = b) : br (a != b) x y = y := br_no (by simp [h])
theorem tmod_nn (a b : Int) (h : 0 ≤ a) : a.tmod b = a % b := Int.tmod_eq_emod_of_nonneg h
theorem tdiv_nn (a b : Int) (h : 0 ≤ a) : a.tdiv b = a / b := Int.tdiv_eq_ediv_of_nonneg h
theorem u8_lt (x : UInt8) : (x.toNat : Int) < 256 := by have := x.toNat_lt; omega

theorem atL_of {α : Type} {l : List α} {i : Int} (h0 : 0 ≤ i) (h1 : i < l.length) : ∃ x, atL l i = some x ∧ l[i.toNat]? = some x ∧ x ∈ l := by
  have h : i.toNat < l.length := by omega
  exact ⟨l[i.toNat], by simp [atL, h0, h], by simp [h], List.getElem_mem h⟩
theorem atL_drop {α : Type} {l r : List α} {x : α} {i : Int} (h0 : 0 ≤ i) (h : l.drop i.toNat = x :: r) : atL l i = some x := by
  have : l[i.toNat]? = some x := by rw [← List.head?_drop, h]; rfl
  simp [atL, h0, this]
theorem drop_cons {α : Type} {l : List α} {i : Nat} (h : i < l.length) : ∃ x r, l.drop i = x :: r ∧ l.drop (i + 1) = r ∧ l[i]? = some x :=
  ⟨l[i], l.drop (i + 1), List.drop_eq_getElem_cons h, rfl, by simp [h]⟩
theorem subL_of {α : Type} {l : List α} {a b : Int} (h0 : 0 ≤ a) (h1 : a ≤ b) (h2 : b ≤ l.length) : subL l a b = some ((l.drop a.toNat).take (b.toNat - a.toNat)) := by
  simp [subL, h0, h1, h2, List.drop_take]
theorem fits_of {n b : Nat} (h : n * b ≤ 1099511627776) : fits n b = true := by simp [fits, okBound, h]
end Go.AI
