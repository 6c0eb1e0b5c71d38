/- What an argument can be, told by its type. -/
import Derived.Test.YtnfkfhedladdaaaAiTop
set_option linter.unusedVariables false
namespace Go.AI

section
variable {H : Type} {P : Program}

theorem dataV_int {n : Nat} {t : TypeId} {d : DataW H} {vs : List V} {k : IntKind} (hu : P.underlying t = some (.int k)) (h : dataV P (n + 1) t d = some vs) : ∃ m, vs = [.lit (.int k m)] ∧ (Lit.int k m).wf = true ∧ d = .lit (.int k m) := by
  cases d with
  | lit l =>
    cases l with
    | int k' m =>
      simp [dataV, hu] at h
      obtain ⟨⟨rfl, hw⟩, rfl⟩ := h
      exact ⟨m, rfl, hw, rfl⟩
    | _ => simp [dataV, hu] at h
  | _ => simp [dataV, hu] at h

theorem fieldsV_nil {g : TypeId → DataW H → Option (List V)} {ds : List (DataW H)} {vs : List V} (h : fieldsV g [] ds = some vs) : ds = [] ∧ vs = [] := by
  cases ds with
  | nil => simp [fieldsV] at h; exact ⟨rfl, h⟩
  | cons a b => simp [fieldsV] at h

theorem fieldsV_cons {g : TypeId → DataW H → Option (List V)} {f : Field} {fs : List Field} {ds : List (DataW H)} {vs : List V} (h : fieldsV g (f :: fs) ds = some vs) :
    ∃ d ds' a b, ds = d :: ds' ∧ g f.type d = some a ∧ fieldsV g fs ds' = some b ∧ vs = a ++ b := by
  cases ds with
  | nil => simp [fieldsV] at h
  | cons d ds' =>
    simp only [fieldsV] at h
    split at h
    · rename_i a b h1 h2
      cases h
      exact ⟨d, ds', a, b, rfl, h1, h2, rfl⟩
    · cases h

theorem dataV_struct {n : Nat} {t : TypeId} {d : DataW H} {vs : List V} {fs : Array Field} (hu : P.underlying t = some (.struct fs)) (h : dataV P (n + 1) t d = some vs) : ∃ ps, d = .agg ps ∧ fieldsV (dataV P n) fs.toList ps = some vs := by
  cases d with
  | agg ps =>
    simp [dataV, hu] at h
    exact ⟨ps, rfl, h⟩
  | _ => simp [dataV, hu] at h

theorem argV_struct {n : Nat} {t : TypeId} {d : DataW H} {v : V} {fs : Array Field} (hu : P.underlying t = some (.struct fs)) (h : argV P n t d = some v) : ∃ vs, v = .agg vs ∧ dataV P n t d = some vs := by
  unfold argV at h
  split at h
  · rename_i vs hd
    rw [hu] at h
    cases h
    exact ⟨vs, rfl, hd⟩
  · cases h

theorem argV_int {n : Nat} {t : TypeId} {d : DataW H} {v : V} {k : IntKind} (hu : P.underlying t = some (.int k)) (h : argV P (n + 1) t d = some v) : ∃ m, v = .lit (.int k m) ∧ (Lit.int k m).wf = true ∧ d = .lit (.int k m) := by
  unfold argV at h
  split at h
  · rename_i vs hd
    rw [hu] at h
    obtain ⟨m, rfl, h1, h2⟩ := dataV_int hu hd
    cases h
    exact ⟨m, rfl, h1, h2⟩
  · cases h

theorem argsV_nil {n : Nat} {ds : List (DataW H)} {vs : List V} (h : argsV P n [] ds = some vs) : ds = [] ∧ vs = [] := by
  cases ds with
  | nil => simp [argsV] at h; exact ⟨rfl, h⟩
  | cons a b => simp [argsV] at h

theorem argsV_cons {n : Nat} {t : TypeId} {ts : List TypeId} {ds : List (DataW H)} {vs : List V} (h : argsV P n (t :: ts) ds = some vs) :
    ∃ d ds' a b, ds = d :: ds' ∧ argV P n t d = some a ∧ argsV P n ts ds' = some b ∧ vs = a :: b := by
  cases ds with
  | nil => simp [argsV] at h
  | cons d ds' =>
    simp only [argsV] at h
    split at h
    · rename_i a b h1 h2
      cases h
      exact ⟨d, ds', a, b, rfl, h1, h2, rfl⟩
    · cases h
end
end Go.AI
