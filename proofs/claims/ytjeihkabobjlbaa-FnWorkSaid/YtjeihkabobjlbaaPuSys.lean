/- A system is one for the program just where it is one for the reference. -/
import Derived.Test.YtjeihkabobjlbaaPu0
import Derived.Test.YtjeihkabobjlbaaFnAll
set_option linter.unusedVariables false
namespace Go.AI.Fn

theorem cmp_eq (x y : Int) : cmp_Compare_int x y = some (if x < y then -1 else if x > y then 1 else 0) := by
  unfold cmp_Compare_int cmp_isNaN_int
  simp only [Option.bind_some, bne_self_eq_false, br_false]
  by_cases h : x < y
  · rw [brd h, if_pos h]
  · rw [brn h, if_neg h]
    by_cases h2 : x > y
    · rw [brd h2, if_pos h2]
    · rw [brn h2, if_neg h2]
theorem or_step0 (a b : Int) : cmp_Or_int_1_s 0 [a, b] (([a, b].length : Nat) : Int) 0 = br (a != 0) (some (.inr (.inl a))) (some (.inl 1)) := by
  simp only [cmp_Or_int_1_s]
  rw [brd (by simp), show atL [a, b] 0 = some a by simp [atL], show IntKind.wrap .i64 (0 + 1) = 1 by decide]; rfl
theorem or_step1 (a b : Int) : cmp_Or_int_1_s 0 [a, b] (([a, b].length : Nat) : Int) 1 = br (b != 0) (some (.inr (.inl b))) (some (.inl 2)) := by
  simp only [cmp_Or_int_1_s]
  rw [brd (by simp), show atL [a, b] 1 = some b by simp [atL], show IntKind.wrap .i64 (1 + 1) = 2 by decide]; rfl
theorem or_step2 (a b : Int) : cmp_Or_int_1_s 0 [a, b] (([a, b].length : Nat) : Int) 2 = some (.inr (.inr (2, false))) := by
  simp only [cmp_Or_int_1_s]
  rw [brn (by simp)]; simp
theorem or_eq (a b : Int) : cmp_Or_int [a, b] = some (if a = 0 then b else a) := by
  unfold cmp_Or_int
  by_cases ha : a = 0
  · rw [Loop_inl (s' := 1) (by rw [or_step0, brbe ha]), if_pos ha]
    by_cases hb : b = 0
    · rw [Loop_inl (s' := 2) (by rw [or_step1, brbe hb]), Loop_inr (or_step2 a b), hb]; rfl
    · rw [Loop_inr (e := .inl b) (by rw [or_step1, brb hb])]; rfl
  · rw [Loop_inr (e := .inl a) (by rw [or_step0, brb ha]), if_neg ha]; rfl
def ltE (y x : Entry) : Prop := y.Row < x.Row ∨ (y.Row = x.Row ∧ y.Col < x.Col)
theorem order_eq (y x : Entry) : ∃ c, i_Entry_order y x = some c ∧ (c ≥ 0 ↔ ¬ ltE y x) := by
  unfold i_Entry_order
  rw [cmp_eq, cmp_eq]
  simp only [Option.bind_some, or_eq]
  refine ⟨_, rfl, ?_⟩
  unfold ltE
  by_cases h1 : y.Row < x.Row
  · simp [h1]
  · by_cases h2 : y.Row > x.Row
    · simp [h1, h2]; omega
    · have h3 : y.Row = x.Row := by omega
      by_cases h4 : y.Col < x.Col
      · simp [h3, h4]
      · by_cases h5 : y.Col > x.Col
        · simp [h3, h4, h5]
        · simp [h3, h4, h5]

def inE (R C : Int) (x : Entry) : Prop := (0 ≤ x.Row ∧ x.Row ≤ R - 1) ∧ (0 ≤ x.Col ∧ x.Col ≤ C - 1) ∧ 1 ≤ x.Value ∧ x.Value ≤ 2130706432
def badE (l : List Entry) (R C : Int) (t : Nat) : Prop := ∃ x, l[t]? = some x ∧ (¬ inE R C x ∨ (0 < t ∧ ∃ y, l[t - 1]? = some y ∧ ¬ ltE y x))
open Classical in
noncomputable def matB (l : List Entry) (R C : Int) : Bool := decide (l.length ≤ 200 ∧ ∀ t, ¬ badE l R C t)

open Classical in
theorem matB_t {l : List Entry} {R C : Int} (h : l.length ≤ 200) (g : ∀ t, ¬ badE l R C t) : matB l R C = true := by unfold matB; exact decide_eq_true ⟨h, g⟩
open Classical in
theorem matB_f {l : List Entry} {R C : Int} (h : l.length ≤ 200 → ¬ ∀ t, ¬ badE l R C t) : matB l R C = false := by unfold matB; exact decide_eq_false fun g => h g.1 g.2
open Classical in
theorem matB_len {l : List Entry} {R C : Int} (h : matB l R C = true) : l.length ≤ 200 := by unfold matB at h; exact (of_decide_eq_true h).1
theorem in_eq (n a b : Int) : i_in n a b = some (decide (a ≤ n ∧ n ≤ b)) := by
  unfold i_in
  by_cases h : a ≤ n
  · rw [brd h]; simp [h]
  · rw [brn h]; simp [h]
theorem s_in_eq (n a b : Int) : s_l01In n a b = some (decide (a ≤ n ∧ n ≤ b)) := by
  unfold s_l01In
  by_cases h : a ≤ n
  · rw [brd h]; simp [h]
  · rw [brn h]; simp [h]
theorem notd {α : Type} {p : Prop} [Decidable p] {x y : α} (h : p) : br (!decide p) x y = y := br_no (by simp [h])
theorem notn {α : Type} {p : Prop} [Decidable p] {x y : α} (h : ¬p) : br (!decide p) x y = x := br_of (by simp [h])
theorem atL_get {α : Type} {l : List α} {i : Int} (h0 : 0 ≤ i) {x : α} (h : l[i.toNat]? = some x) : atL l i = some x := by simp [atL, h0, h]

theorem isMatrix_eq {l : List Entry} {R C : Int} (hl : l.length ≤ 1099511627776) (hR : 1 ≤ R ∧ R ≤ 4096) (hC : 1 ≤ C ∧ C ≤ 4096) : i_isMatrix l R C = some (matB l R C) := by
  unfold i_isMatrix
  have key := Loop_inv (step := i_isMatrix_1_s l R C l ((l.length : Nat) : Int)) (fun t => 0 ≤ t ∧ t ≤ l.length ∧ ∀ k : Nat, (k : Int) < t → ¬ badE l R C k) (fun t => (l.length - t).toNat)
    (fun e => (∃ x, e = .inl x ∧ ∃ k, badE l R C k) ∨ (∃ x, e = .inr x ∧ ∀ k, ¬ badE l R C k)) ?_ 0 ⟨by omega, by omega, by omega⟩
  · obtain ⟨e, he, ⟨x, rfl, k, hk⟩ | ⟨x, rfl, hk⟩⟩ := key
    · rw [he]
      simp only [Option.bind_some, alt_inl]
      rw [matB_f fun _ h => h k hk]
    · rw [he]
      simp only [Option.bind_some, alt_inr]
      by_cases h : l.length ≤ 200
      · rw [decide_eq_true (by omega), matB_t h hk]
      · rw [decide_eq_false (by omega), matB_f fun g => absurd g h]
  · intro t ⟨h0, h1, h2⟩
    simp only [i_isMatrix_1_s]
    by_cases c : t < (l.length : Int)
    · obtain ⟨x, r, e1, e2, e3⟩ := drop_cons (l := l) (i := t.toNat) (by omega)
      have next : ¬ badE l R C t.toNat → (fun t : Int => 0 ≤ t ∧ t ≤ l.length ∧ ∀ k : Nat, (k : Int) < t → ¬ badE l R C k) (t + 1) := by
        intro hn
        refine ⟨by omega, by omega, fun k hk => ?_⟩
        by_cases e : k = t.toNat
        · subst e; exact hn
        · exact h2 k (by omega)
      rw [brd c, atL_get h0 e3]
      simp only [Option.bind_some, in_eq]
      rw [wrap_i64 (R - 1) (by omega) (by omega), wrap_i64 (C - 1) (by omega) (by omega), wrap_i64 (t + 1) (by omega) (by omega)]
      by_cases i1 : 0 ≤ x.Row ∧ x.Row ≤ R - 1
      · rw [notd i1]
        by_cases i2 : 0 ≤ x.Col ∧ x.Col ≤ C - 1
        · rw [notd i2]
          by_cases i3 : 1 ≤ x.Value ∧ x.Value ≤ 2130706432
          · rw [notd i3]
            by_cases c3 : t > 0
            · rw [brd c3, wrap_i64 (t - 1) (by omega) (by omega)]
              obtain ⟨y, r2, f1, f2, f3⟩ := drop_cons (l := l) (i := (t - 1).toNat) (by omega)
              rw [atL_get (by omega) f3]
              simp only [Option.bind_some]
              obtain ⟨d, hd, hd2⟩ := order_eq y x
              rw [hd]
              simp only [Option.bind_some]
              rw [show (t - 1).toNat = t.toNat - 1 by omega] at f3
              by_cases c4 : d ≥ 0
              · rw [brd c4]
                exact .inr ⟨_, rfl, .inl ⟨_, rfl, t.toNat, x, e3, .inr ⟨by omega, y, f3, hd2.1 c4⟩⟩⟩
              · rw [brn c4]
                refine .inl ⟨_, rfl, next ?_, by omega⟩
                rintro ⟨x', g1, g | ⟨_, y', g2, g3⟩⟩
                · rw [e3] at g1; cases g1; exact g ⟨i1, i2, i3⟩
                · rw [e3] at g1; cases g1; rw [f3] at g2; cases g2; exact c4 (hd2.2 g3)
            · rw [brn c3]
              refine .inl ⟨_, rfl, next ?_, by omega⟩
              rintro ⟨x', g1, g | ⟨g0, _⟩⟩
              · rw [e3] at g1; cases g1; exact g ⟨i1, i2, i3⟩
              · omega
          · rw [notn i3]
            exact .inr ⟨_, rfl, .inl ⟨_, rfl, t.toNat, x, e3, .inl fun g => i3 g.2.2⟩⟩
        · rw [notn i2]
          exact .inr ⟨_, rfl, .inl ⟨_, rfl, t.toNat, x, e3, .inl fun g => i2 g.2.1⟩⟩
      · rw [notn i1]
        exact .inr ⟨_, rfl, .inl ⟨_, rfl, t.toNat, x, e3, .inl fun g => i1 g.1⟩⟩
    · rw [brn c]
      refine .inr ⟨_, rfl, .inr ⟨_, rfl, fun k hk => ?_⟩⟩
      have hkl : k < l.length := by
        obtain ⟨x, hx, _⟩ := hk
        obtain ⟨h, _⟩ := List.getElem?_eq_some_iff.1 hx
        exact h
      exact h2 k (by omega) hk

theorem list_eq {l : List Entry} {r c : Int} (hr : 0 ≤ r ∧ r ≤ 5) (hc : 0 ≤ c ∧ c ≤ 5) {R C : Int} (hR : shl64 .i64 1 r = R) (hC : shl64 .i64 1 c = C) (hR' : 1 ≤ R ∧ R ≤ 4096) (hC' : 1 ≤ C ∧ C ≤ 4096) : s_l10List l r c = some (matB l R C) := by
  unfold s_l10List
  by_cases hl : (l.length : Int) > 200
  · rw [brd hl]
    rw [matB_f (by omega)]
  rw [brn hl]
  have key := Loop_inv (step := s_l10List_1_s l r c) (fun t => 0 ≤ t ∧ t ≤ l.length ∧ ∀ k : Nat, (k : Int) < t → ¬ badE l R C k) (fun t => (l.length - t).toNat)
    (fun e => (∃ x, e = .inl x ∧ ∃ k, badE l R C k) ∨ (∃ x, e = .inr x ∧ ∀ k, ¬ badE l R C k)) ?_ 0 ⟨by omega, by omega, by omega⟩
  · obtain ⟨e, he, ⟨x, rfl, k, hk⟩ | ⟨x, rfl, hk⟩⟩ := key
    · rw [he]
      simp only [Option.bind_some, alt_inl]
      rw [matB_f fun _ h => h k hk]
    · rw [he]
      simp only [Option.bind_some, alt_inr]
      rw [matB_t (by omega) hk]
  · intro t ⟨h0, h1, h2⟩
    simp only [s_l10List_1_s]
    rw [wrap_u64 r (by omega) (by omega), wrap_u64 c (by omega) (by omega), hR, hC]
    by_cases ct : t < (l.length : Int)
    · obtain ⟨x, rest, e1, e2, e3⟩ := drop_cons (l := l) (i := t.toNat) (by omega)
      have next : ¬ badE l R C t.toNat → (fun t : Int => 0 ≤ t ∧ t ≤ l.length ∧ ∀ k : Nat, (k : Int) < t → ¬ badE l R C k) (t + 1) := by
        intro hn
        refine ⟨by omega, by omega, fun k hk => ?_⟩
        by_cases e : k = t.toNat
        · subst e; exact hn
        · exact h2 k (by omega)
      rw [brd ct, atL_get h0 e3]
      simp only [Option.bind_some, s_in_eq]
      rw [brd hr.1]
      rw [wrap_i64 (R - 1) (by omega) (by omega), wrap_i64 (C - 1) (by omega) (by omega), wrap_i64 (t + 1) (by omega) (by omega)]
      by_cases i1 : 0 ≤ x.Row ∧ x.Row ≤ R - 1
      · rw [notd i1, brd hc.1]
        by_cases i2 : 0 ≤ x.Col ∧ x.Col ≤ C - 1
        · rw [notd i2]
          by_cases i3 : 1 ≤ x.Value ∧ x.Value ≤ 2130706432
          · rw [notd i3]
            by_cases c3 : t > 0
            · rw [brd c3, wrap_i64 (t - 1) (by omega) (by omega)]
              obtain ⟨y, r2, f1, f2, f3⟩ := drop_cons (l := l) (i := (t - 1).toNat) (by omega)
              rw [atL_get (by omega) f3]
              simp only [Option.bind_some]
              rw [show (t - 1).toNat = t.toNat - 1 by omega] at f3
              have good : ltE y x → ¬ badE l R C t.toNat := by
                rintro hlt ⟨x', g1, g | ⟨_, y', g2, g3⟩⟩
                · rw [e3] at g1; cases g1; exact g ⟨i1, i2, i3⟩
                · rw [e3] at g1; cases g1; rw [f3] at g2; cases g2; exact g3 hlt
              have bad : ¬ ltE y x → badE l R C t.toNat := fun h => ⟨x, e3, .inr ⟨by omega, y, f3, h⟩⟩
              by_cases c4 : y.Row > x.Row
              · rw [brd c4]
                exact .inr ⟨_, rfl, .inl ⟨_, rfl, _, bad (by unfold ltE; omega)⟩⟩
              · rw [brn c4]
                by_cases c5 : y.Row = x.Row
                · rw [bre c5]
                  by_cases c6 : y.Col ≥ x.Col
                  · rw [brd c6]
                    exact .inr ⟨_, rfl, .inl ⟨_, rfl, _, bad (by unfold ltE; omega)⟩⟩
                  · rw [brn c6]
                    exact .inl ⟨_, rfl, next (good (by unfold ltE; omega)), by omega⟩
                · rw [brne c5]
                  exact .inl ⟨_, rfl, next (good (by unfold ltE; omega)), by omega⟩
            · rw [brn c3]
              refine .inl ⟨_, rfl, next ?_, by omega⟩
              rintro ⟨x', g1, g | ⟨g0, _⟩⟩
              · rw [e3] at g1; cases g1; exact g ⟨i1, i2, i3⟩
              · omega
          · rw [notn i3]
            exact .inr ⟨_, rfl, .inl ⟨_, rfl, t.toNat, x, e3, .inl fun g => i3 g.2.2⟩⟩
        · rw [notn i2]
          exact .inr ⟨_, rfl, .inl ⟨_, rfl, t.toNat, x, e3, .inl fun g => i2 g.2.1⟩⟩
      · rw [notn i1]
        exact .inr ⟨_, rfl, .inl ⟨_, rfl, t.toNat, x, e3, .inl fun g => i1 g.1⟩⟩
    · rw [brn ct]
      refine .inr ⟨_, rfl, .inr ⟨_, rfl, fun k hk => ?_⟩⟩
      have hkl : k < l.length := by
        obtain ⟨x, hx, _⟩ := hk
        obtain ⟨h, _⟩ := List.getElem?_eq_some_iff.1 hx
        exact h
      exact h2 k (by omega) hk
end Go.AI.Fn
