/- FnWork: what a verification hashes grows with each query. -/
import Derived.Test.YtjeihkabobjlbaaPuDraw
import Derived.Test.YtjeihkabobjlbaaPuWork
set_option linter.unusedVariables false
namespace Go.AI.Fn

def acc (v r : Int) : Nat → Int
  | 0 => 0
  | n + 1 => acc v r n + (1 + (v + r - 1 - n))
theorem loop_val {v a b c : Int} {x : List Entry} {y z : List Entry} {r q g w : Int} (hv : 0 ≤ v ∧ v ≤ 10) (hr : 0 ≤ r ∧ r ≤ 10) (hq : 0 ≤ q ∧ q ≤ 10) (hw : 0 ≤ w ∧ w ≤ 1000000) :
    ∃ e, Loop (s_WorkOf_1_s v a b c x y z r q g) (w, (0 : Int)) = some e ∧ e.1 = w + q * acc v r v.toNat ∧ 0 ≤ acc v r v.toNat := by
  refine Loop_inv (step := s_WorkOf_1_s v a b c x y z r q g) (fun s => 0 ≤ s.2 ∧ s.2 ≤ v ∧ s.1 = w + q * acc v r s.2.toNat ∧ 0 ≤ acc v r s.2.toNat ∧ acc v r s.2.toNat ≤ 100 * s.2) (fun s => (v - s.2).toNat) (fun e => e.1 = w + q * acc v r v.toNat ∧ 0 ≤ acc v r v.toNat) ?_ (w, (0 : Int))
    ⟨by dsimp only; omega, by dsimp only; omega, by show w = w + q * 0; omega, by show (0 : Int) ≤ 0; omega, by show (0 : Int) ≤ 100 * 0; omega⟩
  rintro ⟨s, j⟩ ⟨h0, h1, h2, h3, h4⟩
  dsimp only at h0 h1 h2 h3 h4
  simp only [s_WorkOf_1_s]
  by_cases hc : j < v
  · rw [brd hc, s_calls_eq (by omega) (by omega), s_calls_eq (by omega) (by omega)]
    simp only [Option.bind_some]
    rw [show ((17 : Int) / 136 + 1) = 1 by decide, show ((65 : Int) / 136 + 1) = 1 by decide, Int.mul_one]
    rw [wrap_i64 (v + r) (by omega) (by omega), wrap_i64 (v + r - 1) (by omega) (by omega), wrap_i64 (v + r - 1 - j) (by omega) (by omega), wrap_i64 (v + r - 1 - j) (by omega) (by omega), wrap_i64 (1 + (v + r - 1 - j)) (by omega) (by omega)]
    have n0 : 0 ≤ q * acc v r j.toNat := Int.mul_nonneg hq.1 h3
    have n1 : q * acc v r j.toNat ≤ 10 * 1000 := Int.mul_le_mul hq.2 (by omega) h3 (by omega)
    have m0 : 0 ≤ q * (1 + (v + r - 1 - j)) := Int.mul_nonneg hq.1 (by omega)
    have m1 : q * (1 + (v + r - 1 - j)) ≤ 10 * 20 := Int.mul_le_mul hq.2 (by omega) (by omega) (by omega)
    have ea : acc v r (j + 1).toNat = acc v r j.toNat + (1 + (v + r - 1 - j)) := by
      rw [show (j + 1).toNat = j.toNat + 1 by omega]
      show acc v r j.toNat + (1 + (v + r - 1 - (j.toNat : Int))) = _
      rw [show ((j.toNat : Nat) : Int) = j by omega]
    have em : q * acc v r (j + 1).toNat = q * acc v r j.toNat + q * (1 + (v + r - 1 - j)) := by rw [ea, Int.mul_add]
    rw [wrap_i64 (q * (1 + (v + r - 1 - j))) (by omega) (by omega), wrap_i64 (s + q * (1 + (v + r - 1 - j))) (by omega) (by omega), wrap_i64 (j + 1) (by omega) (by omega)]
    refine .inl ⟨_, rfl, ⟨by dsimp only; omega, by dsimp only; omega, ?_, ?_, ?_⟩, by dsimp only; omega⟩
    · show s + q * (1 + (v + r - 1 - j)) = w + q * acc v r (j + 1).toNat
      rw [em]; omega
    · show 0 ≤ acc v r (j + 1).toNat
      rw [ea]; omega
    · show acc v r (j + 1).toNat ≤ 100 * (j + 1)
      rw [ea]; omega
  · rw [brn hc]
    have : j = v := by omega
    subst this
    exact .inr ⟨_, rfl, h2, h3⟩
theorem work_val {s : System} {t : Setting} (hs : sysB s = true) (ht : setB t = true) :
    i_WorkOf s t = some (base s t + t.Queries * acc (s.Cols - 1) t.Rate (s.Cols - 1).toNat, 0) ∧ s_WorkOf s t = some (base s t + t.Queries * acc (s.Cols - 1) t.Rate (s.Cols - 1).toNat, 0) ∧ 0 ≤ acc (s.Cols - 1) t.Rate (s.Cols - 1).toNat := by
  obtain ⟨h1, h2, h3, lA, lB, lC⟩ := sysB_in hs
  obtain ⟨h5, h4, _⟩ := setB_in ht
  obtain ⟨e, he, h6, h7⟩ := loop_val (v := s.Cols - 1) (a := s.Rows) (b := s.Cols) (c := s.Publics) (x := s.A) (y := s.B) (z := s.C) (r := t.Rate) (q := t.Queries) (g := t.Grind) (w := base s t) (by omega) (by omega) (by omega) (by unfold base; omega)
  refine ⟨?_, ?_, h7⟩
  · unfold i_WorkOf
    rw [i_SystemOK_eq (by omega) (by omega) (by omega), i_SettingOK_eq, hs, ht]
    simp only [Option.bind_some, Bool.not_true, br_false]
    rw [iw_eq h1 h2 h3 lA lB lC h4, he]
    simp only [Option.bind_some, h6]
  · rw [sw_eq hs ht, he]
    simp only [Option.bind_some, h6]
theorem law (a b : List UInt8) : w_FnWork a b = some true := by
  unfold w_FnWork
  by_cases c1 : ((a.length : Nat) : Int) > 1048576
  · rw [brd c1]
  rw [brn c1]
  by_cases c2 : ((b.length : Nat) : Int) > 1048576
  · rw [brd c2]
  rw [brn c2]
  obtain ⟨s, e1, hs, _, _⟩ := SystemDrawn_ok (code := a) (by omega)
  obtain ⟨t, e2, t1, t2, t3⟩ := SettingOf_ok (code := b) (by omega)
  have ht : setB t = true := by
    unfold setB
    rw [decide_eq_true (by omega), decide_eq_true (by omega), decide_eq_true (by omega)]; rfl
  have ht2 : setB ⟨t.Rate, t.Queries + 1, t.Grind⟩ = true := by
    unfold setB
    dsimp only
    rw [decide_eq_true (by omega), decide_eq_true (by omega), decide_eq_true (by omega)]; rfl
  obtain ⟨w1, w2, w3⟩ := work_val hs ht
  obtain ⟨v1, v2, v3⟩ := work_val hs ht2
  rw [e1]
  simp only [Option.bind_some]
  rw [e2]
  simp only [Option.bind_some]
  rw [wrap_i64 (t.Queries + 1) (by omega) (by omega), w1, w2, v1]
  simp only [Option.bind_some]
  rw [bre rfl, bre rfl, bre rfl]
  have eb : base s ⟨t.Rate, t.Queries + 1, t.Grind⟩ = base s t + 1 := by unfold base; dsimp only; omega
  rw [eb]
  generalize acc (s.Cols - 1) t.Rate (s.Cols - 1).toNat = x at w3 ⊢
  rw [decide_eq_true (by rw [Int.add_mul, Int.one_mul]; omega)]
end Go.AI.Fn
