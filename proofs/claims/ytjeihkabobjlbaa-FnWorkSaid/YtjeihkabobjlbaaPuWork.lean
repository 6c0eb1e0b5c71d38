/- WorkOf: program and reference tell the same work. -/
import Derived.Test.YtjeihkabobjlbaaPuSys2
set_option linter.unusedVariables false
namespace Go.AI.Fn

theorem four_ok {n : Int} {l : List UInt8} (h : l.length ≤ 1099511627770) : ∃ r, i_four n l = some r ∧ r.length = l.length + 4 := by
  unfold i_four
  rw [br_of (fits_of (by simp only [List.length_append, List.length_cons, List.length_nil]; omega))]
  exact ⟨_, rfl, by simp only [List.length_append, List.length_cons, List.length_nil]⟩
section
variable {p : List UInt8} {t t2 t3 a c4 c5 c6 : List Entry} {t4 c c2 c3 : Int}
theorem text1 (ha : a.length ≤ 1000) {l : List UInt8} (hl : l.length ≤ 100000) :
    ∃ e, Loop (i_System_digestText_1_s p t t2 t3 t4 a ((a.length : Nat) : Int) c c2 c3 c4 c5 c6) (l, (0 : Int)) = some e ∧ e.1.length = l.length + 6 * a.length := by
  refine Loop_inv (step := i_System_digestText_1_s p t t2 t3 t4 a ((a.length : Nat) : Int) c c2 c3 c4 c5 c6) (fun s => 0 ≤ s.2 ∧ s.2 ≤ a.length ∧ (s.1.length : Int) = l.length + 6 * s.2) (fun s => (a.length - s.2).toNat)
    (fun e => e.1.length = l.length + 6 * a.length) ?_ (l, (0 : Int)) ⟨by dsimp only; omega, by dsimp only; omega, by dsimp only; omega⟩
  rintro ⟨o, i⟩ ⟨h0, h1, h2⟩
  dsimp only at h0 h1 h2
  simp only [i_System_digestText_1_s]
  by_cases hc : i < (a.length : Int)
  · obtain ⟨x, rest, e1, e2, e3⟩ := drop_cons (l := a) (i := i.toNat) (by omega)
    rw [brd hc, atL_get h0 e3]
    simp only [Option.bind_some]
    rw [br_of (fits_of (by simp only [List.length_append, List.length_cons, List.length_nil]; omega))]
    obtain ⟨r, hr, hr2⟩ := four_ok (n := x.Value) (l := o ++ [UInt8.ofInt x.Row, UInt8.ofInt x.Col]) (by simp only [List.length_append, List.length_cons, List.length_nil]; omega)
    rw [hr]
    simp only [Option.bind_some]
    simp only [List.length_append, List.length_cons, List.length_nil] at hr2
    rw [wrap_i64 (i + 1) (by omega) (by omega)]
    exact .inl ⟨_, rfl, ⟨by dsimp only; omega, by dsimp only; omega, by dsimp only; omega⟩, by dsimp only; omega⟩
  · rw [brn hc]
    exact .inr ⟨_, rfl, by dsimp only; omega⟩
end
theorem step2 : @i_System_digestText_2_s = @i_System_digestText_1_s := rfl
theorem step3 : @i_System_digestText_3_s = @i_System_digestText_1_s := rfl
theorem text_ok {s : System} (hA : s.A.length ≤ 200) (hB : s.B.length ≤ 200) (hC : s.C.length ≤ 200) : ∃ l, i_System_digestText s = some l ∧ l.length = 21 + 6 * (s.A.length + s.B.length + s.C.length) := by
  unfold i_System_digestText i_System_matrices
  rw [br_of (fits_of (by simp only [List.length_append, List.length_cons, List.length_nil]; omega))]
  simp only [Option.bind_some]
  rw [step2, step3]
  obtain ⟨r, hr, hr2⟩ := four_ok (n := ((s.A.length : Nat) : Int)) (l := [115, 121, 115, 116, 101, 109] ++ [UInt8.ofInt s.Rows, UInt8.ofInt s.Cols, UInt8.ofInt s.Publics]) (by simp)
  simp only [List.length_append, List.length_cons, List.length_nil] at hr2
  rw [hr]
  simp only [Option.bind_some]
  obtain ⟨e, he, he2⟩ := text1 (a := s.A) (l := r) (p := [UInt8.ofInt s.Rows, UInt8.ofInt s.Cols, UInt8.ofInt s.Publics]) (t := s.A) (t2 := s.B) (t3 := s.C) (t4 := 0) (c := s.Rows) (c2 := s.Cols) (c3 := s.Publics) (c4 := s.A) (c5 := s.B) (c6 := s.C) (by omega) (by omega)
  rw [he]
  simp only [Option.bind_some]
  obtain ⟨r2, hq, hq2⟩ := four_ok (n := ((s.B.length : Nat) : Int)) (l := e.1) (by omega)
  rw [hq]
  simp only [Option.bind_some]
  obtain ⟨f, hf, hf2⟩ := text1 (a := s.B) (l := r2) (p := [UInt8.ofInt s.Rows, UInt8.ofInt s.Cols, UInt8.ofInt s.Publics]) (t := s.A) (t2 := s.B) (t3 := s.C) (t4 := 1) (c := s.Rows) (c2 := s.Cols) (c3 := s.Publics) (c4 := s.A) (c5 := s.B) (c6 := s.C) (by omega) (by omega)
  rw [hf]
  simp only [Option.bind_some]
  obtain ⟨r3, hg, hg2⟩ := four_ok (n := ((s.C.length : Nat) : Int)) (l := f.1) (by omega)
  rw [hg]
  simp only [Option.bind_some]
  obtain ⟨g, hh, hh2⟩ := text1 (a := s.C) (l := r3) (p := [UInt8.ofInt s.Rows, UInt8.ofInt s.Cols, UInt8.ofInt s.Publics]) (t := s.A) (t2 := s.B) (t3 := s.C) (t4 := 2) (c := s.Rows) (c2 := s.Cols) (c3 := s.Publics) (c4 := s.A) (c5 := s.B) (c6 := s.C) (by omega) (by omega)
  rw [hh]
  exact ⟨_, rfl, by omega⟩

theorem calls_eq {n : Int} (h0 : 0 ≤ n) (h1 : n ≤ 1048576) : i_callsFor n = some (n / 136 + 1) := by
  unfold i_callsFor
  rw [tdiv_nn _ _ h0, wrap_i64 (n / 136) (by omega) (by omega), wrap_i64 _ (by omega) (by omega)]
theorem s_calls_eq {n : Int} (h0 : 0 ≤ n) (h1 : n ≤ 1048576) : s_l15Calls n = some (n / 136 + 1) := calls_eq h0 h1
theorem w1_eq {n : Int} (h0 : 0 ≤ n) (h1 : n ≤ 100000) : i_workOf_1 n = some ((42 + n) / 136 + 1) := by
  unfold i_workOf_1
  rw [wrap_i64 _ (by omega) (by omega), calls_eq (by omega) (by omega)]; rfl
theorem w2_eq {n : Int} (h0 : 0 ≤ n) (h1 : n ≤ 100000) : i_workOf_2 n = some n := by
  unfold i_workOf_2
  rw [calls_eq (by omega) (by omega)]
  simp only [Option.bind_some]
  rw [show ((40 : Int) / 136 + 1) = 1 by decide, Int.mul_one, wrap_i64 _ (by omega) (by omega)]
/-- What a folding's hashes are. -/
theorem loop_ok {v a b c : Int} {x : List Entry} {y z : List Entry} {r q g w : Int} (hv : 0 ≤ v ∧ v ≤ 10) (hr : 0 ≤ r ∧ r ≤ 10) (hq : 0 ≤ q ∧ q ≤ 10) (hw : 0 ≤ w ∧ w ≤ 1000000) :
    ∃ e, Loop (s_WorkOf_1_s v a b c x y z r q g) (w, (0 : Int)) = some e ∧ w ≤ e.1 ∧ e.1 ≤ w + 10000 := by
  refine Loop_inv (step := s_WorkOf_1_s v a b c x y z r q g) (fun s => 0 ≤ s.2 ∧ s.2 ≤ v ∧ w ≤ s.1 ∧ s.1 ≤ w + 1000 * s.2) (fun s => (v - s.2).toNat) (fun e => w ≤ e.1 ∧ e.1 ≤ w + 10000) ?_ (w, (0 : Int)) ⟨by dsimp only; omega, by dsimp only; omega, by dsimp only; omega, by dsimp only; omega⟩
  rintro ⟨s, j⟩ ⟨h0, h1, h2, h3⟩
  dsimp only at h0 h1 h2 h3
  simp only [s_WorkOf_1_s]
  by_cases hc : j < v
  · rw [brd hc, s_calls_eq (by omega) (by omega), s_calls_eq (by omega) (by omega)]
    simp only [Option.bind_some]
    rw [show ((17 : Int) / 136 + 1) = 1 by decide, show ((65 : Int) / 136 + 1) = 1 by decide, Int.mul_one]
    rw [wrap_i64 (v + r) (by omega) (by omega), wrap_i64 (v + r - 1) (by omega) (by omega), wrap_i64 (v + r - 1 - j) (by omega) (by omega), wrap_i64 (v + r - 1 - j) (by omega) (by omega), wrap_i64 (1 + (v + r - 1 - j)) (by omega) (by omega)]
    have m0 : 0 ≤ q * (1 + (v + r - 1 - j)) := Int.mul_nonneg hq.1 (by omega)
    have m1 : q * (1 + (v + r - 1 - j)) ≤ 10 * 20 := Int.mul_le_mul hq.2 (by omega) (by omega) (by omega)
    generalize q * (1 + (v + r - 1 - j)) = m at m0 m1 ⊢
    rw [wrap_i64 m (by omega) (by omega), wrap_i64 (s + m) (by omega) (by omega), wrap_i64 (j + 1) (by omega) (by omega)]
    exact .inl ⟨_, rfl, ⟨by dsimp only; omega, by dsimp only; omega, by dsimp only; omega, by dsimp only; omega⟩, by dsimp only; omega⟩
  · rw [brn hc]
    exact .inr ⟨_, rfl, by dsimp only; omega, by dsimp only; omega⟩
theorem stepW (v a b c : Int) (x y z : List Entry) (r q g : Int) : i_workOf_1_s v v a b c x y z r q g = s_WorkOf_1_s v a b c x y z r q g := rfl
def base (s : System) (t : Setting) : Int := ((21 + 6 * ((s.A.length : Int) + s.B.length + s.C.length)) / 136 + 1) + ((77 + 4 * s.Publics) / 136 + 1) + 1 + (s.Rows + s.Rows * 2) + (1 + 3 + s.Cols * 2 + 1) + ((s.Cols - 1) * 2 + (s.Cols - 2) + 1) + (2 + t.Queries)

theorem iw_eq {s : System} {t : Setting} (h1 : 1 ≤ s.Rows ∧ s.Rows ≤ 5) (h2 : 2 ≤ s.Cols ∧ s.Cols ≤ 5) (h3 : 0 ≤ s.Publics ∧ s.Publics ≤ 4096) (hA : s.A.length ≤ 200) (hB : s.B.length ≤ 200) (hC : s.C.length ≤ 200) (h4 : 1 ≤ t.Queries ∧ t.Queries ≤ 8) :
    i_workOf s t = (Loop (s_WorkOf_1_s (s.Cols - 1) s.Rows s.Cols s.Publics s.A s.B s.C t.Rate t.Queries t.Grind) (base s t, (0 : Int))).bind fun e => some e.1 := by
  unfold i_workOf
  obtain ⟨l, hl, hl2⟩ := text_ok hA hB hC
  rw [hl]
  simp (disch := omega) only [Option.bind_some, wrap_i64, w1_eq, w2_eq, calls_eq, stepW]
  rw [hl2]
  have e6 : (42 + 32 : Int) / 136 + 1 = 1 := by decide
  have e7 : (42 + 24 : Int) / 136 + 1 = 1 := by decide
  have e8 : (42 + 8 : Int) / 136 + 1 = 1 := by decide
  have e9 : (42 + 4 : Int) / 136 + 1 = 1 := by decide
  have e10 : (41 : Int) / 136 + 1 = 1 := by decide
  simp only [e6, e7, e8, e9, e10, Int.mul_one]
  congr 3
  unfold base
  omega
theorem c74 : s_l15Calls 74 = some 1 := s_calls_eq (by omega) (by omega)
theorem c66 : s_l15Calls 66 = some 1 := s_calls_eq (by omega) (by omega)
theorem c50 : s_l15Calls 50 = some 1 := s_calls_eq (by omega) (by omega)
theorem c46 : s_l15Calls 46 = some 1 := s_calls_eq (by omega) (by omega)
theorem c41 : s_l15Calls 41 = some 1 := s_calls_eq (by omega) (by omega)
theorem c40 : s_l15Calls 40 = some 1 := s_calls_eq (by omega) (by omega)
theorem w11 : IntKind.wrap .i64 (1 + 1) = 2 := by decide
theorem sw_eq {s : System} {t : Setting} (hs : sysB s = true) (ht : setB t = true) :
    s_WorkOf s t = (Loop (s_WorkOf_1_s (s.Cols - 1) s.Rows s.Cols s.Publics s.A s.B s.C t.Rate t.Queries t.Grind) (base s t, (0 : Int))).bind fun e => some (e.1, (0 : Int)) := by
  obtain ⟨h1, h2, h3, hA, hB, hC⟩ := sysB_in hs
  obtain ⟨_, h4, _⟩ := setB_in ht
  unfold s_WorkOf
  rw [s_SystemOK_eq, s_SettingOK_eq, hs, ht]
  clear hs ht
  simp only [Option.bind_some, Bool.not_true, br_false, c74, c66, c50, c46, c41, c40, w11, Int.mul_one]
  rw [wrap_i64 ((s.A.length : Int) + s.B.length) (by omega) (by omega), wrap_i64 ((s.A.length : Int) + s.B.length + s.C.length) (by omega) (by omega), wrap_i64 (6 * ((s.A.length : Int) + s.B.length + s.C.length)) (by omega) (by omega), wrap_i64 (21 + 6 * ((s.A.length : Int) + s.B.length + s.C.length)) (by omega) (by omega), s_calls_eq (by omega) (by omega),
    wrap_i64 (4 * s.Publics) (by omega) (by omega), wrap_i64 (77 + 4 * s.Publics) (by omega) (by omega)]
  simp only [Option.bind_some]
  rw [s_calls_eq (by omega) (by omega)]
  simp only [Option.bind_some]
  rw [wrap_i64 (s.Cols - 1) (by omega) (by omega)]
  generalize hp : (21 + 6 * ((s.A.length : Int) + s.B.length + s.C.length)) / 136 + 1 = p
  generalize hq : (77 + 4 * s.Publics) / 136 + 1 = q
  have hp1 : 0 ≤ p ∧ p ≤ 1000 := by omega
  have hq1 : 0 ≤ q ∧ q ≤ 1000 := by omega
  unfold base
  rw [hp, hq]
  clear hp hq h3 hA hB hC
  simp (disch := omega) only [wrap_i64]
  refine congrArg (fun w => (Loop (s_WorkOf_1_s (s.Cols - 1) s.Rows s.Cols s.Publics s.A s.B s.C t.Rate t.Queries t.Grind) (w, (0 : Int))).bind fun e => some (e.1, (0 : Int))) ?_
  omega
theorem work_eq {s : System} (hA : s.A.length ≤ 1048576) (hB : s.B.length ≤ 1048576) (hC : s.C.length ≤ 1048576) (t : Setting) : ∃ r, i_WorkOf s t = some r ∧ s_WorkOf s t = some r := by
  cases hs : sysB s
  · unfold i_WorkOf s_WorkOf
    rw [i_SystemOK_eq (by omega) (by omega) (by omega), s_SystemOK_eq, hs]
    exact ⟨_, rfl, rfl⟩
  cases ht : setB t
  · unfold i_WorkOf s_WorkOf
    rw [i_SystemOK_eq (by omega) (by omega) (by omega), s_SystemOK_eq, i_SettingOK_eq, s_SettingOK_eq, hs, ht]
    exact ⟨_, rfl, rfl⟩
  obtain ⟨h1, h2, h3, lA, lB, lC⟩ := sysB_in hs
  obtain ⟨h5, h4, _⟩ := setB_in ht
  rw [sw_eq hs ht]
  unfold i_WorkOf
  rw [i_SystemOK_eq (by omega) (by omega) (by omega), i_SettingOK_eq, hs, ht]
  simp only [Option.bind_some, Bool.not_true, br_false]
  rw [iw_eq h1 h2 h3 lA lB lC h4]
  obtain ⟨e, he, _⟩ := loop_ok (v := s.Cols - 1) (a := s.Rows) (b := s.Cols) (c := s.Publics) (x := s.A) (y := s.B) (z := s.C) (r := t.Rate) (q := t.Queries) (g := t.Grind) (w := base s t) (by omega) (by omega) (by omega) (by unfold base; omega)
  rw [he]
  exact ⟨_, rfl, rfl⟩
theorem lawWork {s : System} {t : Setting} (hA : s.A.length ≤ 9223372036854775807) (hB : s.B.length ≤ 9223372036854775807) (hC : s.C.length ≤ 9223372036854775807) : w_FnExactWorkOf s t = some true := by
  unfold w_FnExactWorkOf
  obtain ⟨r, hr, hl⟩ := szS_eq hA hB hC
  rw [hr]
  simp only [Option.bind_some]
  by_cases c : r < 0
  · rw [brd c]
  rw [brn c]
  obtain ⟨lA, lB, lC⟩ := hl (by omega)
  obtain ⟨p, hi, hs⟩ := work_eq lA lB lC t
  rw [toS_eq lA lB lC]
  simp only [Option.bind_some, w_toSetting]
  rw [hi, hs]
  simp only [Option.bind_some]
  rw [brbe rfl, brbe rfl, eqS_eq lA lB lC]; rfl
end Go.AI.Fn
