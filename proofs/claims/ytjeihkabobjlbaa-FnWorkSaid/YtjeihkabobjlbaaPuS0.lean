/- The source of choices: every draw succeeds and keeps its bounds. -/
import Derived.Test.YtjeihkabobjlbaaPu0
import Derived.Test.YtjeihkabobjlbaaFnAll
set_option linter.unusedVariables false
namespace Go.AI.Fn

structure Src (B : Int) (m : l00Src) : Prop where
  at0 : 0 ≤ m.at_
  at1 : m.at_ ≤ B
  sd0 : 0 ≤ m.seed
  sd1 : m.seed < 2147483648
  len : m.code.length ≤ 1048576
theorem Src.mono {B C : Int} {m : l00Src} (h : Src B m) (hc : B ≤ C) : Src C m := ⟨h.at0, by have := h.at1; omega, h.sd0, h.sd1, h.len⟩
abbrev Big : Int := 4611686018427387904

theorem source_ok {code : List UInt8} (h : code.length ≤ 1048576) : ∃ m, s_l00Source code = some m ∧ Src 0 m := by
  refine ⟨_, rfl, ?_⟩
  have : (((code.length : Nat) : Int).tmod (1000 : Int)) = (code.length : Int) % 1000 := tmod_nn _ _ (by omega)
  constructor <;> dsimp only <;> omega

theorem byte_ok {B : Int} {m : l00Src} (h : Src B m) (hB : B < Big) : ∃ x m', s_l00Src_byte m = some (x, m') ∧ 0 ≤ x ∧ x < 256 ∧ Src (B + 1) m' := by
  obtain ⟨h1, h2, h3, h4, h5⟩ := h
  rcases m with ⟨code, at_, seed⟩
  dsimp only at h1 h2 h3 h4 h5
  unfold s_l00Src_byte
  dsimp only
  simp only [Big] at hB
  rw [wrap_i64 (at_ + 1) (by omega) (by omega)]
  by_cases c : at_ + 1 ≤ ((code.length : Nat) : Int)
  · rw [brd c, wrap_i64 (at_ + 1 - 1) (by omega) (by omega)]
    obtain ⟨x, hx, _, _⟩ := atL_of (l := code) (i := at_ + 1 - 1) (by omega) (by omega)
    have := u8_lt x
    rw [hx]
    simp only [Option.bind_some]
    rw [wrap_i64 (x.toNat : Int) (by omega) (by omega), wrap_i64 (seed * 31) (by omega) (by omega), wrap_i64 (seed * 31 + (x.toNat : Int)) (by omega) (by omega), wrap_i64 _ (by omega) (by omega), tmod_nn _ _ (by omega)]
    refine ⟨_, _, rfl, by omega, by omega, ?_⟩
    constructor <;> dsimp only <;> omega
  · rw [brn c]
    by_cases c2 : at_ + 1 > 3000
    · rw [brd c2]
      refine ⟨_, _, rfl, by omega, by omega, ?_⟩
      constructor <;> dsimp only <;> omega
    · rw [brn c2, wrap_i64 (seed * 1103515245) (by omega) (by omega), wrap_i64 (seed * 1103515245 + 12345) (by omega) (by omega), tmod_nn (seed * 1103515245 + 12345) _ (by omega), tdiv_nn _ _ (by omega), wrap_i64 _ (by omega) (by omega), tmod_nn _ _ (by omega)]
      refine ⟨_, _, rfl, by omega, by omega, ?_⟩
      constructor <;> dsimp only <;> omega

theorem next_ok {B n : Int} {m : l00Src} (h : Src B m) (hB : B + 3 < Big) : ∃ x m', s_l00Src_next n m = some (x, m') ∧ 0 ≤ x ∧ (1 < n → x < n) ∧ (n ≤ 1 → x = 0) ∧ Src (B + 3) m' := by
  unfold s_l00Src_next
  by_cases c : n ≤ 1
  · rw [brd c]; exact ⟨_, _, rfl, by omega, by omega, fun _ => rfl, h.mono (by omega)⟩
  · rw [brn c]
    by_cases c2 : n ≤ 256
    · rw [brd c2]
      obtain ⟨x, m1, e1, x0, x1, s1⟩ := byte_ok h (by omega)
      rw [e1]
      simp only [Option.bind_some]
      rw [brd (by omega), tmod_nn _ _ x0]
      exact ⟨_, _, rfl, Int.emod_nonneg _ (by omega), fun _ => Int.emod_lt_of_pos _ (by omega), by omega, s1.mono (by omega)⟩
    · rw [brn c2]
      obtain ⟨x, m1, e1, x0, x1, s1⟩ := byte_ok h (by omega)
      obtain ⟨y, m2, e2, y0, y1, s2⟩ := byte_ok s1 (by omega)
      obtain ⟨z, m3, e3, z0, z1, s3⟩ := byte_ok s2 (by omega)
      rw [e1]
      simp only [Option.bind_some]
      rw [e2]
      simp only [Option.bind_some]
      rw [e3]
      simp only [Option.bind_some]
      rw [brd (by omega), wrap_i64 (x * 65536) (by omega) (by omega), wrap_i64 (y * 256) (by omega) (by omega), wrap_i64 (x * 65536 + y * 256) (by omega) (by omega), wrap_i64 _ (by omega) (by omega), tmod_nn _ _ (by omega)]
      exact ⟨_, _, rfl, Int.emod_nonneg _ (by omega), fun _ => Int.emod_lt_of_pos _ (by omega), by omega, s3.mono (by omega)⟩

theorem chance_ok {B n : Int} {m : l00Src} (h : Src B m) (hB : B + 3 < Big) : ∃ x m', s_l00Src_chance n m = some (x, m') ∧ Src (B + 3) m' := by
  unfold s_l00Src_chance
  obtain ⟨x, m1, e1, _, _, _, s1⟩ := next_ok (n := n) h hB
  rw [e1]
  exact ⟨_, _, rfl, s1⟩

def okF (x : Int) : Prop := 0 ≤ x ∧ x ≤ 2130706432
theorem field_ok {B : Int} {m : l00Src} (h : Src B m) (hB : B + 18 < Big) : ∃ x m', s_l00Src_field m = some (x, m') ∧ okF x ∧ Src (B + 18) m' := by
  unfold s_l00Src_field
  obtain ⟨x, m1, e1, x0, x1, _, s1⟩ := next_ok (n := 5) h (by omega)
  have := x1 (by omega)
  rw [e1]
  simp only [Option.bind_some]
  by_cases c : x = 0
  · rw [bre c]
    obtain ⟨y, m2, e2, y0, y1, _, s2⟩ := next_ok (n := 4) s1 (by omega)
    have := y1 (by omega)
    rw [e2]
    exact ⟨_, _, rfl, ⟨by omega, by omega⟩, s2.mono (by omega)⟩
  · rw [brne c]
    by_cases c2 : x = 1
    · rw [bre c2]
      obtain ⟨y, m2, e2, y0, y1, _, s2⟩ := next_ok (n := 3) s1 (by omega)
      have := y1 (by omega)
      rw [e2]
      refine ⟨_, _, rfl, ⟨?_, ?_⟩, s2.mono (by omega)⟩ <;> rw [wrap_i64 _ (by omega) (by omega)] <;> omega
    · rw [brne c2]
      have key := Loop_inv (step := s_l00Src_field_1_s)
        (fun s => okF s.1 ∧ 0 ≤ s.2.1 ∧ s.2.1 ≤ 5 ∧ Src (B + 3 + 3 * s.2.1) ⟨s.2.2.1, s.2.2.2.1, s.2.2.2.2⟩) (fun s => (5 - s.2.1).toNat)
        (fun e => okF e.1 ∧ Src (B + 18) ⟨e.2.2.2.1, e.2.2.2.2.1, e.2.2.2.2.2⟩) ?_ ((0 : Int), (0 : Int), m1.code, m1.at_, m1.seed) ⟨⟨by first | omega | (dsimp only; omega), by first | omega | (dsimp only; omega)⟩, by first | omega | (dsimp only; omega), by first | omega | (dsimp only; omega), s1.mono (by first | omega | (dsimp only; omega))⟩
      · obtain ⟨e, he, h1, h2⟩ := key
        rw [he]
        exact ⟨_, _, rfl, h1, h2⟩
      · rintro ⟨n, i, c, c2, c3⟩ ⟨⟨n0, n1⟩, i0, i1, hs⟩
        dsimp only at n0 n1 i0 i1 hs
        by_cases hi : i < 5
        · left
          obtain ⟨y, m2, e2, y0, y1, _, s2⟩ := next_ok (n := 256) hs (by omega)
          have := y1 (by omega)
          simp only [s_l00Src_field_1_s]
          rw [brd hi, e2]
          simp only [Option.bind_some]
          rw [wrap_i64 (n * 256) (by omega) (by omega), wrap_i64 (n * 256 + y) (by omega) (by omega), wrap_i64 (i + 1) (by omega) (by omega), tmod_nn _ _ (by omega)]
          refine ⟨_, rfl, ⟨⟨?_, ?_⟩, ?_, ?_, s2.mono ?_⟩, ?_⟩ <;> dsimp only <;> omega
        · right
          simp only [s_l00Src_field_1_s]
          rw [brn hi]
          exact ⟨_, rfl, ⟨n0, n1⟩, hs.mono (by first | omega | (dsimp only; omega))⟩
end Go.AI.Fn
