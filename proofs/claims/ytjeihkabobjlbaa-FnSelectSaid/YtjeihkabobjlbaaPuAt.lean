/- A choice out of some is one of them. -/
import Derived.Test.YtjeihkabobjlbaaPu0
import Derived.Test.YtjeihkabobjlbaaFnAll
set_option linter.unusedVariables false
namespace Go.AI.Fn
theorem at_ok {a : List UInt8} {i n : Int} (hl : a.length ≤ 1048576) (hi0 : 0 ≤ i) (hi1 : i ≤ 1099511627776) (hn : 1 < n) : ∃ x, w_at a i n = some x ∧ 0 ≤ x ∧ x < n := by
  unfold w_at
  rw [brn (by omega)]
  by_cases c : ((a.length : Nat) : Int) = 0
  · rw [bre c, brd (by omega), wrap_i64 _ (by omega) (by omega), tmod_nn _ _ (by omega)]
    exact ⟨_, rfl, Int.emod_nonneg _ (by omega), Int.emod_lt_of_pos _ (by omega)⟩
  · rw [brne c, brd c, tmod_nn _ _ hi0]
    have h1 := Int.emod_nonneg i c
    have h2 := Int.emod_lt_of_pos i (b := (a.length : Int)) (by omega)
    obtain ⟨x, hx, _, _⟩ := atL_of (l := a) h1 h2
    have h3 := Int.emod_nonneg (i + 1) c
    have h4 := Int.emod_lt_of_pos (i + 1) (b := (a.length : Int)) (by omega)
    obtain ⟨y, hy, _, _⟩ := atL_of (l := a) h3 h4
    have bx := u8_lt x
    have bz := u8_lt y
    have h5 : 0 ≤ i / (a.length : Int) := Int.ediv_nonneg hi0 (by omega)
    have h6 : i / (a.length : Int) ≤ i := Int.ediv_le_self _ hi0
    rw [hx]
    simp only [Option.bind_some]
    rw [brd c, wrap_i64 (i + 1) (by omega) (by omega), tmod_nn _ _ (by omega), hy]
    simp only [Option.bind_some]
    rw [brd c, brd (by omega), tdiv_nn _ _ hi0]
    generalize i / ((a.length : Nat) : Int) = q at h5 h6 ⊢
    rw [wrap_i64 q (by omega) (by omega), wrap_i64 (x.toNat : Int) (by omega) (by omega), wrap_i64 (y.toNat : Int) (by omega) (by omega), wrap_i64 ((x.toNat : Int) * 31) (by omega) (by omega), wrap_i64 ((x.toNat : Int) * 31 + (y.toNat : Int)) (by omega) (by omega), wrap_i64 _ (by omega) (by omega), tmod_nn _ _ (by omega)]
    exact ⟨_, rfl, Int.emod_nonneg _ (by omega), Int.emod_lt_of_pos _ (by omega)⟩
end Go.AI.Fn
