/- Elements: lists of them, their bytes, their sums and products: program and reference are the same function. -/
import Derived.Test.YthjmakpfalhadaaPuS
import Derived.KernelRfl
set_option linter.unusedVariables false
namespace Go.AI.Fn

theorem at_ok {a : List UInt8} {i n : Int} (hl : a.length ≤ 1048576) (hi0 : 0 ≤ i) (hi1 : i ≤ 1099511627776) (hn : 1 < n) : ∃ x, w_at a i n = some x ∧ 0 ≤ x ∧ x < n := by
  unfold w_at
  rw [brn (by omega)]
  by_cases c : ((a.length : Nat) : Int) = 0
  · rw [bre c, brd (by omega), wrap_i64 _ (by omega) (by omega), tmod_nn _ _ (by omega)]
    exact ⟨_, rfl, Int.emod_nonneg _ (by omega), Int.emod_lt_of_pos _ (by omega)⟩
  · rw [brne c, brd c, tmod_nn _ _ hi0]
    have h1 := Int.emod_nonneg i c
    have h2 := Int.emod_lt_of_pos i (b := (a.length : Int)) (by omega)
    obtain ⟨x, hx, _, _⟩ := atL_of (l := a) h1 h2
    have h3 := Int.emod_nonneg (i + 1) c
    have h4 := Int.emod_lt_of_pos (i + 1) (b := (a.length : Int)) (by omega)
    obtain ⟨y, hy, _, _⟩ := atL_of (l := a) h3 h4
    have bx := u8_lt x
    have bz := u8_lt y
    have h5 : 0 ≤ i / (a.length : Int) := Int.ediv_nonneg hi0 (by omega)
    have h6 : i / (a.length : Int) ≤ i := Int.ediv_le_self _ hi0
    rw [hx]
    simp only [Option.bind_some]
    rw [brd c, wrap_i64 (i + 1) (by omega) (by omega), tmod_nn _ _ (by omega), hy]
    simp only [Option.bind_some]
    rw [brd c, brd (by omega), tdiv_nn _ _ hi0]
    generalize i / ((a.length : Nat) : Int) = q at h5 h6 ⊢
    rw [wrap_i64 q (by omega) (by omega), wrap_i64 (x.toNat : Int) (by omega) (by omega), wrap_i64 (y.toNat : Int) (by omega) (by omega), wrap_i64 ((x.toNat : Int) * 31) (by omega) (by omega), wrap_i64 ((x.toNat : Int) * 31 + (y.toNat : Int)) (by omega) (by omega), wrap_i64 _ (by omega) (by omega), tmod_nn _ _ (by omega)]
    exact ⟨_, rfl, Int.emod_nonneg _ (by omega), Int.emod_lt_of_pos _ (by omega)⟩

def okFb (a : Int) : Bool := decide (0 ≤ a) && decide (a ≤ 2130706432)
def okEb (x : Ext) : Bool := okFb x.A && okFb x.B
theorem okFb_iff {a : Int} : okFb a = true ↔ okF a := by simp [okFb, okF]
theorem okEb_iff {x : Ext} : okEb x = true ↔ okE x := by simp [okEb, okE, okFb_iff]
theorem i_FieldOK_eq (a : Int) : i_FieldOK a = some (okFb a) := by
  unfold i_FieldOK i_in okFb
  cases h : decide (0 ≤ a) <;> rfl
theorem s_FieldOK_eq (a : Int) : s_FieldOK a = some (okFb a) := by
  unfold s_FieldOK s_l01In okFb
  cases h : decide (0 ≤ a) <;> rfl
theorem i_ExtOK_eq (x : Ext) : i_ExtOK x = some (okEb x) := by
  unfold i_ExtOK okEb
  rw [i_FieldOK_eq, i_FieldOK_eq]
  cases okFb x.A <;> rfl
theorem s_ExtOK_eq (x : Ext) : s_ExtOK x = some (okEb x) := by
  unfold s_ExtOK okEb
  rw [s_FieldOK_eq, s_FieldOK_eq]
  cases okFb x.A <;> rfl

theorem i_are_eq {l : List Ext} (hl : l.length ≤ 1099511627776) : i_are_i_Ext l = some (l.all okEb) := by
  unfold i_are_i_Ext slices_ContainsFunc_Li_Ext_i_Ext slices_IndexFunc_Li_Ext_i_Ext
  have key := Loop_inv (step := slices_IndexFunc_Li_Ext_i_Ext_1_s l ((l.length : Nat) : Int))
    (fun t => 0 ≤ t ∧ t ≤ l.length ∧ (l.drop t.toNat).all okEb = l.all okEb) (fun t => (l.length - t).toNat)
    (fun e => (∃ k, e = .inl k ∧ 0 ≤ k ∧ l.all okEb = false) ∨ (∃ p, e = .inr p ∧ l.all okEb = true)) ?_ 0 ⟨by first | omega | (dsimp only; omega), by first | omega | (dsimp only; omega), rfl⟩
  · obtain ⟨e, he, ⟨k, rfl, h1, h2⟩ | ⟨p, rfl, h2⟩⟩ := key
    · rw [he]
      simp only [Option.bind_some, alt_inl]
      rw [h2, decide_eq_true (show k ≥ 0 from h1)]; rfl
    · rw [he, h2]; rfl
  · intro t ⟨h0, h1, h2⟩
    by_cases c : t < (l.length : Int)
    · obtain ⟨x, r, e1, e2, e3⟩ := drop_cons (l := l) (i := t.toNat) (by omega)
      simp only [slices_IndexFunc_Li_Ext_i_Ext_1_s]
      rw [brd c, atL_drop h0 e1]
      simp only [Option.bind_some, i_are_i_Ext_1, i_ExtOK_eq]
      rw [e1, List.all_cons] at h2
      cases hx : okEb x
      · right
        rw [hx] at h2
        exact ⟨_, rfl, .inl ⟨_, rfl, h0, h2.symm⟩⟩
      · left
        rw [hx, Bool.true_and] at h2
        rw [wrap_i64 (t + 1) (by omega) (by omega)]
        refine ⟨_, rfl, ⟨by first | omega | (dsimp only; omega), by first | omega | (dsimp only; omega), ?_⟩, by first | omega | (dsimp only; omega)⟩
        rw [show (t + 1).toNat = t.toNat + 1 by omega, e2]; exact h2
    · right
      simp only [slices_IndexFunc_Li_Ext_i_Ext_1_s]
      rw [brn c]
      refine ⟨_, rfl, .inr ⟨_, rfl, ?_⟩⟩
      rw [← h2, List.drop_eq_nil_of_le (by omega)]; rfl

theorem s_list_eq {l : List Ext} (hl : l.length ≤ 1099511627776) : s_l02List l = some (l.all okEb) := by
  unfold s_l02List
  have key := Loop_inv (step := s_l02List_1_s l)
    (fun t => 0 ≤ t ∧ t ≤ l.length ∧ (l.drop t.toNat).all okEb = l.all okEb) (fun t => (l.length - t).toNat)
    (fun e => (∃ k, e = .inl k ∧ l.all okEb = false) ∨ (∃ p, e = .inr p ∧ l.all okEb = true)) ?_ 0 ⟨by first | omega | (dsimp only; omega), by first | omega | (dsimp only; omega), rfl⟩
  · obtain ⟨e, he, ⟨k, rfl, h2⟩ | ⟨p, rfl, h2⟩⟩ := key <;> rw [he, h2] <;> rfl
  · intro t ⟨h0, h1, h2⟩
    by_cases c : t < (l.length : Int)
    · obtain ⟨x, r, e1, e2, e3⟩ := drop_cons (l := l) (i := t.toNat) (by omega)
      simp only [s_l02List_1_s]
      rw [brd c, atL_drop h0 e1]
      simp only [Option.bind_some, s_ExtOK_eq]
      rw [e1, List.all_cons] at h2
      cases hx : okEb x
      · right
        rw [hx] at h2
        exact ⟨_, rfl, .inl ⟨_, rfl, h2.symm⟩⟩
      · left
        rw [hx, Bool.true_and] at h2
        rw [wrap_i64 (t + 1) (by omega) (by omega)]
        refine ⟨_, rfl, ⟨by first | omega | (dsimp only; omega), by first | omega | (dsimp only; omega), ?_⟩, by first | omega | (dsimp only; omega)⟩
        rw [show (t + 1).toNat = t.toNat + 1 by omega, e2]; exact h2
    · right
      simp only [s_l02List_1_s]
      rw [brn c]
      refine ⟨_, rfl, .inr ⟨_, rfl, ?_⟩⟩
      rw [← h2, List.drop_eq_nil_of_le (by omega)]; rfl

def four (n : Int) : List UInt8 := [UInt8.ofInt (shr64 .i64 n 24), UInt8.ofInt (shr64 .i64 n 16), UInt8.ofInt (shr64 .i64 n 8), UInt8.ofInt n]
def e8 (x : Ext) : List UInt8 := four x.A ++ four x.B
theorem four_len (n : Int) : (four n).length = 4 := rfl
theorem e8_len (x : Ext) : (e8 x).length = 8 := rfl
theorem i_four_eq {n : Int} {l : List UInt8} (h : l.length ≤ 1099511627770) : i_four n l = some (l ++ four n) := by
  unfold i_four
  rw [br_of (fits_of (by simp only [List.length_append, List.length_cons, List.length_nil]; omega))]; rfl
theorem shr0 (n : Int) : shr64 .i64 n 0 = n := by simp [shr64]
theorem number4 (n : Int) : s_l02Number n 4 = some (four n) := by
  unfold s_l02Number
  rw [show IntKind.wrap .i64 (4 - 1) = 3 by decide,
    Loop_inl (s' := ([UInt8.ofInt (shr64 .i64 n 24)], 2)) (by kernel_rfl),
    Loop_inl (s' := ([UInt8.ofInt (shr64 .i64 n 24), UInt8.ofInt (shr64 .i64 n 16)], 1)) (by kernel_rfl),
    Loop_inl (s' := ([UInt8.ofInt (shr64 .i64 n 24), UInt8.ofInt (shr64 .i64 n 16), UInt8.ofInt (shr64 .i64 n 8)], 0)) (by kernel_rfl),
    Loop_inl (s' := ([UInt8.ofInt (shr64 .i64 n 24), UInt8.ofInt (shr64 .i64 n 16), UInt8.ofInt (shr64 .i64 n 8), UInt8.ofInt (shr64 .i64 n 0)], -1)) (by kernel_rfl),
    Loop_inr (e := ([UInt8.ofInt (shr64 .i64 n 24), UInt8.ofInt (shr64 .i64 n 16), UInt8.ofInt (shr64 .i64 n 8), UInt8.ofInt (shr64 .i64 n 0)], -1, false)) (by kernel_rfl), shr0]
  rfl

theorem i_extBytes_eq {l : List Ext} (hl : l.length ≤ 4194304) : i_extBytes l = some (l.flatMap e8) := by
  unfold i_extBytes
  have key := Loop_inv (step := i_extBytes_1_s l ((l.length : Nat) : Int))
    (fun s => 0 ≤ s.2 ∧ s.2 ≤ l.length ∧ (s.1.length : Int) = 8 * s.2 ∧ s.1 ++ (l.drop s.2.toNat).flatMap e8 = l.flatMap e8) (fun s => (l.length - s.2).toNat)
    (fun e => e.1 = l.flatMap e8) ?_ ([], 0) ⟨by first | omega | (dsimp only; omega), by first | omega | (dsimp only; omega), by simp, rfl⟩
  · obtain ⟨e, he, h⟩ := key
    rw [he]; simp only [Option.bind_some, h]
  · rintro ⟨o, t⟩ ⟨h0, h1, h3, h2⟩
    dsimp only at h0 h1 h2 h3
    by_cases c : t < (l.length : Int)
    · left
      obtain ⟨x, r, e1, e2, e3⟩ := drop_cons (l := l) (i := t.toNat) (by omega)
      simp only [i_extBytes_1_s]
      rw [brd c, atL_drop h0 e1]
      simp only [Option.bind_some]
      rw [i_four_eq (by omega)]
      simp only [Option.bind_some]
      rw [i_four_eq (by simp only [List.length_append, four_len]; omega), wrap_i64 (t + 1) (by omega) (by omega)]
      refine ⟨_, rfl, ⟨by first | omega | (dsimp only; omega), by first | omega | (dsimp only; omega), ?_, ?_⟩, by first | omega | (dsimp only; omega)⟩
      · simp only [List.length_append, four_len]; omega
      · dsimp only
        rw [show (t + 1).toNat = t.toNat + 1 by omega, e2]
        rw [e1, List.flatMap_cons] at h2
        simpa [e8] using h2
    · right
      simp only [i_extBytes_1_s]
      rw [brn c]
      refine ⟨_, rfl, ?_⟩
      rw [List.drop_eq_nil_of_le (by omega)] at h2
      simpa using h2

theorem s_bytes_eq {l : List Ext} (hl : l.length ≤ 4194304) : s_l02Bytes l = some (l.flatMap e8) := by
  unfold s_l02Bytes
  have key := Loop_inv (step := s_l02Bytes_1_s l)
    (fun s => 0 ≤ s.2 ∧ s.2 ≤ l.length ∧ (s.1.length : Int) = 8 * s.2 ∧ s.1 ++ (l.drop s.2.toNat).flatMap e8 = l.flatMap e8) (fun s => (l.length - s.2).toNat)
    (fun e => e.1 = l.flatMap e8) ?_ ([], 0) ⟨by first | omega | (dsimp only; omega), by first | omega | (dsimp only; omega), by simp, rfl⟩
  · obtain ⟨e, he, h⟩ := key
    rw [he]; simp only [Option.bind_some, h]
  · rintro ⟨o, t⟩ ⟨h0, h1, h3, h2⟩
    dsimp only at h0 h1 h2 h3
    by_cases c : t < (l.length : Int)
    · left
      obtain ⟨x, r, e1, e2, e3⟩ := drop_cons (l := l) (i := t.toNat) (by omega)
      simp only [s_l02Bytes_1_s]
      rw [brd c, atL_drop h0 e1]
      simp only [Option.bind_some, number4]
      rw [br_of (fits_of (by simp only [List.length_append, four_len]; omega)), br_of (fits_of (by simp only [List.length_append, four_len]; omega)), wrap_i64 (t + 1) (by omega) (by omega)]
      refine ⟨_, rfl, ⟨by first | omega | (dsimp only; omega), by first | omega | (dsimp only; omega), ?_, ?_⟩, by first | omega | (dsimp only; omega)⟩
      · simp only [List.length_append, four_len]; omega
      · dsimp only
        rw [show (t + 1).toNat = t.toNat + 1 by omega, e2]
        rw [e1, List.flatMap_cons] at h2
        simpa [e8] using h2
    · right
      simp only [s_l02Bytes_1_s]
      rw [brn c]
      refine ⟨_, rfl, ?_⟩
      rw [List.drop_eq_nil_of_le (by omega)] at h2
      simpa using h2

def bytesE (l : List Ext) : List UInt8 × Int := if l.length > 4096 then ([], 2) else if l.all okEb then (l.flatMap e8, 0) else ([], 1)
theorem i_ExtBytes_eq (l : List Ext) : i_ExtBytes l = some (bytesE l) := by
  unfold i_ExtBytes bytesE
  by_cases c : l.length > 4096
  · rw [brd (by omega), if_pos c]
  · rw [brn (by omega), if_neg c, i_are_eq (by omega), i_extBytes_eq (by omega)]
    cases l.all okEb <;> rfl
theorem s_ExtBytes_eq (l : List Ext) : s_ExtBytes l = some (bytesE l) := by
  unfold s_ExtBytes bytesE
  by_cases c : l.length > 4096
  · rw [brd (by omega), if_pos c]
  · rw [brn (by omega), if_neg c, s_list_eq (by omega), s_bytes_eq (by omega)]
    cases l.all okEb <;> rfl
end Go.AI.Fn
