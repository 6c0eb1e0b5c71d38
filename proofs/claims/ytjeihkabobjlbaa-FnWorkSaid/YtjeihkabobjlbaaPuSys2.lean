/- Systems and settings: both sides hold the same to be one; what the law copies is the same again. -/
import Derived.Test.YtjeihkabobjlbaaPuSys
set_option linter.unusedVariables false
namespace Go.AI.Fn

theorem shl_ok {k : Int} (h : 0 ≤ k ∧ k ≤ 5) : 1 ≤ shl64 .i64 1 k ∧ shl64 .i64 1 k ≤ 4096 := by
  have : k = 0 ∨ k = 1 ∨ k = 2 ∨ k = 3 ∨ k = 4 ∨ k = 5 := by omega
  rcases this with rfl | rfl | rfl | rfl | rfl | rfl <;> decide

noncomputable def sysB (s : System) : Bool :=
  decide (1 ≤ s.Rows ∧ s.Rows ≤ 5) && (decide (2 ≤ s.Cols ∧ s.Cols ≤ 5) && (decide (0 ≤ s.Publics ∧ s.Publics ≤ shl64 .i64 1 (s.Cols - 1) - 1) &&
    (matB s.A (shl64 .i64 1 s.Rows) (shl64 .i64 1 s.Cols) && (matB s.B (shl64 .i64 1 s.Rows) (shl64 .i64 1 s.Cols) && matB s.C (shl64 .i64 1 s.Rows) (shl64 .i64 1 s.Cols)))))
theorem i_SystemOK_eq {s : System} (hA : s.A.length ≤ 1099511627776) (hB : s.B.length ≤ 1099511627776) (hC : s.C.length ≤ 1099511627776) : i_SystemOK s = some (sysB s) := by
  unfold i_SystemOK sysB
  simp only [in_eq, Option.bind_some]
  by_cases h1 : 1 ≤ s.Rows ∧ s.Rows ≤ 5
  · rw [notd h1]
    by_cases h2 : 2 ≤ s.Cols ∧ s.Cols ≤ 5
    · rw [notd h2]
      have k1 := shl_ok (k := s.Rows) (by omega)
      have k2 := shl_ok (k := s.Cols) (by omega)
      have k3 := shl_ok (k := s.Cols - 1) (by omega)
      unfold i_System_half i_System_matrices
      rw [wrap_i64 (s.Cols - 1) (by omega) (by omega), brd (by omega)]
      simp only [Option.bind_some]
      rw [wrap_i64 (shl64 .i64 1 (s.Cols - 1) - 1) (by omega) (by omega)]
      by_cases h3 : 0 ≤ s.Publics ∧ s.Publics ≤ shl64 .i64 1 (s.Cols - 1) - 1
      · rw [notd h3, brd (by omega), brd (by omega), isMatrix_eq hA k1 k2]
        simp only [Option.bind_some]
        rw [decide_eq_true h1, decide_eq_true h2, decide_eq_true h3]
        cases matB s.A (shl64 .i64 1 s.Rows) (shl64 .i64 1 s.Cols)
        · rfl
        · simp only [Bool.not_true, br_false]
          rw [brd (by omega), brd (by omega), isMatrix_eq hB k1 k2]
          simp only [Option.bind_some]
          cases matB s.B (shl64 .i64 1 s.Rows) (shl64 .i64 1 s.Cols)
          · rfl
          · simp only [Bool.not_true, br_false]
            rw [brd (by omega), brd (by omega), isMatrix_eq hC k1 k2]
            simp only [Option.bind_some]
            cases matB s.C (shl64 .i64 1 s.Rows) (shl64 .i64 1 s.Cols) <;> rfl
      · rw [notn h3, decide_eq_true h1, decide_eq_true h2, decide_eq_false h3]; rfl
    · rw [notn h2, decide_eq_true h1, decide_eq_false h2]; rfl
  · rw [notn h1, decide_eq_false h1]; rfl
theorem s_SystemOK_eq (s : System) : s_SystemOK s = some (sysB s) := by
  unfold s_SystemOK sysB
  simp only [s_in_eq, Option.bind_some]
  by_cases h1 : 1 ≤ s.Rows ∧ s.Rows ≤ 5
  · rw [brd h1]
    by_cases h2 : 2 ≤ s.Cols ∧ s.Cols ≤ 5
    · rw [brd h2]
      have k1 := shl_ok (k := s.Rows) (by omega)
      have k2 := shl_ok (k := s.Cols) (by omega)
      have k3 := shl_ok (k := s.Cols - 1) (by omega)
      rw [wrap_i64 (s.Cols - 1) (by omega) (by omega), wrap_u64 (s.Cols - 1) (by omega) (by omega), brd (by omega), wrap_i64 (shl64 .i64 1 (s.Cols - 1) - 1) (by omega) (by omega)]
      by_cases h3 : 0 ≤ s.Publics ∧ s.Publics ≤ shl64 .i64 1 (s.Cols - 1) - 1
      · rw [brd h3, list_eq (by omega) (by omega) rfl rfl k1 k2, list_eq (by omega) (by omega) rfl rfl k1 k2, list_eq (by omega) (by omega) rfl rfl k1 k2]
        rw [decide_eq_true h1, decide_eq_true h2, decide_eq_true h3]
        cases matB s.A (shl64 .i64 1 s.Rows) (shl64 .i64 1 s.Cols) <;> cases matB s.B (shl64 .i64 1 s.Rows) (shl64 .i64 1 s.Cols) <;> cases matB s.C (shl64 .i64 1 s.Rows) (shl64 .i64 1 s.Cols) <;> rfl
      · rw [brn h3, decide_eq_true h1, decide_eq_true h2, decide_eq_false h3]; rfl
    · rw [brn h2, decide_eq_true h1, decide_eq_false h2]; rfl
  · rw [brn h1, decide_eq_false h1]; rfl
theorem sysB_in {s : System} (h : sysB s = true) : (1 ≤ s.Rows ∧ s.Rows ≤ 5) ∧ (2 ≤ s.Cols ∧ s.Cols ≤ 5) ∧ (0 ≤ s.Publics ∧ s.Publics ≤ 4096) ∧ s.A.length ≤ 200 ∧ s.B.length ≤ 200 ∧ s.C.length ≤ 200 := by
  unfold sysB at h
  simp only [Bool.and_eq_true, decide_eq_true_eq] at h
  obtain ⟨h1, h2, h3, h4, h5, h6⟩ := h
  have k3 := shl_ok (k := s.Cols - 1) (by omega)
  exact ⟨h1, h2, by omega, matB_len h4, matB_len h5, matB_len h6⟩

def setB (t : Setting) : Bool := decide (1 ≤ t.Rate ∧ t.Rate ≤ 3) && (decide (1 ≤ t.Queries ∧ t.Queries ≤ 8) && decide (0 ≤ t.Grind ∧ t.Grind ≤ 12))
theorem i_SettingOK_eq (t : Setting) : i_SettingOK t = some (setB t) := by
  unfold i_SettingOK setB
  simp only [in_eq, Option.bind_some]
  cases decide (1 ≤ t.Rate ∧ t.Rate ≤ 3) <;> cases decide (1 ≤ t.Queries ∧ t.Queries ≤ 8) <;> rfl
theorem s_SettingOK_eq (t : Setting) : s_SettingOK t = some (setB t) := by
  unfold s_SettingOK setB
  simp only [s_in_eq, Option.bind_some]
  cases decide (1 ≤ t.Rate ∧ t.Rate ≤ 3) <;> cases decide (1 ≤ t.Queries ∧ t.Queries ≤ 8) <;> rfl
theorem setB_in {t : Setting} (h : setB t = true) : (1 ≤ t.Rate ∧ t.Rate ≤ 3) ∧ (1 ≤ t.Queries ∧ t.Queries ≤ 8) ∧ 0 ≤ t.Grind ∧ t.Grind ≤ 12 := by
  unfold setB at h
  simpa only [Bool.and_eq_true, decide_eq_true_eq] using h

theorem szE_eq {a : List Entry} {left : Int} (ha : a.length ≤ 9223372036854775807) (h0 : -1 ≤ left) (h1 : left ≤ 1048576) : ∃ r, w_szEntryS a left = some r ∧ -1 ≤ r ∧ r ≤ 1048576 ∧ (0 ≤ r → a.length ≤ 1048576) := by
  unfold w_szEntryS
  rw [wrap_i64 _ (by omega) (by omega)]
  by_cases c : left - (a.length : Int) < 0
  · rw [brd c]; exact ⟨_, rfl, by omega, by omega, by omega⟩
  · rw [brn c]; exact ⟨_, rfl, by omega, by omega, by omega⟩
theorem szS_eq {s : System} (hA : s.A.length ≤ 9223372036854775807) (hB : s.B.length ≤ 9223372036854775807) (hC : s.C.length ≤ 9223372036854775807) :
    ∃ r, w_szSystem s 1048576 = some r ∧ (0 ≤ r → s.A.length ≤ 1048576 ∧ s.B.length ≤ 1048576 ∧ s.C.length ≤ 1048576) := by
  unfold w_szSystem
  obtain ⟨a, ea, a0, a1, a2⟩ := szE_eq (left := 1048576) hA (by omega) (by omega)
  rw [ea]
  simp only [Option.bind_some]
  by_cases ca : a < 0
  · rw [brd ca]; exact ⟨_, rfl, by omega⟩
  rw [brn ca]
  obtain ⟨b, eb, b0, b1, b2⟩ := szE_eq (left := a) hB a0 a1
  rw [eb]
  simp only [Option.bind_some]
  by_cases cb : b < 0
  · rw [brd cb]; exact ⟨_, rfl, by omega⟩
  rw [brn cb]
  obtain ⟨c, ec, c0, c1, c2⟩ := szE_eq (left := b) hC b0 b1
  rw [ec]
  simp only [Option.bind_some]
  by_cases cc : c < 0
  · rw [brd cc]; exact ⟨_, rfl, by omega⟩
  rw [brn cc]
  exact ⟨_, rfl, fun _ => ⟨a2 (by omega), b2 (by omega), c2 (by omega)⟩⟩

theorem toE_eq {a : List Entry} (ha : a.length ≤ 1048576) : w_toEntryS a = some a := by
  unfold w_toEntryS
  have hm : mkOK ((a.length : Nat) : Int) ((a.length : Nat) : Int) 24 = true := by
    have h24 : ((a.length : Nat) : Int) * ((24 : Nat) : Int) ≤ ((okBound : Nat) : Int) := by simp only [okBound]; omega
    unfold mkOK; rw [decide_eq_true (show (0 : Int) ≤ ((a.length : Nat) : Int) by omega), decide_eq_true (Int.le_refl _), decide_eq_true h24]; rfl
  rw [br_of hm]
  have key := Loop_inv (step := w_toEntryS_1_s a) (fun s => 0 ≤ s.2 ∧ s.2 ≤ a.length ∧ s.1.length = a.length ∧ ∀ k : Nat, (k : Int) < s.2 → s.1[k]? = a[k]?) (fun s => (a.length - s.2).toNat)
    (fun e => e.1 = a) ?_ ((List.replicate (((a.length : Nat) : Int).toNat) (Entry.mk (0 : Int) (0 : Int) (0 : Int))), (0 : Int)) ⟨by simp, by simp, by simp, fun k (hk : (k : Int) < 0) => by omega⟩
  · obtain ⟨e, he, h⟩ := key
    rw [he]; simp only [Option.bind_some, h]
  · rintro ⟨l, i⟩ ⟨h0, h1, hl, h2⟩
    dsimp only at h0 h1 hl h2
    simp only [w_toEntryS_1_s]
    by_cases c : i < (a.length : Int)
    · obtain ⟨x, rest, e1, e2, e3⟩ := drop_cons (l := a) (i := i.toNat) (by omega)
      obtain ⟨y, rest2, f1, f2, f3⟩ := drop_cons (l := l) (i := i.toNat) (by omega)
      rw [brd c, atL_get h0 e3]
      simp only [Option.bind_some, w_toEntry]
      rw [brd h0, brd (by omega), f3]
      simp only [Option.bind_some]
      rw [wrap_i64 (i + 1) (by omega) (by omega)]
      refine .inl ⟨_, rfl, ⟨by dsimp only; omega, by dsimp only; omega, by simp [hl], fun k hk => ?_⟩, by dsimp only; omega⟩
      dsimp only at hk ⊢
      rw [List.getElem?_set]
      by_cases e : i.toNat = k
      · rw [if_pos e, if_pos (by omega), ← e, e3]
      · rw [if_neg e]; exact h2 k (by omega)
    · rw [brn c]
      refine .inr ⟨_, rfl, ?_⟩
      apply List.ext_getElem?
      intro k
      show l[k]? = a[k]?
      by_cases hk : k < a.length
      · exact h2 k (by omega)
      · rw [List.getElem?_eq_none (by omega), List.getElem?_eq_none (by omega)]
theorem toS_eq {s : System} (hA : s.A.length ≤ 1048576) (hB : s.B.length ≤ 1048576) (hC : s.C.length ≤ 1048576) : w_toSystem s = some s := by
  unfold w_toSystem
  rw [toE_eq hA, toE_eq hB, toE_eq hC]; rfl

theorem eqE_eq {a : List Entry} (ha : a.length ≤ 1048576) : w_eqEntryS a a = some true := by
  unfold w_eqEntryS
  rw [brbe rfl]
  have key := Loop_inv (step := w_eqEntryS_1_s a a) (fun t => 0 ≤ t ∧ t ≤ a.length) (fun t => (a.length - t).toNat) (fun e => ∃ p, e = .inr p) ?_ 0 ⟨by omega, by omega⟩
  · obtain ⟨e, he, p, rfl⟩ := key
    rw [he]; rfl
  · intro t ⟨h0, h1⟩
    simp only [w_eqEntryS_1_s]
    by_cases c : t < (a.length : Int)
    · left
      obtain ⟨x, r, e1, e2, e3⟩ := drop_cons (l := a) (i := t.toNat) (by omega)
      rw [brd c, atL_get h0 e3]
      simp only [Option.bind_some, w_eqEntry]
      rw [brbe rfl, brbe rfl, brbe rfl]
      simp only [Option.bind_some, Bool.not_true, br_false]
      rw [wrap_i64 (t + 1) (by omega) (by omega)]
      exact ⟨_, rfl, ⟨by omega, by omega⟩, by omega⟩
    · right
      rw [brn c]
      exact ⟨_, rfl, _, rfl⟩
theorem eqS_eq {s : System} (hA : s.A.length ≤ 1048576) (hB : s.B.length ≤ 1048576) (hC : s.C.length ≤ 1048576) : w_eqSystem s s = some true := by
  unfold w_eqSystem
  rw [brbe rfl, brbe rfl, brbe rfl, eqE_eq hA, eqE_eq hB, eqE_eq hC]; rfl
end Go.AI.Fn
