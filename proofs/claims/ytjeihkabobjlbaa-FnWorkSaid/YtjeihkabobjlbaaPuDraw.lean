/- Drawn systems and settings are some. -/
import Derived.Test.YtjeihkabobjlbaaPuS0
import Derived.Test.YtjeihkabobjlbaaPuSys2
set_option linter.unusedVariables false
namespace Go.AI.Fn

theorem srt_add {l : List Entry} {R C : Int} {y : Entry} (h : ∀ k, ¬ badE l R C k) (hy : inE R C y) (hl : ∀ x ∈ l, ltE x y) : ∀ k, ¬ badE (l ++ [y]) R C k := by
  rintro k ⟨x, hx, hb⟩
  by_cases hk : k < l.length
  · rw [List.getElem?_append_left hk] at hx
    rcases hb with hb | ⟨h0, z, hz, hb⟩
    · exact h k ⟨x, hx, .inl hb⟩
    · rw [List.getElem?_append_left (by omega)] at hz
      exact h k ⟨x, hx, .inr ⟨h0, z, hz, hb⟩⟩
  · have hk2 : k = l.length := by
      obtain ⟨h1, _⟩ := List.getElem?_eq_some_iff.1 hx
      rw [List.length_append, List.length_singleton] at h1; omega
    subst hk2
    rw [List.getElem?_append_right (Nat.le_refl _), Nat.sub_self] at hx
    cases hx
    rcases hb with hb | ⟨h0, z, hz, hb⟩
    · exact hb hy
    · rw [List.getElem?_append_left (by omega)] at hz
      exact hb (hl z (List.mem_of_getElem? hz))

theorem mx_ok {v : Int} (h : okF v) : 1 ≤ mx 1 v ∧ mx 1 v ≤ 2130706432 := by
  obtain ⟨h0, h1⟩ := h
  unfold mx
  split <;> omega

theorem inner_ok {R C r c r0 B : Int} (hr : shl64 .i64 1 r = R) (hc : shl64 .i64 1 c = C) (hr' : 0 ≤ r ∧ r ≤ 5) (hc' : 0 ≤ c ∧ c ≤ 5) (hR : 1 ≤ R ∧ R ≤ 8) (hC : 1 ≤ C ∧ C ≤ 8) (h0 : 0 ≤ r0 ∧ r0 < R) (hB : B + 200 < Big)
    {l : List Entry} {m : l00Src} (hs : Src B m) (hl : ∀ k, ¬ badE l R C k) (hm : ∀ x ∈ l, x.Row < r0) (hn : (l.length : Int) ≤ 8 * r0) :
    ∃ e, Loop (s_l00Src_entries_2_s r c r0) (l, (0 : Int), m.code, m.at_, m.seed) = some e ∧ (∀ k, ¬ badE e.1 R C k) ∧ (∀ x ∈ e.1, x.Row < r0 + 1) ∧ (e.1.length : Int) ≤ 8 * (r0 + 1) ∧ Src (B + 200) ⟨e.2.2.2.1, e.2.2.2.2.1, e.2.2.2.2.2⟩ := by
  refine Loop_inv (step := s_l00Src_entries_2_s r c r0)
    (fun s => 0 ≤ s.2.1 ∧ s.2.1 ≤ C ∧ (∀ k, ¬ badE s.1 R C k) ∧ (∀ x ∈ s.1, x.Row < r0 ∨ (x.Row = r0 ∧ x.Col < s.2.1)) ∧ (s.1.length : Int) ≤ 8 * r0 + s.2.1 ∧ Src (B + 21 * s.2.1) ⟨s.2.2.1, s.2.2.2.1, s.2.2.2.2⟩)
    (fun s => (C - s.2.1).toNat) (fun e => (∀ k, ¬ badE e.1 R C k) ∧ (∀ x ∈ e.1, x.Row < r0 + 1) ∧ (e.1.length : Int) ≤ 8 * (r0 + 1) ∧ Src (B + 200) ⟨e.2.2.2.1, e.2.2.2.2.1, e.2.2.2.2.2⟩) ?_ (l, (0 : Int), m.code, m.at_, m.seed)
    ⟨by dsimp only; omega, by dsimp only; omega, hl, fun x hx => .inl (hm x hx), by dsimp only; omega, hs.mono (by dsimp only; omega)⟩
  rintro ⟨l, j, c1, c2, c3⟩ ⟨j0, j1, g1, g2, g3, g4⟩
  dsimp only at j0 j1 g1 g2 g3 g4
  simp only [s_l00Src_entries_2_s]
  rw [wrap_u64 c (by omega) (by omega), brd hc'.1, hc]
  by_cases hj : j < C
  · rw [brd hj]
    obtain ⟨b, m1, e1, s1⟩ := chance_ok (n := 4) g4 (by omega)
    rw [e1]
    simp only [Option.bind_some]
    rw [wrap_i64 (j + 1) (by omega) (by omega)]
    cases b
    · rw [br_false]
      exact .inl ⟨_, rfl, ⟨by dsimp only; omega, by dsimp only; omega, g1, fun x hx => by rcases g2 x hx with h | h; exact .inl h; exact .inr ⟨h.1, by dsimp only; omega⟩, by dsimp only; omega, s1.mono (by dsimp only; omega)⟩, by dsimp only; omega⟩
    · rw [br_true]
      obtain ⟨v, m2, e2, v0, s2⟩ := field_ok s1 (by omega)
      rw [e2]
      simp only [Option.bind_some]
      rw [br_of (fits_of (by simp only [List.length_append, List.length_cons, List.length_nil]; omega))]
      have hmx := mx_ok v0
      refine .inl ⟨_, rfl, ⟨by dsimp only; omega, by dsimp only; omega, ?_, ?_, ?_, s2.mono (by dsimp only; omega)⟩, by dsimp only; omega⟩
      · refine srt_add g1 ⟨⟨by dsimp only; omega, by dsimp only; omega⟩, ⟨by dsimp only; omega, by dsimp only; omega⟩, hmx.1, hmx.2⟩ fun x hx => ?_
        exact g2 x hx
      · intro x hx
        rcases List.mem_append.1 hx with hx | hx
        · rcases g2 x hx with h | h
          · exact .inl h
          · exact .inr ⟨h.1, by dsimp only; omega⟩
        · rw [List.mem_singleton] at hx; subst hx; exact .inr ⟨rfl, by dsimp only; omega⟩
      · simp only [List.length_append, List.length_cons, List.length_nil]; omega
  · rw [brn hj]
    exact .inr ⟨_, rfl, g1, fun x hx => by rcases g2 x hx with h | h <;> omega, by show (l.length : Int) ≤ 8 * (r0 + 1); omega, g4.mono (by omega)⟩
theorem entries_ok {R C r c B : Int} (hr : shl64 .i64 1 r = R) (hc : shl64 .i64 1 c = C) (hr' : 0 ≤ r ∧ r ≤ 5) (hc' : 0 ≤ c ∧ c ≤ 5) (hR : 1 ≤ R ∧ R ≤ 8) (hC : 1 ≤ C ∧ C ≤ 8) {m : l00Src} (hs : Src B m) (hB : B + 2000 < Big) :
    ∃ l m', s_l00Src_entries r c m = some (l, m') ∧ matB l R C = true ∧ Src (B + 1600) m' := by
  unfold s_l00Src_entries
  have key := Loop_inv (step := s_l00Src_entries_1_s r c)
    (fun s => 0 ≤ s.2.1 ∧ s.2.1 ≤ R ∧ (∀ k, ¬ badE s.1 R C k) ∧ (∀ x ∈ s.1, x.Row < s.2.1) ∧ (s.1.length : Int) ≤ 8 * s.2.1 ∧ Src (B + 200 * s.2.1) ⟨s.2.2.1, s.2.2.2.1, s.2.2.2.2⟩)
    (fun s => (R - s.2.1).toNat) (fun e => (∀ k, ¬ badE e.1 R C k) ∧ (e.1.length : Int) ≤ 64 ∧ Src (B + 1600) ⟨e.2.2.2.1, e.2.2.2.2.1, e.2.2.2.2.2⟩) ?_ (([] : List Entry), (0 : Int), m.code, m.at_, m.seed)
    ⟨by dsimp only; omega, by dsimp only; omega, fun k ⟨x, hx, _⟩ => by simp at hx, fun x hx => by simp at hx, by simp, hs.mono (by dsimp only; omega)⟩
  · obtain ⟨e, he, h1, h2, h3⟩ := key
    rw [he]
    exact ⟨_, _, rfl, matB_t (by omega) h1, h3⟩
  rintro ⟨l, j, c1, c2, c3⟩ ⟨j0, j1, g1, g2, g3, g4⟩
  dsimp only at j0 j1 g1 g2 g3 g4
  simp only [s_l00Src_entries_1_s]
  rw [wrap_u64 r (by omega) (by omega), brd hr'.1, hr]
  by_cases hj : j < R
  · rw [brd hj]
    obtain ⟨e, he, k1, k2, k3, k4⟩ := inner_ok (B := B + 200 * j) hr hc hr' hc' hR hC ⟨j0, hj⟩ (by omega) g4 g1 g2 g3
    rw [he]
    simp only [Option.bind_some]
    rw [wrap_i64 (j + 1) (by omega) (by omega)]
    exact .inl ⟨_, rfl, ⟨by dsimp only; omega, by dsimp only; omega, k1, k2, k3, k4.mono (by dsimp only; omega)⟩, by dsimp only; omega⟩
  · rw [brn hj]
    exact .inr ⟨_, rfl, g1, by show (l.length : Int) ≤ 64; omega, g4.mono (by omega)⟩

theorem shl_small {k : Int} (h : 0 ≤ k ∧ k ≤ 3) : 1 ≤ shl64 .i64 1 k ∧ shl64 .i64 1 k ≤ 8 := by
  have : k = 0 ∨ k = 1 ∨ k = 2 ∨ k = 3 := by omega
  rcases this with rfl | rfl | rfl | rfl <;> decide
theorem shl_more {k : Int} (h : 1 ≤ k ∧ k ≤ 3) : 1 < shl64 .i64 1 k := by
  have : k = 1 ∨ k = 2 ∨ k = 3 := by omega
  rcases this with rfl | rfl | rfl <;> decide
theorem system_ok {B : Int} {m : l00Src} (hs : Src B m) (hB : B + 9000 < Big) : ∃ s m', s_l00Src_system m = some (s, m') ∧ sysB s = true ∧ s.Rows ≤ 2 ∧ s.Cols ≤ 3 ∧ Src (B + 6000) m' := by
  unfold s_l00Src_system
  obtain ⟨a, m1, e1, a0, a1, _, s1⟩ := next_ok (n := 2) hs (by omega)
  have := a1 (by omega)
  rw [e1]
  simp only [Option.bind_some]
  obtain ⟨b, m2, e2, b0, b1, _, s2⟩ := next_ok (n := 2) s1 (by omega)
  have := b1 (by omega)
  rw [e2]
  simp only [Option.bind_some]
  rw [wrap_i64 (1 + a) (by omega) (by omega), wrap_i64 (2 + b) (by omega) (by omega), wrap_i64 (2 + b - 1) (by omega) (by omega), wrap_u64 (2 + b - 1) (by omega) (by omega), brd (by omega)]
  have k3 := shl_more (k := 2 + b - 1) (by omega)
  obtain ⟨p, m3, e3, p0, p1, _, s3⟩ := next_ok (n := shl64 .i64 1 (2 + b - 1)) s2 (by omega)
  have := p1 k3
  rw [e3]
  simp only [Option.bind_some]
  have kR := shl_small (k := 1 + a) (by omega)
  have kC := shl_small (k := 2 + b) (by omega)
  obtain ⟨x, m4, e4, x1, s4⟩ := entries_ok (r := 1 + a) (c := 2 + b) rfl rfl (by omega) (by omega) kR kC s3 (by omega)
  rw [e4]
  simp only [Option.bind_some]
  obtain ⟨y, m5, e5, y1, s5⟩ := entries_ok (r := 1 + a) (c := 2 + b) rfl rfl (by omega) (by omega) kR kC s4 (by omega)
  rw [e5]
  simp only [Option.bind_some]
  obtain ⟨z, m6, e6, z1, s6⟩ := entries_ok (r := 1 + a) (c := 2 + b) rfl rfl (by omega) (by omega) kR kC s5 (by omega)
  rw [e6]
  refine ⟨_, _, rfl, ?_, by dsimp only; omega, by dsimp only; omega, s6.mono (by omega)⟩
  unfold sysB
  dsimp only
  rw [x1, y1, z1, decide_eq_true (by omega), decide_eq_true (by omega), decide_eq_true (by omega)]; rfl
theorem SystemDrawn_ok {code : List UInt8} (h : code.length ≤ 1048576) : ∃ s, s_SystemDrawn code = some s ∧ sysB s = true ∧ s.Rows ≤ 2 ∧ s.Cols ≤ 3 := by
  unfold s_SystemDrawn
  obtain ⟨m, e1, s1⟩ := source_ok h
  rw [e1]
  simp only [Option.bind_some]
  obtain ⟨s, m', e2, h1, h2, h3, _⟩ := system_ok s1 (by decide)
  rw [e2]
  exact ⟨s, rfl, h1, h2, h3⟩
theorem SettingOf_ok {code : List UInt8} (h : code.length ≤ 1048576) : ∃ t, s_SettingOf code = some t ∧ (1 ≤ t.Rate ∧ t.Rate ≤ 2) ∧ (1 ≤ t.Queries ∧ t.Queries ≤ 3) ∧ 0 ≤ t.Grind ∧ t.Grind ≤ 2 := by
  unfold s_SettingOf s_l00Src_setting
  obtain ⟨m, e1, s1⟩ := source_ok h
  rw [e1]
  simp only [Option.bind_some]
  obtain ⟨a, m1, f1, a0, a1, _, s2⟩ := next_ok (n := 2) s1 (by decide)
  obtain ⟨b, m2, f2, b0, b1, _, s3⟩ := next_ok (n := 3) s2 (by decide)
  obtain ⟨c, m3, f3, c0, c1, _, s4⟩ := next_ok (n := 3) s3 (by decide)
  have := a1 (by omega)
  have := b1 (by omega)
  have := c1 (by omega)
  rw [f1]
  simp only [Option.bind_some]
  rw [f2]
  simp only [Option.bind_some]
  rw [f3]
  simp only [Option.bind_some]
  rw [wrap_i64 (1 + a) (by omega) (by omega), wrap_i64 (1 + b) (by omega) (by omega)]
  exact ⟨_, rfl, by dsimp only; omega, by dsimp only; omega, by dsimp only; omega⟩
end Go.AI.Fn
