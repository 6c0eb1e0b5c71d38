/- The bits of the settings, one by one; FnSelect answers true. -/
import Derived.Test.YtjeihkabobjlbaaPu0
import Derived.Test.YtjeihkabobjlbaaFnAll
import Derived.Test.YtjeihkabobjlbaaPuAt
import Derived.KernelRfl
set_option linter.unusedVariables false
set_option maxRecDepth 10000
namespace Go.AI.Fn

theorem iter_sim {S E : Type} {f g : S → Option (S ⊕ E)} (h : ∀ s x, f s = some x → g s = some x) : ∀ {n : Nat} {s : S} {e : E}, iter f n s = some e → iter g n s = some e
  | 0, s, e, hi => by simp [iter] at hi
  | n + 1, s, e, hi => by
    simp only [iter] at hi ⊢
    cases hf : f s with
    | none => rw [hf] at hi; cases hi
    | some x =>
      rw [h s x hf]
      rw [hf] at hi
      cases x with
      | inl s' => exact iter_sim h hi
      | inr e' => exact hi
noncomputable def bitsC (r q g : Int) : Option Int :=
  (iter (i_Setting_bitsOf_1_s 0 q r q g) 12 ((1 : Int), (1 : Int), (0 : Int))).bind fun e =>
  (iter (i_Setting_bitsOf_2_s e.1 e.2.1 q e.2.2.1 e.2.2.2 r q g) 40 (0 : Int)).bind fun e2 => some e2.1
theorem bits_of {r q g v : Int} (h : bitsC r q g = some v) : i_Setting_bitsOf ⟨r, q, g⟩ = some (IntKind.wrap .i64 (v + g)) := by
  unfold bitsC at h
  obtain ⟨e, h1, h⟩ := bd h
  obtain ⟨e2, h2, h⟩ := bd h
  cases h
  unfold i_Setting_bitsOf
  rw [Loop_of h1]
  simp only [Option.bind_some]
  rw [Loop_of h2]; rfl
noncomputable def enC (r q b : Int) : Option Bool :=
  (iter (s_l15Enough_1_s r q b) 12 ((1 : Int), (0 : Int))).bind fun e_ =>
  br (decide ((IntKind.wrap .i64 ((IntKind.wrap .i64 (q * (IntKind.wrap .i64 (r + (1 : Int))))) - b)) ≥ (0 : Int))) (
    br (decide (0 ≤ (IntKind.wrap .u64 (IntKind.wrap .i64 ((IntKind.wrap .i64 (q * (IntKind.wrap .i64 (r + (1 : Int))))) - b))))) (
      some (decide (e_.1 ≤ (shl64 .i64 (1 : Int) (IntKind.wrap .u64 (IntKind.wrap .i64 ((IntKind.wrap .i64 (q * (IntKind.wrap .i64 (r + (1 : Int))))) - b))))))) (
      none)) (
    some false)
theorem en_of {r q b : Int} {v : Bool} (h : enC r q b = some v) : s_l15Enough r q b = some v := by
  unfold enC at h
  obtain ⟨e, h1, h⟩ := bd h
  unfold s_l15Enough
  rw [Loop_of h1]
  exact h
noncomputable def sC (r q : Int) (n : Int) : Option ((Int) ⊕ ((Int × Bool))) :=
    (enC r q (IntKind.wrap .i64 (n + (1 : Int)))).bind fun r_ =>
    br r_ (
      some (.inl (IntKind.wrap .i64 (n + (1 : Int))))) (
      some (.inr (n, r_)))
theorem s_of {r q v : Int} (h : iter (sC r q) 40 0 = some (v, false)) : s_l15Bits r q = some v := by
  unfold s_l15Bits
  rw [Loop_of (iter_sim (g := s_l15Bits_1_s r q) (fun s x hx => ?_) h)]
  · rfl
  · unfold sC at hx
    obtain ⟨b, h1, hx⟩ := bd hx
    simp only [s_l15Bits_1_s]
    rw [en_of h1]
    exact hx

theorem b11 (g : Int) : bitsC 1 1 g = some 0 := by kernel_rfl
theorem s11 : iter (sC 1 1) 40 0 = some (0, false) := by kernel_rfl
theorem b12 (g : Int) : bitsC 1 2 g = some 0 := by kernel_rfl
theorem s12 : iter (sC 1 2) 40 0 = some (0, false) := by kernel_rfl
theorem b13 (g : Int) : bitsC 1 3 g = some 1 := by kernel_rfl
theorem s13 : iter (sC 1 3) 40 0 = some (1, false) := by kernel_rfl
theorem b14 (g : Int) : bitsC 1 4 g = some 1 := by kernel_rfl
theorem s14 : iter (sC 1 4) 40 0 = some (1, false) := by kernel_rfl
theorem b15 (g : Int) : bitsC 1 5 g = some 2 := by kernel_rfl
theorem s15 : iter (sC 1 5) 40 0 = some (2, false) := by kernel_rfl
theorem b16 (g : Int) : bitsC 1 6 g = some 2 := by kernel_rfl
theorem s16 : iter (sC 1 6) 40 0 = some (2, false) := by kernel_rfl
theorem b17 (g : Int) : bitsC 1 7 g = some 2 := by kernel_rfl
theorem s17 : iter (sC 1 7) 40 0 = some (2, false) := by kernel_rfl
theorem b18 (g : Int) : bitsC 1 8 g = some 3 := by kernel_rfl
theorem s18 : iter (sC 1 8) 40 0 = some (3, false) := by kernel_rfl
theorem b21 (g : Int) : bitsC 2 1 g = some 0 := by kernel_rfl
theorem s21 : iter (sC 2 1) 40 0 = some (0, false) := by kernel_rfl
theorem b22 (g : Int) : bitsC 2 2 g = some 1 := by kernel_rfl
theorem s22 : iter (sC 2 2) 40 0 = some (1, false) := by kernel_rfl
theorem b23 (g : Int) : bitsC 2 3 g = some 2 := by kernel_rfl
theorem s23 : iter (sC 2 3) 40 0 = some (2, false) := by kernel_rfl
theorem b24 (g : Int) : bitsC 2 4 g = some 2 := by kernel_rfl
theorem s24 : iter (sC 2 4) 40 0 = some (2, false) := by kernel_rfl
theorem b25 (g : Int) : bitsC 2 5 g = some 3 := by kernel_rfl
theorem s25 : iter (sC 2 5) 40 0 = some (3, false) := by kernel_rfl
theorem b26 (g : Int) : bitsC 2 6 g = some 4 := by kernel_rfl
theorem s26 : iter (sC 2 6) 40 0 = some (4, false) := by kernel_rfl
theorem b27 (g : Int) : bitsC 2 7 g = some 4 := by kernel_rfl
theorem s27 : iter (sC 2 7) 40 0 = some (4, false) := by kernel_rfl
theorem b28 (g : Int) : bitsC 2 8 g = some 5 := by kernel_rfl
theorem s28 : iter (sC 2 8) 40 0 = some (5, false) := by kernel_rfl
theorem b31 (g : Int) : bitsC 3 1 g = some 0 := by kernel_rfl
theorem s31 : iter (sC 3 1) 40 0 = some (0, false) := by kernel_rfl
theorem b32 (g : Int) : bitsC 3 2 g = some 1 := by kernel_rfl
theorem s32 : iter (sC 3 2) 40 0 = some (1, false) := by kernel_rfl
theorem b33 (g : Int) : bitsC 3 3 g = some 2 := by kernel_rfl
theorem s33 : iter (sC 3 3) 40 0 = some (2, false) := by kernel_rfl
theorem b34 (g : Int) : bitsC 3 4 g = some 3 := by kernel_rfl
theorem s34 : iter (sC 3 4) 40 0 = some (3, false) := by kernel_rfl
theorem b35 (g : Int) : bitsC 3 5 g = some 4 := by kernel_rfl
theorem s35 : iter (sC 3 5) 40 0 = some (4, false) := by kernel_rfl
theorem b36 (g : Int) : bitsC 3 6 g = some 4 := by kernel_rfl
theorem s36 : iter (sC 3 6) 40 0 = some (4, false) := by kernel_rfl
theorem b37 (g : Int) : bitsC 3 7 g = some 5 := by kernel_rfl
theorem s37 : iter (sC 3 7) 40 0 = some (5, false) := by kernel_rfl
theorem b38 (g : Int) : bitsC 3 8 g = some 6 := by kernel_rfl
theorem s38 : iter (sC 3 8) 40 0 = some (6, false) := by kernel_rfl
theorem bits_all {r q : Int} (hr : 1 ≤ r ∧ r ≤ 3) (hq : 1 ≤ q ∧ q ≤ 8) : ∃ v : Int, 0 ≤ v ∧ v ≤ 64 ∧ (∀ g, i_Setting_bitsOf ⟨r, q, g⟩ = some (IntKind.wrap .i64 (v + g))) ∧ s_l15Bits r q = some v := by
  have e1 : r = 1 ∨ r = 2 ∨ r = 3 := by omega
  have e2 : q = 1 ∨ q = 2 ∨ q = 3 ∨ q = 4 ∨ q = 5 ∨ q = 6 ∨ q = 7 ∨ q = 8 := by omega
  rcases e1 with rfl | rfl | rfl <;> rcases e2 with rfl | rfl | rfl | rfl | rfl | rfl | rfl | rfl
  · exact ⟨0, by omega, by omega, fun g => bits_of (b11 g), s_of s11⟩
  · exact ⟨0, by omega, by omega, fun g => bits_of (b12 g), s_of s12⟩
  · exact ⟨1, by omega, by omega, fun g => bits_of (b13 g), s_of s13⟩
  · exact ⟨1, by omega, by omega, fun g => bits_of (b14 g), s_of s14⟩
  · exact ⟨2, by omega, by omega, fun g => bits_of (b15 g), s_of s15⟩
  · exact ⟨2, by omega, by omega, fun g => bits_of (b16 g), s_of s16⟩
  · exact ⟨2, by omega, by omega, fun g => bits_of (b17 g), s_of s17⟩
  · exact ⟨3, by omega, by omega, fun g => bits_of (b18 g), s_of s18⟩
  · exact ⟨0, by omega, by omega, fun g => bits_of (b21 g), s_of s21⟩
  · exact ⟨1, by omega, by omega, fun g => bits_of (b22 g), s_of s22⟩
  · exact ⟨2, by omega, by omega, fun g => bits_of (b23 g), s_of s23⟩
  · exact ⟨2, by omega, by omega, fun g => bits_of (b24 g), s_of s24⟩
  · exact ⟨3, by omega, by omega, fun g => bits_of (b25 g), s_of s25⟩
  · exact ⟨4, by omega, by omega, fun g => bits_of (b26 g), s_of s26⟩
  · exact ⟨4, by omega, by omega, fun g => bits_of (b27 g), s_of s27⟩
  · exact ⟨5, by omega, by omega, fun g => bits_of (b28 g), s_of s28⟩
  · exact ⟨0, by omega, by omega, fun g => bits_of (b31 g), s_of s31⟩
  · exact ⟨1, by omega, by omega, fun g => bits_of (b32 g), s_of s32⟩
  · exact ⟨2, by omega, by omega, fun g => bits_of (b33 g), s_of s33⟩
  · exact ⟨3, by omega, by omega, fun g => bits_of (b34 g), s_of s34⟩
  · exact ⟨4, by omega, by omega, fun g => bits_of (b35 g), s_of s35⟩
  · exact ⟨4, by omega, by omega, fun g => bits_of (b36 g), s_of s36⟩
  · exact ⟨5, by omega, by omega, fun g => bits_of (b37 g), s_of s37⟩
  · exact ⟨6, by omega, by omega, fun g => bits_of (b38 g), s_of s38⟩

theorem sel_ok {bits r g : Int} (hb : 0 ≤ bits ∧ bits < 17) (hr : 1 ≤ r ∧ r ≤ 3) (hg : 0 ≤ g ∧ g < 13) :
    ∃ t : Int → Int, (∀ q, 1 ≤ q → q ≤ 8 → 0 ≤ t q ∧ t q ≤ 100 ∧ i_Setting_bitsOf ⟨r, q, g⟩ = some (t q)) ∧
      ((∃ q, 1 ≤ q ∧ q ≤ 8 ∧ bits ≤ t q ∧ (∀ p, 1 ≤ p → p < q → t p < bits) ∧ i_Select bits r g = some (⟨r, q, g⟩, 0) ∧ s_Select bits r g = some (⟨r, q, g⟩, 0)) ∨
       ((∀ p, 1 ≤ p → p ≤ 8 → t p < bits) ∧ i_Select bits r g = some (⟨0, 0, 0⟩, 16) ∧ s_Select bits r g = some (⟨0, 0, 0⟩, 16))) := by
  let t : Int → Int := fun q => (i_Setting_bitsOf ⟨r, q, g⟩).getD 0
  have key : ∀ q, 1 ≤ q → q ≤ 8 → 0 ≤ t q ∧ t q ≤ 100 ∧ i_Setting_bitsOf ⟨r, q, g⟩ = some (t q) ∧ ∃ v, s_l15Bits r q = some v ∧ IntKind.wrap .i64 (v + g) = t q := by
    intro q h1 h2
    obtain ⟨v, v0, v1, h3, h4⟩ := bits_all hr ⟨h1, h2⟩
    have e : t q = v + g := by
      show (i_Setting_bitsOf ⟨r, q, g⟩).getD 0 = v + g
      rw [h3 g, Option.getD_some, wrap_i64 _ (by omega) (by omega)]
    rw [e, h3 g, wrap_i64 _ (by omega) (by omega)]
    exact ⟨by omega, by omega, rfl, v, h4, wrap_i64 _ (by omega) (by omega)⟩
  have kI := Loop_inv (step := i_Select_1_s bits r g 0 0 0) (fun q => 1 ≤ q ∧ q ≤ 9 ∧ ∀ p, 1 ≤ p → p < q → t p < bits) (fun q => (9 - q).toNat)
    (fun e => (∃ q, e = .inl (q, q) ∧ 1 ≤ q ∧ q ≤ 8 ∧ bits ≤ t q ∧ ∀ p, 1 ≤ p → p < q → t p < bits) ∨ (∃ x, e = .inr x ∧ ∀ p, 1 ≤ p → p ≤ 8 → t p < bits)) ?_ 1 ⟨by omega, by omega, by omega⟩
  have kS := Loop_inv (step := s_Select_1_s bits r g 0 0 0) (fun q => 1 ≤ q ∧ q ≤ 9 ∧ ∀ p, 1 ≤ p → p < q → t p < bits) (fun q => (9 - q).toNat)
    (fun e => (∃ q, e = .inl q ∧ 1 ≤ q ∧ q ≤ 8 ∧ bits ≤ t q ∧ ∀ p, 1 ≤ p → p < q → t p < bits) ∨ (∃ x, e = .inr x ∧ ∀ p, 1 ≤ p → p ≤ 8 → t p < bits)) ?_ 1 ⟨by omega, by omega, by omega⟩
  · refine ⟨t, fun q h1 h2 => let ⟨a, b, c, _⟩ := key q h1 h2; ⟨a, b, c⟩, ?_⟩
    have hI : ∀ e, Loop (i_Select_1_s bits r g 0 0 0) 1 = some e → i_Select bits r g = (alt (fun e_2 : Int × Int => some (Setting.mk r e_2.1 g, (0 : Int))) (fun e_3 : Int × Bool => some (Setting.mk 0 0 0, (16 : Int)))) e := by
      intro e he
      unfold i_Select i_in
      simp only [brd hb.1, brd hr.1, brd hg.1, Option.bind_some, decide_eq_true (show bits ≤ 16 by omega), decide_eq_true hr.2, decide_eq_true (show g ≤ 12 by omega), Bool.not_true, br_false]
      rw [he]; rfl
    have hS : ∀ e, Loop (s_Select_1_s bits r g 0 0 0) 1 = some e → s_Select bits r g = (alt (fun e_2 : Int => some (Setting.mk r e_2 g, (0 : Int))) (fun e_3 : Int × Bool => some (Setting.mk 0 0 0, (16 : Int)))) e := by
      intro e he
      unfold s_Select s_l01In
      simp only [brd hb.1, brd hr.1, brd hg.1, Option.bind_some, decide_eq_true (show bits ≤ 16 by omega), decide_eq_true hr.2, decide_eq_true (show g ≤ 12 by omega), Bool.not_true, br_false]
      rw [he]; rfl
    obtain ⟨e, he, hpost⟩ := kI
    obtain ⟨f, hf, fpost⟩ := kS
    rcases hpost with ⟨q, rfl, q0, q1, q2, q3⟩ | ⟨x, rfl, q3⟩ <;> rcases fpost with ⟨p, rfl, p0, p1, p2, p3⟩ | ⟨y, rfl, p3⟩
    · have : p = q := by
        by_cases h : p < q
        · have := q3 p p0 h; omega
        · by_cases h2 : q < p
          · have := p3 q q0 h2; omega
          · omega
      subst this
      exact .inl ⟨p, q0, q1, q2, q3, hI _ he, hS _ hf⟩
    · have := p3 q q0 q1; omega
    · have := q3 p p0 p1; omega
    · exact .inr ⟨q3, hI _ he, hS _ hf⟩
  · intro q ⟨h1, h2, h3⟩
    simp only [s_Select_1_s]
    by_cases c : q ≤ 8
    · obtain ⟨a, b, d, v, e1, e2⟩ := key q h1 c
      rw [brd c, e1]
      simp only [Option.bind_some, e2]
      by_cases c2 : t q ≥ bits
      · rw [brd c2]
        exact .inr ⟨_, rfl, .inl ⟨q, rfl, h1, c, c2, h3⟩⟩
      · rw [brn c2, wrap_i64 (q + 1) (by omega) (by omega)]
        refine .inl ⟨_, rfl, ⟨by omega, by omega, fun p p1 p2 => ?_⟩, by omega⟩
        by_cases hp : p = q
        · subst hp; omega
        · exact h3 p p1 (by omega)
    · rw [brn c]
      exact .inr ⟨_, rfl, .inr ⟨_, rfl, fun p p1 p2 => h3 p p1 (by omega)⟩⟩
  · intro q ⟨h1, h2, h3⟩
    simp only [i_Select_1_s]
    by_cases c : q ≤ 8
    · obtain ⟨a, b, d, _⟩ := key q h1 c
      rw [brd c, d]
      simp only [Option.bind_some]
      by_cases c2 : t q ≥ bits
      · rw [brd c2]
        exact .inr ⟨_, rfl, .inl ⟨q, rfl, h1, c, c2, h3⟩⟩
      · rw [brn c2, wrap_i64 (q + 1) (by omega) (by omega)]
        refine .inl ⟨_, rfl, ⟨by omega, by omega, fun p p1 p2 => ?_⟩, by omega⟩
        by_cases hp : p = q
        · subst hp; omega
        · exact h3 p p1 (by omega)
    · rw [brn c]
      exact .inr ⟨_, rfl, .inr ⟨_, rfl, fun p p1 p2 => h3 p p1 (by omega)⟩⟩

theorem set_ok {r q g : Int} (hr : 1 ≤ r ∧ r ≤ 3) (hq : 1 ≤ q ∧ q ≤ 8) (hg : 0 ≤ g ∧ g < 13) : i_SettingOK ⟨r, q, g⟩ = some true := by
  unfold i_SettingOK i_in
  simp only [brd hr.1, brd hq.1, brd hg.1, Option.bind_some, decide_eq_true hr.2, decide_eq_true hq.2, decide_eq_true (show g ≤ 12 by omega), br_true]
theorem qb_ok {r q g v : Int} (hr : 1 ≤ r ∧ r ≤ 3) (hq : 1 ≤ q ∧ q ≤ 8) (hg : 0 ≤ g ∧ g < 13) (h : i_Setting_bitsOf ⟨r, q, g⟩ = some v) : i_QueryBits ⟨r, q, g⟩ = some (v, 0) := by
  unfold i_QueryBits
  rw [set_ok hr hq hg]
  simp only [Option.bind_some, Bool.not_true, br_false, h]
theorem sec_ok {r q g v b : Int} (hr : 1 ≤ r ∧ r ≤ 3) (hq : 1 ≤ q ∧ q ≤ 8) (hg : 0 ≤ g ∧ g < 13) (hb : 0 ≤ b ∧ b < 17) (h : i_Setting_bitsOf ⟨r, q, g⟩ = some v) : i_Secure ⟨r, q, g⟩ b = some (decide (v ≥ b), 0) := by
  unfold i_Secure i_in
  rw [set_ok hr hq hg]
  simp only [Option.bind_some, Bool.not_true, br_false, h, brd hb.1, decide_eq_true (show b ≤ 16 by omega)]

theorem law (a b : List UInt8) : w_FnSelect a b = some true := by
  unfold w_FnSelect
  by_cases c1 : ((a.length : Nat) : Int) > 1048576
  · rw [brd c1]
  rw [brn c1]
  by_cases c2 : ((b.length : Nat) : Int) > 1048576
  · rw [brd c2]
  rw [brn c2]
  obtain ⟨n, e1, n0, n1⟩ := at_ok (a := a) (i := 0) (n := 17) (by omega) (by omega) (by omega) (by omega)
  obtain ⟨r, e2, r0, r1⟩ := at_ok (a := b) (i := 0) (n := 3) (by omega) (by omega) (by omega) (by omega)
  obtain ⟨g, e3, g0, g1⟩ := at_ok (a := b) (i := 1) (n := 13) (by omega) (by omega) (by omega) (by omega)
  rw [e1]
  simp only [Option.bind_some]
  rw [e2]
  simp only [Option.bind_some]
  rw [e3]
  simp only [Option.bind_some]
  rw [wrap_i64 (1 + r) (by omega) (by omega)]
  have hr : 1 ≤ 1 + r ∧ 1 + r ≤ 3 := by omega
  obtain ⟨t, ht, ⟨q, q0, q1, q2, q3, h1, h2⟩ | ⟨q3, h1, h2⟩⟩ := sel_ok (bits := n) (r := 1 + r) (g := g) ⟨n0, n1⟩ hr ⟨g0, g1⟩
  · obtain ⟨t0, t1, tq⟩ := ht q q0 q1
    rw [h1, h2]
    simp only [Option.bind_some]
    rw [brbe rfl, bre rfl, bre rfl, bre rfl, brbe rfl, qb_ok hr ⟨q0, q1⟩ ⟨g0, g1⟩ tq, sec_ok hr ⟨q0, q1⟩ ⟨g0, g1⟩ ⟨n0, n1⟩ tq]
    simp only [Option.bind_some]
    rw [brbe rfl, brbe rfl, decide_eq_true (show t q ≥ n from q2), Bool.not_true, br_false, brn (by omega), brbe rfl, brbe rfl]
    by_cases c : q > 1
    · obtain ⟨u0, u1, uq⟩ := ht (q - 1) (by omega) (by omega)
      have hlt := q3 (q - 1) (by omega) (by omega)
      rw [brd c, wrap_i64 (q - 1) (by omega) (by omega), qb_ok hr ⟨by omega, by omega⟩ ⟨g0, g1⟩ uq, sec_ok hr ⟨by omega, by omega⟩ ⟨g0, g1⟩ ⟨n0, n1⟩ uq]
      simp only [Option.bind_some]
      rw [bre rfl, bre rfl, decide_eq_false (show ¬ t (q - 1) ≥ n by omega), Bool.not_false, br_true, brd hlt, decide_eq_true (by omega)]
    · rw [brn c]
  · obtain ⟨u0, u1, uq⟩ := ht 8 (by omega) (by omega)
    have hlt := q3 8 (by omega) (by omega)
    rw [h1, h2]
    simp only [Option.bind_some]
    rw [brbe rfl, bre rfl, bre rfl, bre rfl, brb (by decide), qb_ok hr ⟨by omega, by omega⟩ ⟨g0, g1⟩ uq]
    simp only [Option.bind_some]
    rw [bre rfl, bre rfl, decide_eq_true hlt]
end Go.AI.Fn
