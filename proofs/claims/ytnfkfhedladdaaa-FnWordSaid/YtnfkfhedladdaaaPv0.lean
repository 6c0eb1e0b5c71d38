/- Plain laws for printed functions: loops whose states are told in advance; numbers; places. -/
import Derived.Test.YtnfkfhedladdaaaAiW
import Derived.Test.YtnfkfhedladdaaaFx0
import Derived.KernelRfl
set_option linter.unusedVariables false
namespace Go.AI

theorem Loop_inl {S E : Type} {step : S → Option (S ⊕ E)} {s s' : S} (h : step s = some (.inl s')) : Loop step s = Loop step s' := by rw [Loop_eq, h]; rfl
theorem Loop_inr {S E : Type} {step : S → Option (S ⊕ E)} {s : S} {e : E} (h : step s = some (.inr e)) : Loop step s = some e := by rw [Loop_eq, h]; rfl
/-- A loop that goes through states that are told. -/
theorem Loop_for {S E : Type} {step : S → Option (S ⊕ E)} (F : Nat → S) (n : Nat) {e : E} (hs : ∀ k, k < n → step (F k) = some (.inl (F (k + 1)))) (he : step (F n) = some (.inr e)) : Loop step (F 0) = some e := by
  have key : ∀ m k, k + m = n → Loop step (F k) = some e := by
    intro m
    induction m with
    | zero => intro k hk; have : k = n := by omega
              subst this; exact Loop_inr he
    | succ m ih => intro k hk; rw [Loop_inl (hs k (by omega))]; exact ih (k + 1) (by omega)
  exact key n 0 (by omega)
/-- The first place where something fails. -/
theorem first_bad (P : Nat → Bool) : ∀ n, (∀ k, k < n → P k = true) ∨ ∃ k, k < n ∧ P k = false ∧ ∀ j, j < k → P j = true
  | 0 => .inl (by omega)
  | n + 1 => by
    rcases first_bad P n with h | ⟨k, hk, h1, h2⟩
    · cases hn : P n
      · exact .inr ⟨n, by omega, hn, h⟩
      · refine .inl fun k hk => ?_
        by_cases e : k = n
        · subst e; exact hn
        · exact h k (by omega)
    · exact .inr ⟨k, by omega, h1, h2⟩
/-- A loop that goes on as long as something holds. -/
theorem Loop_all {S E : Type} {step : S → Option (S ⊕ E)} (F : Nat → S) (n : Nat) (P : Nat → Bool) (x : Nat → E) {e : E} (hs : ∀ k, k < n → P k = true → step (F k) = some (.inl (F (k + 1))))
    (hx : ∀ k, k < n → P k = false → step (F k) = some (.inr (x k))) (he : step (F n) = some (.inr e)) :
    ((∀ k, k < n → P k = true) ∧ Loop step (F 0) = some e) ∨ ∃ k, k < n ∧ P k = false ∧ (∀ j, j < k → P j = true) ∧ Loop step (F 0) = some (x k) := by
  rcases first_bad P n with h | ⟨k, hk, h1, h2⟩
  · exact .inl ⟨h, Loop_for F n (fun k hk => hs k hk (h k hk)) he⟩
  · exact .inr ⟨k, hk, h1, h2, Loop_for F k (fun j hj => hs j (by omega) (h2 j hj)) (hx k hk h1)⟩
/-- A loop with an invariant, a measure, a postcondition. -/
theorem Loop_inv {S E : Type} {step : S → Option (S ⊕ E)} (Inv : S → Prop) (me : S → Nat) (Post : E → Prop)
    (hs : ∀ s, Inv s → (∃ s', step s = some (.inl s') ∧ Inv s' ∧ me s' < me s) ∨ (∃ e, step s = some (.inr e) ∧ Post e)) :
    ∀ s, Inv s → ∃ e, Loop step s = some e ∧ Post e := by
  intro s
  generalize hm : me s = m
  induction m using Nat.strongRecOn generalizing s with
  | _ m ih =>
    intro hi
    rw [Loop_eq]
    rcases hs s hi with ⟨s', h1, h2, h3⟩ | ⟨e, h1, h2⟩
    · rw [h1]; exact ih (me s') (by omega) s' rfl h2
    · rw [h1]; exact ⟨e, rfl, h2⟩

theorem br_of {α : Type} {c : Bool} {x y : α} (h : c = true) : br c x y = x := by subst h; rfl
theorem br_no {α : Type} {c : Bool} {x y : α} (h : c = false) : br c x y = y := by subst h; rfl
theorem brd {α : Type} {p : Prop} [Decidable p] {x y : α} (h : p) : br (decide p) x y = x := br_of (decide_eq_true h)
theorem brn {α : Type} {p : Prop} [Decidable p] {x y : α} (h : ¬p) : br (decide p) x y = y := br_no (decide_eq_false h)
theorem bre {α : Type} {a b : Int} {x y : α} (h : a = b) : br (a == b) x y = x := br_of (by simp [h])
theorem brne {α : Type} {a b : Int} {x y : α} (h : a ≠ b) : br (a == b) x y = y := br_no (by simp [h])
theorem brbe {α : Type} {a b : Int} {x y : α} (h : a = b) : br (a != b) x y = y := br_no (by simp [h])
theorem notd {α : Type} {p : Prop} [Decidable p] {x y : α} (h : p) : br (!decide p) x y = y := br_no (by simp [h])
theorem tmod_nn (a b : Int) (h : 0 ≤ a) : a.tmod b = a % b := Int.tmod_eq_emod_of_nonneg h
theorem tdiv_nn (a b : Int) (h : 0 ≤ a) : a.tdiv b = a / b := Int.tdiv_eq_ediv_of_nonneg h
theorem u8_lt (x : UInt8) : (x.toNat : Int) < 256 := by have := x.toNat_lt; omega
theorem fits_of {n b : Nat} (h : n * b ≤ 1099511627776) : fits n b = true := by simp [fits, okBound, h]
theorem br_fits {α : Type} {n b : Nat} {x y : α} (h : n * b ≤ 1099511627776) : br (fits n b) x y = x := br_of (fits_of h)
theorem mkOK_of {l c : Int} {b : Nat} (h0 : 0 ≤ l) (h1 : l ≤ c) (h2 : c * b ≤ 1099511627776) : mkOK l c b = true := by simp [mkOK, okBound, h0, h1, h2]
theorem br_mk {α : Type} {l c : Int} {b : Nat} {x y : α} (h0 : 0 ≤ l) (h1 : l ≤ c) (h2 : c * b ≤ 1099511627776) : br (mkOK l c b) x y = x := br_of (mkOK_of h0 h1 h2)

theorem atL_nat {α : Type} {l : List α} {k : Nat} (h : k < l.length) : atL l (k : Int) = some l[k] := by simp [atL, h]
theorem get_some {α : Type} {l : List α} {i : Nat} (h : i < l.length) : l[i]? = some l[i] := List.getElem?_eq_getElem h
theorem atL_of {α : Type} {l : List α} {i : Int} (h0 : 0 ≤ i) (h1 : i < l.length) : ∃ x, atL l i = some x ∧ l[i.toNat]? = some x ∧ x ∈ l := by
  have h : i.toNat < l.length := by omega
  exact ⟨l[i.toNat], by simp [atL, h0, h], by simp [h], List.getElem_mem h⟩
theorem subL_of {α : Type} {l : List α} {a b : Int} (h0 : 0 ≤ a) (h1 : a ≤ b) (h2 : b ≤ l.length) : subL l a b = some ((l.drop a.toNat).take (b.toNat - a.toNat)) := by
  simp [subL, h0, h1, h2, List.drop_take]
theorem take_succ {α : Type} {l : List α} {k : Nat} (h : k < l.length) : l.take (k + 1) = l.take k ++ [l[k]] := by rw [List.take_succ_eq_append_getElem h]
/-- A state that is turned step by step. -/
def iU {α : Type} (f : Nat → α → α) : Nat → α → α
  | 0, l => l
  | k + 1, l => f k (iU f k l)
end Go.AI

set_option linter.unusedVariables false
set_option linter.unusedSimpArgs false
namespace Go.AI.Fn

def okF (a : Int) : Prop := 0 ≤ a ∧ a ≤ 2130706432
def okE (x : Ext) : Prop := okF x.A ∧ okF x.B
def okFb (a : Int) : Bool := decide (0 ≤ a) && decide (a ≤ 2130706432)
def okEb (x : Ext) : Bool := okFb x.A && okFb x.B
theorem okFb_iff {a : Int} : okFb a = true ↔ okF a := by simp [okFb, okF]
theorem okEb_iff {x : Ext} : okEb x = true ↔ okE x := by simp [okEb, okE, okFb_iff]

def aF (a b : Int) : Int := (a + b) % 2130706433
def sF (a b : Int) : Int := (a - b) % 2130706433
def mF (a b : Int) : Int := (a * b) % 2130706433
def eA (x y : Ext) : Ext := ⟨(x.A + y.A) % 2130706433, (x.B + y.B) % 2130706433⟩
def eS (x y : Ext) : Ext := ⟨(x.A - y.A) % 2130706433, (x.B - y.B) % 2130706433⟩
def eM (x y : Ext) : Ext := ⟨(x.A * y.A + 3 * (x.B * y.B)) % 2130706433, (x.A * y.B + x.B * y.A) % 2130706433⟩
def eC (x : Ext) (n : Int) : Ext := ⟨(x.A * n) % 2130706433, (x.B * n) % 2130706433⟩
def e0 : Ext := ⟨0, 0⟩
def e1 : Ext := ⟨1, 0⟩
def eN (n : Int) : Ext := ⟨n, 0⟩

theorem okF3 : okF 3 := ⟨by decide, by decide⟩
theorem okF1 : okF 1 := ⟨by decide, by decide⟩
theorem okF0 : okF 0 := ⟨by decide, by decide⟩
theorem okF_mod (a : Int) : okF (a % 2130706433) := ⟨by omega, by omega⟩
theorem mF_ok (a b : Int) : okF (mF a b) := okF_mod _
theorem eA_ok (x y : Ext) : okE (eA x y) := ⟨okF_mod _, okF_mod _⟩
theorem eS_ok (x y : Ext) : okE (eS x y) := ⟨okF_mod _, okF_mod _⟩
theorem eM_ok (x y : Ext) : okE (eM x y) := ⟨okF_mod _, okF_mod _⟩
theorem eC_ok (x : Ext) (n : Int) : okE (eC x n) := ⟨okF_mod _, okF_mod _⟩
theorem e0_ok : okE e0 := ⟨⟨by decide, by decide⟩, ⟨by decide, by decide⟩⟩
theorem e1_ok : okE e1 := ⟨⟨by decide, by decide⟩, ⟨by decide, by decide⟩⟩
theorem eN_ok {n : Int} (h : okF n) : okE (eN n) := ⟨h, okF0⟩

theorem mul_bd {a b : Int} (ha : okF a) (hb : okF b) : 0 ≤ a * b ∧ a * b ≤ 4539909900063178624 :=
  ⟨Int.mul_nonneg ha.1 hb.1, Int.le_trans (Int.mul_le_mul ha.2 hb.2 hb.1 (by decide)) (by decide)⟩
theorem mod_self {a : Int} (h : okF a) : a % 2130706433 = a := by obtain ⟨h1, h2⟩ := h; omega

/-! ### remainders of remainders -/
theorem ext_eq {x y : Ext} (h1 : x.A = y.A) (h2 : x.B = y.B) : x = y := by cases x; cases y; cases h1; cases h2; rfl
theorem mA1 (a b : Int) : (a % 2130706433 + b) % 2130706433 = (a + b) % 2130706433 := Int.emod_add_emod _ _ _
theorem mA2 (a b : Int) : (a + b % 2130706433) % 2130706433 = (a + b) % 2130706433 := Int.add_emod_emod _ _ _
theorem mM1 (a b : Int) : (a % 2130706433 * b) % 2130706433 = (a * b) % 2130706433 := by rw [Int.mul_emod, Int.emod_emod, ← Int.mul_emod]
theorem mM2 (a b : Int) : (a * (b % 2130706433)) % 2130706433 = (a * b) % 2130706433 := by rw [Int.mul_emod, Int.emod_emod, ← Int.mul_emod]
theorem mX4 (a b c : Int) : (c + a * (b % 2130706433)) % 2130706433 = (c + a * b) % 2130706433 := by rw [← mA2, mM2, mA2]
/-! ### the program -/
theorem add_w {a b : Int} (ha : okF a) (hb : okF b) : (IntKind.wrap .i64 (a + b)).tmod 2130706433 = aF a b := by
  obtain ⟨h1, h2⟩ := ha; obtain ⟨h3, h4⟩ := hb
  unfold aF; rw [wrap_i64 _ (by omega) (by omega), tmod_nn _ _ (by omega)]
theorem i_add_eq {a b : Int} (ha : okF a) (hb : okF b) : i_add a b = some (aF a b) := by unfold i_add; rw [add_w ha hb]
theorem i_sub_eq {a b : Int} (ha : okF a) (hb : okF b) : i_sub a b = some (sF a b) := by
  obtain ⟨h1, h2⟩ := ha; obtain ⟨h3, h4⟩ := hb
  unfold i_sub sF; rw [wrap_i64 (a - b) (by omega) (by omega), wrap_i64 _ (by omega) (by omega), tmod_nn _ _ (by omega)]
  congr 1; omega
theorem mul_w {a b : Int} (ha : okF a) (hb : okF b) : (IntKind.wrap .i64 (a * b)).tmod 2130706433 = mF a b := by
  have h := mul_bd ha hb
  unfold mF; rw [wrap_i64 _ (by omega) (by omega), tmod_nn _ _ (by omega)]
theorem i_mul_eq {a b : Int} (ha : okF a) (hb : okF b) : i_mul a b = some (mF a b) := by unfold i_mul; rw [mul_w ha hb]
theorem i_plus_eq {x y : Ext} (hx : okE x) (hy : okE y) : i_Ext_plus x y = some (eA x y) := by
  unfold i_Ext_plus; rw [i_add_eq hx.1 hy.1, i_add_eq hx.2 hy.2]; rfl
theorem i_minus_eq {x y : Ext} (hx : okE x) (hy : okE y) : i_Ext_minus x y = some (eS x y) := by
  unfold i_Ext_minus; rw [i_sub_eq hx.1 hy.1, i_sub_eq hx.2 hy.2]; rfl
theorem eM_form (x y : Ext) : eM x y = ⟨aF (mF x.A y.A) (mF 3 (mF x.B y.B)), aF (mF x.A y.B) (mF x.B y.A)⟩ := by
  unfold eM aF mF
  congr 1
  · rw [mA1, mA2, mX4]
  · rw [mA1, mA2]
theorem i_times_eq {x y : Ext} (hx : okE x) (hy : okE y) : i_Ext_times x y = some (eM x y) := by
  unfold i_Ext_times
  rw [i_mul_eq hx.1 hy.1, i_mul_eq hx.2 hy.2]
  simp only [Option.bind_some]
  rw [i_mul_eq okF3 (mF_ok _ _)]
  simp only [Option.bind_some]
  rw [i_add_eq (mF_ok _ _) (mF_ok _ _), i_mul_eq hx.1 hy.2, i_mul_eq hx.2 hy.1]
  simp only [Option.bind_some]
  rw [i_add_eq (mF_ok _ _) (mF_ok _ _), eM_form]; rfl
theorem i_scaled_eq {x : Ext} {n : Int} (hx : okE x) (hn : okF n) : i_Ext_scaled x n = some (eC x n) := by
  unfold i_Ext_scaled; rw [i_mul_eq hx.1 hn, i_mul_eq hx.2 hn]; rfl
theorem i_in_eq (n a b : Int) : i_in n a b = some (decide (a ≤ n) && decide (n ≤ b)) := by
  unfold i_in; cases decide (a ≤ n) <;> rfl
theorem i_FieldOK_eq (a : Int) : i_FieldOK a = some (okFb a) := by
  unfold i_FieldOK; rw [i_in_eq]; rfl
theorem i_ExtOK_eq (x : Ext) : i_ExtOK x = some (okEb x) := by
  unfold i_ExtOK okEb; rw [i_FieldOK_eq, i_FieldOK_eq]; cases okFb x.A <;> rfl
/-! ### the reference -/
theorem s_add_eq {a b : Int} (ha : okF a) (hb : okF b) : s_l01Add a b = some (aF a b) := by unfold s_l01Add; rw [add_w ha hb]
theorem s_sub_eq {a b : Int} (ha : okF a) (hb : okF b) : s_l01Sub a b = some (sF a b) := by
  obtain ⟨h1, h2⟩ := ha; obtain ⟨h3, h4⟩ := hb
  unfold s_l01Sub sF; rw [wrap_i64 (a + 2130706433) (by omega) (by omega), wrap_i64 _ (by omega) (by omega), tmod_nn _ _ (by omega)]
  congr 1; omega
theorem s_mul_eq {a b : Int} (ha : okF a) (hb : okF b) : s_l01Mul a b = some (mF a b) := by unfold s_l01Mul; rw [mul_w ha hb]
theorem s_eadd_eq {x y : Ext} (hx : okE x) (hy : okE y) : s_l02Add x y = some (eA x y) := by
  unfold s_l02Add; rw [s_add_eq hx.1 hy.1, s_add_eq hx.2 hy.2]; rfl
theorem s_esub_eq {x y : Ext} (hx : okE x) (hy : okE y) : s_l02Sub x y = some (eS x y) := by
  unfold s_l02Sub; rw [s_sub_eq hx.1 hy.1, s_sub_eq hx.2 hy.2]; rfl
theorem s_emul_eq {x y : Ext} (hx : okE x) (hy : okE y) : s_l02Mul x y = some (eM x y) := by
  unfold s_l02Mul
  have h3 : (IntKind.wrap .i64 (3 * mF x.B y.B)).tmod 2130706433 = mF 3 (mF x.B y.B) := mul_w okF3 (mF_ok x.B y.B)
  rw [s_mul_eq hx.1 hy.1, s_mul_eq hx.2 hy.2]
  simp only [Option.bind_some]
  rw [h3, s_add_eq (mF_ok _ _) (mF_ok _ _), s_mul_eq hx.1 hy.2, s_mul_eq hx.2 hy.1]
  simp only [Option.bind_some]
  rw [s_add_eq (mF_ok _ _) (mF_ok _ _), eM_form]; rfl
theorem s_of_eq (n : Int) : s_l02Of n = some (eN n) := rfl
theorem s_in_eq (n a b : Int) : s_l01In n a b = some (decide (a ≤ n) && decide (n ≤ b)) := by
  unfold s_l01In; cases decide (a ≤ n) <;> rfl
theorem s_FieldOK_eq (a : Int) : s_FieldOK a = some (okFb a) := by
  unfold s_FieldOK; rw [s_in_eq]; rfl
theorem s_ExtOK_eq (x : Ext) : s_ExtOK x = some (okEb x) := by
  unfold s_ExtOK okEb; rw [s_FieldOK_eq, s_FieldOK_eq]; cases okFb x.A <;> rfl

/-! ### laws -/
theorem eM_comm (x y : Ext) : eM x y = eM y x := by
  apply ext_eq <;> (simp only [eM]; congr 1; grind)
theorem eC_eq (x : Ext) (n : Int) : eC x n = eM x (eN n) := by
  apply ext_eq <;> (simp only [eC, eM, eN]; congr 1; grind)
end Go.AI.Fn

set_option linter.unusedVariables false
set_option linter.unusedSimpArgs false
namespace Go.AI.Fn

/-- A power, by squares. -/
def pF (a : Int) (n : Nat) : Int := (a ^ n) % 2130706433
theorem pF_ok (a : Int) (n : Nat) : okF (pF a n) := okF_mod _
theorem and1 {n : Int} (h : 0 ≤ n) (h2 : n < 9223372036854775808) : and64 .i64 n 1 = n % 2 := by
  show IntKind.wrap .i64 ((BitVec.ofInt 64 n &&& BitVec.ofInt 64 1).toNat : Int) = n % 2
  have e1 : (BitVec.ofInt 64 n).toNat = n.toNat := by rw [BitVec.toNat_ofInt]; omega
  have e2 : (BitVec.ofInt 64 1).toNat = 1 := by decide
  rw [BitVec.toNat_and, e1, e2, Nat.and_one_is_mod, wrap_i64 _ (by omega) (by omega)]
  omega
theorem shr1 {n : Int} (h : 0 ≤ n) : shr64 .i64 n 1 = n / 2 := by
  show n.fdiv (2 ^ 1) = n / 2
  rw [Int.fdiv_eq_ediv_of_nonneg _ (by decide)]; rfl
theorem pow_even {a : Int} {n : Nat} (h : n % 2 = 0) : (a * a) ^ (n / 2) = a ^ n := by
  have e : n = 2 * (n / 2) := by omega
  have e2 : a ^ n = a ^ (2 * (n / 2)) := by rw [← e]
  rw [e2, Int.pow_mul, Int.pow_succ, Int.pow_succ, Int.pow_zero, Int.one_mul]
theorem pow_odd {a : Int} {n : Nat} (h : n % 2 = 1) : a * (a * a) ^ (n / 2) = a ^ n := by
  have e : n = 2 * (n / 2) + 1 := by omega
  have e2 : a ^ n = a ^ (2 * (n / 2) + 1) := by rw [← e]
  rw [e2, Int.pow_succ, Int.pow_mul, Int.pow_succ, Int.pow_succ, Int.pow_zero, Int.one_mul, Int.mul_comm]
theorem pow_mod (a : Int) (n : Nat) : ((a % 2130706433) ^ n) % 2130706433 = (a ^ n) % 2130706433 := by
  induction n with
  | zero => rw [Int.pow_zero, Int.pow_zero]
  | succ n ih => rw [Int.pow_succ, Int.pow_succ, mM2, ← mM1, ih, mM1]

theorem pow_step {a out : Int} {n : Nat} (hn : 0 < n) : (n % 2 = 1 → (mF out a * (mF a a) ^ (n / 2)) % 2130706433 = (out * a ^ n) % 2130706433) ∧ (n % 2 = 0 → (out * (mF a a) ^ (n / 2)) % 2130706433 = (out * a ^ n) % 2130706433) := by
  constructor
  · intro h
    unfold mF
    rw [mM1, ← mM2, pow_mod, mM2, ← pow_odd h, Int.mul_assoc]
  · intro h
    unfold mF
    rw [← mM2, pow_mod, mM2, pow_even h]
theorem i_pow_loop {a out n : Int} (ha : okF a) (ho : okF out) (h0 : 0 ≤ n) (hn : n < 9223372036854775808) : ∃ e, Loop i_pow_1_s (a, n, out) = some e ∧ e.2.2.1 = (out * a ^ n.toNat) % 2130706433 := by
  refine Loop_inv (step := i_pow_1_s) (fun s => okF s.1 ∧ okF s.2.2 ∧ 0 ≤ s.2.1 ∧ s.2.1 < 9223372036854775808 ∧ (s.2.2 * s.1 ^ s.2.1.toNat) % 2130706433 = (out * a ^ n.toNat) % 2130706433) (fun s => s.2.1.toNat) _ ?_ (a, n, out) ⟨ha, ho, h0, hn, rfl⟩
  rintro ⟨b, k, o⟩ ⟨hb, ho', hk0, hk1, hinv⟩
  dsimp only at hb ho' hk0 hk1 hinv
  simp only [i_pow_1_s]
  by_cases hk : k > 0
  · left
    rw [brd hk, and1 hk0 hk1, shr1 hk0, i_mul_eq hb hb]
    have hs := pow_step (a := b) (out := o) (n := k.toNat) (by omega)
    have e : (k / 2).toNat = k.toNat / 2 := by omega
    by_cases h2 : k % 2 = 1
    · rw [bre h2, i_mul_eq ho' hb]
      refine ⟨_, rfl, ⟨mF_ok _ _, mF_ok _ _, by dsimp only; omega, by dsimp only; omega, ?_⟩, by dsimp only; omega⟩
      dsimp only
      rw [e, hs.1 (by omega), hinv]
    · rw [brne h2]
      refine ⟨_, rfl, ⟨mF_ok _ _, ho', by dsimp only; omega, by dsimp only; omega, ?_⟩, by dsimp only; omega⟩
      dsimp only
      rw [e, hs.2 (by omega), hinv]
  · right
    rw [brn hk]
    refine ⟨_, rfl, ?_⟩
    have : k = 0 := by omega
    subst this
    dsimp only
    rw [← hinv]
    simp [mod_self ho']
theorem i_pow_eq {a n : Int} (ha : okF a) (h0 : 0 ≤ n) (hn : n < 9223372036854775808) : i_pow a n = some (pF a n.toNat) := by
  unfold i_pow
  obtain ⟨e, h1, h2⟩ := i_pow_loop ha okF1 h0 hn
  rw [h1, Option.bind_some, h2, Int.one_mul]; rfl
theorem s_pow_loop {a out n : Int} (ha : okF a) (ho : okF out) (h0 : 0 ≤ n) (hn : n < 9223372036854775808) : ∃ e, Loop s_l01Pow_1_s (a, n, out) = some e ∧ e.2.2.1 = (out * a ^ n.toNat) % 2130706433 := by
  refine Loop_inv (step := s_l01Pow_1_s) (fun s => okF s.1 ∧ okF s.2.2 ∧ 0 ≤ s.2.1 ∧ s.2.1 < 9223372036854775808 ∧ (s.2.2 * s.1 ^ s.2.1.toNat) % 2130706433 = (out * a ^ n.toNat) % 2130706433) (fun s => s.2.1.toNat) _ ?_ (a, n, out) ⟨ha, ho, h0, hn, rfl⟩
  rintro ⟨b, k, o⟩ ⟨hb, ho', hk0, hk1, hinv⟩
  dsimp only at hb ho' hk0 hk1 hinv
  simp only [s_l01Pow_1_s]
  by_cases hk : k > 0
  · left
    rw [brd hk, tmod_nn _ _ hk0, tdiv_nn _ _ hk0, wrap_i64 _ (by omega) (by omega), s_mul_eq hb hb]
    have hs := pow_step (a := b) (out := o) (n := k.toNat) (by omega)
    have e : (k / 2).toNat = k.toNat / 2 := by omega
    by_cases h2 : k % 2 = 1
    · rw [bre h2, s_mul_eq ho' hb]
      refine ⟨_, rfl, ⟨mF_ok _ _, mF_ok _ _, by dsimp only; omega, by dsimp only; omega, ?_⟩, by dsimp only; omega⟩
      dsimp only
      rw [e, hs.1 (by omega), hinv]
    · rw [brne h2]
      refine ⟨_, rfl, ⟨mF_ok _ _, ho', by dsimp only; omega, by dsimp only; omega, ?_⟩, by dsimp only; omega⟩
      dsimp only
      rw [e, hs.2 (by omega), hinv]
  · right
    rw [brn hk]
    refine ⟨_, rfl, ?_⟩
    have : k = 0 := by omega
    subst this
    dsimp only
    rw [← hinv]
    simp [mod_self ho']
theorem s_pow_eq {a n : Int} (ha : okF a) (h0 : 0 ≤ n) (hn : n < 9223372036854775808) : s_l01Pow a n = some (pF a n.toNat) := by
  unfold s_l01Pow
  obtain ⟨e, h1, h2⟩ := s_pow_loop ha okF1 h0 hn
  rw [h1, Option.bind_some, h2, Int.one_mul]; rfl

/-- The inverse. -/
def iF (a : Int) : Int := pF a 2130706431
theorem i_inverse_eq {a : Int} (ha : okF a) : i_inverse a = some (iF a) := by
  unfold i_inverse; rw [i_pow_eq ha (by decide) (by decide), Option.bind_some]; rfl
/-- The root of order 2 to the k. -/
def rootM (k : Nat) : Int := pF 3 (127 * 2 ^ (24 - k))
theorem rootM_ok (k : Nat) : okF (rootM k) := pF_ok _ _
theorem p2_24 : ∀ j : Nat, j < 25 → (2 : Int) ^ j ≤ 16777216 ∧ 0 < (2 : Int) ^ j := by decide
theorem shl127 {j : Nat} (h : j ≤ 24) : shl64 .i64 127 (j : Int) = 127 * 2 ^ j := by
  obtain ⟨h1, h0⟩ := p2_24 j (by omega)
  show IntKind.wrap .i64 (127 * 2 ^ (min ((j : Int).toNat) 64)) = _
  rw [Int.toNat_natCast, Nat.min_eq_left (by omega), wrap_i64 _ (by omega) (by omega)]
theorem i_root_eq {k : Nat} (h : k ≤ 24) : i_root (k : Int) = some (rootM k) := by
  unfold i_root
  obtain ⟨hq, hp⟩ := p2_24 (24 - k) (by omega)
  rw [wrap_i64 _ (by omega) (by omega), brd (by omega), show (24 : Int) - k = ((24 - k : Nat) : Int) by omega, shl127 (by omega), i_pow_eq okF3 (by omega) (by omega), Option.bind_some, rootM]
  congr 2
theorem s_root_eq {k : Nat} (h : k ≤ 24) : s_l01Root (k : Int) = some (rootM k) := by
  unfold s_l01Root
  obtain ⟨hq, hp⟩ := p2_24 (24 - k) (by omega)
  rw [wrap_i64 _ (by omega) (by omega), wrap_u64 _ (by omega) (by omega), brd (by omega), show (24 : Int) - k = ((24 - k : Nat) : Int) by omega, shl127 (by omega), s_pow_eq okF3 (by omega) (by omega), Option.bind_some, rootM]
  congr 2

/-! ### powers of two -/
def isP (n : Nat) : Bool := n == 1 || n == 2 || n == 4 || n == 8 || n == 16 || n == 32 || n == 64 || n == 128 || n == 256 || n == 512
/-- A power of two, at most a greatest one. -/
def powB (n most : Int) : Bool := decide (1 ≤ n) && decide (n ≤ most) && isP n.toNat
theorem and_isP : ∀ n : Nat, n < 513 → 1 ≤ n → (and64 .i64 (n : Int) ((n : Int) - 1) == 0) = isP n := by decide +kernel
theorem i_isPower_eq {n most : Int} (h : most ≤ 512) : i_isPower n most = some (powB n most) := by
  unfold i_isPower powB
  rw [i_in_eq, Option.bind_some]
  by_cases h1 : 1 ≤ n
  · by_cases h2 : n ≤ most
    · rw [decide_eq_true h1, decide_eq_true h2, Bool.and_true, br_true, Bool.true_and, wrap_i64 _ (by omega) (by omega)]
      have := and_isP n.toNat (by omega) (by omega)
      rw [Int.toNat_of_nonneg (by omega)] at this
      rw [this]
    · rw [decide_eq_false h2]; simp [br]
  · rw [decide_eq_false h1]; simp [br]
end Go.AI.Fn

set_option linter.unusedVariables false
namespace Go.AI.Fn

structure Src (B : Int) (m : l00Src) : Prop where
  at0 : 0 ≤ m.at_
  at1 : m.at_ ≤ B
  sd0 : 0 ≤ m.seed
  sd1 : m.seed < 2147483648
  len : m.code.length ≤ 1048600
theorem Src.mono {B C : Int} {m : l00Src} (h : Src B m) (hc : B ≤ C) : Src C m := ⟨h.at0, by have := h.at1; omega, h.sd0, h.sd1, h.len⟩
abbrev Big : Int := 4611686018427387904

theorem source_ok {code : List UInt8} (h : code.length ≤ 1048600) : ∃ m, s_l00Source code = some m ∧ Src 0 m := by
  refine ⟨_, rfl, ?_⟩
  have : (((code.length : Nat) : Int).tmod (1000 : Int)) = (code.length : Int) % 1000 := tmod_nn _ _ (by omega)
  constructor <;> dsimp only <;> omega

theorem byte_ok {B : Int} {m : l00Src} (h : Src B m) (hB : B < Big) : ∃ x m', s_l00Src_byte m = some (x, m') ∧ 0 ≤ x ∧ x < 256 ∧ Src (B + 1) m' := by
  obtain ⟨h1, h2, h3, h4, h5⟩ := h
  rcases m with ⟨code, at_, seed⟩
  dsimp only at h1 h2 h3 h4 h5
  unfold s_l00Src_byte
  dsimp only
  simp only [Big] at hB
  rw [wrap_i64 (at_ + 1) (by omega) (by omega)]
  by_cases c : at_ + 1 ≤ ((code.length : Nat) : Int)
  · rw [brd c, wrap_i64 (at_ + 1 - 1) (by omega) (by omega)]
    obtain ⟨x, hx, _, _⟩ := atL_of (l := code) (i := at_ + 1 - 1) (by omega) (by omega)
    have := u8_lt x
    rw [hx]
    simp only [Option.bind_some]
    rw [wrap_i64 (x.toNat : Int) (by omega) (by omega), wrap_i64 (seed * 31) (by omega) (by omega), wrap_i64 (seed * 31 + (x.toNat : Int)) (by omega) (by omega), wrap_i64 _ (by omega) (by omega), tmod_nn _ _ (by omega)]
    refine ⟨_, _, rfl, by omega, by omega, ?_⟩
    constructor <;> dsimp only <;> omega
  · rw [brn c]
    by_cases c2 : at_ + 1 > 3000
    · rw [brd c2]
      refine ⟨_, _, rfl, by omega, by omega, ?_⟩
      constructor <;> dsimp only <;> omega
    · rw [brn c2, wrap_i64 (seed * 1103515245) (by omega) (by omega), wrap_i64 (seed * 1103515245 + 12345) (by omega) (by omega), tmod_nn (seed * 1103515245 + 12345) _ (by omega), tdiv_nn _ _ (by omega), wrap_i64 _ (by omega) (by omega), tmod_nn _ _ (by omega)]
      refine ⟨_, _, rfl, by omega, by omega, ?_⟩
      constructor <;> dsimp only <;> omega

theorem next_ok {B n : Int} {m : l00Src} (h : Src B m) (hB : B + 3 < Big) : ∃ x m', s_l00Src_next n m = some (x, m') ∧ 0 ≤ x ∧ (1 < n → x < n) ∧ (n ≤ 1 → x = 0) ∧ Src (B + 3) m' := by
  unfold s_l00Src_next
  by_cases c : n ≤ 1
  · rw [brd c]; exact ⟨_, _, rfl, by omega, by omega, fun _ => rfl, h.mono (by omega)⟩
  · rw [brn c]
    by_cases c2 : n ≤ 256
    · rw [brd c2]
      obtain ⟨x, m1, e1, x0, x1, s1⟩ := byte_ok h (by omega)
      rw [e1]
      simp only [Option.bind_some]
      rw [brd (by omega), tmod_nn _ _ x0]
      exact ⟨_, _, rfl, Int.emod_nonneg _ (by omega), fun _ => Int.emod_lt_of_pos _ (by omega), by omega, s1.mono (by omega)⟩
    · rw [brn c2]
      obtain ⟨x, m1, e1, x0, x1, s1⟩ := byte_ok h (by omega)
      obtain ⟨y, m2, e2, y0, y1, s2⟩ := byte_ok s1 (by omega)
      obtain ⟨z, m3, e3, z0, z1, s3⟩ := byte_ok s2 (by omega)
      rw [e1]
      simp only [Option.bind_some]
      rw [e2]
      simp only [Option.bind_some]
      rw [e3]
      simp only [Option.bind_some]
      rw [brd (by omega), wrap_i64 (x * 65536) (by omega) (by omega), wrap_i64 (y * 256) (by omega) (by omega), wrap_i64 (x * 65536 + y * 256) (by omega) (by omega), wrap_i64 _ (by omega) (by omega), tmod_nn _ _ (by omega)]
      exact ⟨_, _, rfl, Int.emod_nonneg _ (by omega), fun _ => Int.emod_lt_of_pos _ (by omega), by omega, s3.mono (by omega)⟩

theorem chance_ok {B n : Int} {m : l00Src} (h : Src B m) (hB : B + 3 < Big) : ∃ x m', s_l00Src_chance n m = some (x, m') ∧ Src (B + 3) m' := by
  unfold s_l00Src_chance
  obtain ⟨x, m1, e1, _, _, _, s1⟩ := next_ok (n := n) h hB
  rw [e1]
  exact ⟨_, _, rfl, s1⟩

theorem field_ok {B : Int} {m : l00Src} (h : Src B m) (hB : B + 18 < Big) : ∃ x m', s_l00Src_field m = some (x, m') ∧ okF x ∧ Src (B + 18) m' := by
  unfold s_l00Src_field
  obtain ⟨x, m1, e1, x0, x1, _, s1⟩ := next_ok (n := 5) h (by omega)
  have := x1 (by omega)
  rw [e1]
  simp only [Option.bind_some]
  by_cases c : x = 0
  · rw [bre c]
    obtain ⟨y, m2, e2, y0, y1, _, s2⟩ := next_ok (n := 4) s1 (by omega)
    have := y1 (by omega)
    rw [e2]
    exact ⟨_, _, rfl, ⟨by omega, by omega⟩, s2.mono (by omega)⟩
  · rw [brne c]
    by_cases c2 : x = 1
    · rw [bre c2]
      obtain ⟨y, m2, e2, y0, y1, _, s2⟩ := next_ok (n := 3) s1 (by omega)
      have := y1 (by omega)
      rw [e2]
      refine ⟨_, _, rfl, ⟨?_, ?_⟩, s2.mono (by omega)⟩ <;> rw [wrap_i64 _ (by omega) (by omega)] <;> omega
    · rw [brne c2]
      have key := Loop_inv (step := s_l00Src_field_1_s)
        (fun s => okF s.1 ∧ 0 ≤ s.2.1 ∧ s.2.1 ≤ 5 ∧ Src (B + 3 + 3 * s.2.1) ⟨s.2.2.1, s.2.2.2.1, s.2.2.2.2⟩) (fun s => (5 - s.2.1).toNat)
        (fun e => okF e.1 ∧ Src (B + 18) ⟨e.2.2.2.1, e.2.2.2.2.1, e.2.2.2.2.2⟩) ?_ ((0 : Int), (0 : Int), m1.code, m1.at_, m1.seed) ⟨⟨by first | omega | (dsimp only; omega), by first | omega | (dsimp only; omega)⟩, by first | omega | (dsimp only; omega), by first | omega | (dsimp only; omega), s1.mono (by first | omega | (dsimp only; omega))⟩
      · obtain ⟨e, he, h1, h2⟩ := key
        rw [he]
        exact ⟨_, _, rfl, h1, h2⟩
      · rintro ⟨n, i, c, c2, c3⟩ ⟨⟨n0, n1⟩, i0, i1, hs⟩
        dsimp only at n0 n1 i0 i1 hs
        by_cases hi : i < 5
        · left
          obtain ⟨y, m2, e2, y0, y1, _, s2⟩ := next_ok (n := 256) hs (by omega)
          have := y1 (by omega)
          simp only [s_l00Src_field_1_s]
          rw [brd hi, e2]
          simp only [Option.bind_some]
          rw [wrap_i64 (n * 256) (by omega) (by omega), wrap_i64 (n * 256 + y) (by omega) (by omega), wrap_i64 (i + 1) (by omega) (by omega), tmod_nn _ _ (by omega)]
          refine ⟨_, rfl, ⟨⟨?_, ?_⟩, ?_, ?_, s2.mono ?_⟩, ?_⟩ <;> dsimp only <;> omega
        · right
          simp only [s_l00Src_field_1_s]
          rw [brn hi]
          exact ⟨_, rfl, ⟨n0, n1⟩, hs.mono (by first | omega | (dsimp only; omega))⟩
end Go.AI.Fn

set_option linter.unusedVariables false
namespace Go.AI.Fn
theorem ext_ok {B : Int} {m : l00Src} (h : Src B m) (hB : B + 40 < Big) : ∃ x m', s_l00Src_ext m = some (x, m') ∧ okE x ∧ Src (B + 40) m' := by
  unfold s_l00Src_ext
  obtain ⟨x, m1, e1, s1⟩ := chance_ok (n := 4) h (by omega)
  rw [e1]
  simp only [Option.bind_some]
  obtain ⟨y, m2, e2, y0, s2⟩ := field_ok s1 (by omega)
  obtain ⟨z, m3, e3, z0, s3⟩ := field_ok s2 (by omega)
  rw [e2]
  cases x
  · simp only [br_false, Option.bind_some]
    rw [e3]
    exact ⟨_, _, rfl, ⟨y0, z0⟩, s3.mono (by omega)⟩
  · exact ⟨_, _, rfl, ⟨y0, ⟨by first | omega | (dsimp only; omega), by first | omega | (dsimp only; omega)⟩⟩, s2.mono (by omega)⟩

theorem exts_ok {B n : Int} {m : l00Src} (h : Src B m) (hn0 : 0 ≤ n) (hn1 : n ≤ 1048576) (hB : B + 40 * n < Big) : ∃ l m', s_l00Src_exts n m = some (l, m') ∧ (l.length : Int) = n ∧ (∀ x ∈ l, okE x) ∧ Src (B + 40 * n) m' := by
  unfold s_l00Src_exts
  have key := Loop_inv (step := s_l00Src_exts_1_s n)
    (fun s => (s.1.length : Int) = s.2.1 ∧ (∀ x ∈ s.1, okE x) ∧ s.2.1 ≤ n ∧ Src (B + 40 * s.2.1) ⟨s.2.2.1, s.2.2.2.1, s.2.2.2.2⟩) (fun s => (n - s.2.1).toNat)
    (fun e => (e.1.length : Int) = n ∧ (∀ x ∈ e.1, okE x) ∧ Src (B + 40 * n) ⟨e.2.2.2.1, e.2.2.2.2.1, e.2.2.2.2.2⟩) ?_ (([] : List Ext), (0 : Int), m.code, m.at_, m.seed) ⟨by simp, by simp, by dsimp only; omega, h.mono (by first | omega | (dsimp only; omega))⟩
  · obtain ⟨e, he, h1, h2, h3⟩ := key
    rw [he]
    exact ⟨_, _, rfl, h1, h2, h3⟩
  · rintro ⟨l, i, c, c2, c3⟩ ⟨hl, ha, i1, hs⟩
    dsimp only at hl ha i1 hs
    by_cases hi : i < n
    · left
      obtain ⟨y, m2, e2, y0, s2⟩ := ext_ok hs (by omega)
      simp only [s_l00Src_exts_1_s]
      rw [brd hi, e2]
      simp only [Option.bind_some]
      rw [br_of (fits_of (by simp only [List.length_append, List.length_cons, List.length_nil]; omega)), wrap_i64 (i + 1) (by omega) (by omega)]
      refine ⟨_, rfl, ⟨?_, ?_, ?_, s2.mono ?_⟩, ?_⟩
      · simp only [List.length_append, List.length_cons, List.length_nil]; omega
      · intro x hx
        rcases List.mem_append.1 hx with hx | hx
        · exact ha x hx
        · rw [List.mem_singleton] at hx; subst hx; exact y0
      all_goals dsimp only; omega
    · right
      simp only [s_l00Src_exts_1_s]
      rw [brn hi]
      exact ⟨_, rfl, by dsimp only; omega, ha, hs.mono (by first | omega | (dsimp only; omega))⟩

theorem ExtsOf_ok {code : List UInt8} {n : Int} (h : code.length ≤ 1048600) (hn0 : 0 ≤ n) (hn1 : n ≤ 1048576) : ∃ l, s_ExtsOf code n = some l ∧ (l.length : Int) = n ∧ ∀ x ∈ l, okE x := by
  unfold s_ExtsOf
  obtain ⟨m, e1, s1⟩ := source_ok (show code.length ≤ 1048600 by omega)
  rw [e1]
  simp only [Option.bind_some]
  obtain ⟨l, m2, e2, h1, h2, _⟩ := exts_ok (n := n) s1 hn0 hn1 (by simp only [Big]; omega)
  rw [e2]
  exact ⟨_, rfl, h1, h2⟩
end Go.AI.Fn

set_option linter.unusedVariables false
set_option linter.unusedSimpArgs false
namespace Go.AI.Fn

/-! ### shapes of loops -/
theorem any_of_bad {α : Type} {p : α → Bool} {l : List α} {k : Nat} (hk : k < l.length) (h : p l[k] = true) : l.any p = true := List.any_eq_true.2 ⟨l[k], List.getElem_mem hk, h⟩
theorem none_of {α : Type} {p : α → Bool} {l : List α} (h : ∀ k (hk : k < l.length), p l[k] = false) : l.any p = false := by
  rw [List.any_eq_false]
  intro x hx
  obtain ⟨k, hk, rfl⟩ := List.getElem_of_mem hx
  simp [h k hk]
/-- 'the first place where something holds', as the library's IndexFunc and ContainsFunc look for it. -/
theorem contains_gen {α : Type} {p : α → Bool} {f : α → Option Bool} {l : List α} (hl : l.length ≤ 1099511627776) (hf : ∀ x ∈ l, f x = some (p x)) {step : Int → Option (Int ⊕ (Int ⊕ (Int × Bool)))}
    (hs : ∀ t, step t = br (decide (t < ((l.length : Nat) : Int))) ((atL l t).bind fun x => (f x).bind fun r => br r (some (.inr (.inl t))) (some (.inl (IntKind.wrap .i64 (t + 1))))) (some (.inr (.inr (t, decide (t < ((l.length : Nat) : Int))))))) :
    ((Loop step 0).bind (alt (fun e => some e) (fun _ => some (-1)))).bind (fun r => some (decide (r ≥ 0))) = some (l.any p) := by
  have key := Loop_all (step := step) (fun k => (k : Int)) l.length (fun k => !((l[k]?.map p).getD false)) (fun k => .inl (k : Int)) (e := .inr ((l.length : Int), false)) (fun k hk hp => by
      have hb : p l[k] = false := by simpa [hk] using hp
      rw [hs, brd (by omega), atL_nat hk, Option.bind_some, hf _ (List.getElem_mem hk), Option.bind_some, hb, br_false, wrap_i64 _ (by omega) (by omega)]; rfl)
    (fun k hk hp => by
      have hb : p l[k] = true := by simpa [hk] using hp
      rw [hs, brd (by omega), atL_nat hk, Option.bind_some, hf _ (List.getElem_mem hk), Option.bind_some, hb, br_true])
    (by rw [hs, brn (by omega), decide_eq_false (by omega)])
  rcases key with ⟨h1, h2⟩ | ⟨k, hk, h1, _, h2⟩
  · have e : Loop step 0 = some (.inr ((l.length : Int), false)) := h2
    rw [e, none_of (fun k hk => by simpa [hk] using h1 k hk)]; rfl
  · have e : Loop step 0 = some (.inl (k : Int)) := h2
    rw [e, any_of_bad hk (by simpa [hk] using h1)]
    simp only [Option.bind_some, alt_inl]
    rw [decide_eq_true (by omega)]
/-- 'false at the first that is not right'. -/
theorem all_gen {α : Type} {p : α → Bool} {f : α → Option Bool} {l : List α} (hl : l.length ≤ 1099511627776) (hf : ∀ x ∈ l, f x = some (p x)) {step : Int → Option (Int ⊕ (Unit ⊕ (Int × Bool)))}
    (hs : ∀ t, step t = br (decide (t < ((l.length : Nat) : Int))) ((atL l t).bind fun x => (f x).bind fun r => br (!r) (some (.inr (.inl ()))) (some (.inl (IntKind.wrap .i64 (t + 1))))) (some (.inr (.inr (t, decide (t < ((l.length : Nat) : Int))))))) :
    (Loop step 0).bind (alt (fun _ => some false) (fun _ => some true)) = some (l.all p) := by
  have key := Loop_all (step := step) (fun k => (k : Int)) l.length (fun k => ((l[k]?.map p).getD false)) (fun k => .inl ()) (e := .inr ((l.length : Int), false)) (fun k hk hp => by
      have hb : p l[k] = true := by simpa [hk] using hp
      rw [hs, brd (by omega), atL_nat hk, Option.bind_some, hf _ (List.getElem_mem hk), Option.bind_some, hb, Bool.not_true, br_false, wrap_i64 _ (by omega) (by omega)]; rfl)
    (fun k hk hp => by
      have hb : p l[k] = false := by simpa [hk] using hp
      rw [hs, brd (by omega), atL_nat hk, Option.bind_some, hf _ (List.getElem_mem hk), Option.bind_some, hb, Bool.not_false, br_true])
    (by rw [hs, brn (by omega), decide_eq_false (by omega)])
  rcases key with ⟨h1, h2⟩ | ⟨k, hk, h1, _, h2⟩
  · have e : Loop step 0 = some (.inr ((l.length : Int), false)) := h2
    have ha : l.all p = true := List.all_eq_true.2 fun x hx => by
      obtain ⟨k, hk, rfl⟩ := List.getElem_of_mem hx
      simpa [hk] using h1 k hk
    rw [e, ha]; rfl
  · have e : Loop step 0 = some (.inl ()) := h2
    have ha : l.all p = false := by
      rw [List.all_eq_false]
      exact ⟨l[k], List.getElem_mem hk, by simpa [hk] using h1⟩
    rw [e, ha]; rfl
theorem not_any_not {α : Type} (p : α → Bool) (l : List α) : (!l.any fun x => !p x) = l.all p := by
  induction l with
  | nil => rfl
  | cons x l ih => simp only [List.any_cons, List.all_cons, ← ih]; cases p x <;> simp

theorem i_areE_eq {l : List Ext} (hl : l.length ≤ 1099511627776) : i_are_i_Ext_ExtOK l = some (l.all okEb) := by
  unfold i_are_i_Ext_ExtOK slices_ContainsFunc_Li_Ext_i_Ext_are_i_Ext_1_ExtOK slices_IndexFunc_Li_Ext_i_Ext_are_i_Ext_1_ExtOK
  rw [contains_gen (step := slices_IndexFunc_Li_Ext_i_Ext_are_i_Ext_1_ExtOK_1_s l ((l.length : Nat) : Int)) (p := fun x => !okEb x) (f := i_are_i_Ext_1_ExtOK) hl (fun x _ => by unfold i_are_i_Ext_1_ExtOK; rw [i_ExtOK_eq]; rfl) (fun t => rfl), Option.bind_some, not_any_not]
theorem s_listE_eq {l : List Ext} (hl : l.length ≤ 1099511627776) : s_l02List l = some (l.all okEb) := by
  unfold s_l02List
  exact all_gen (f := s_ExtOK) hl (fun x _ => s_ExtOK_eq x) (fun t => rfl)
def OkEs (l : List Ext) : Prop := ∀ x ∈ l, okE x
def OkFs (l : List Int) : Prop := ∀ x ∈ l, okF x
theorem allE {l : List Ext} : l.all okEb = true ↔ OkEs l := by
  rw [List.all_eq_true]; exact ⟨fun h x hx => okEb_iff.1 (h x hx), fun h x hx => okEb_iff.2 (h x hx)⟩
theorem OkEs.get {l : List Ext} (h : OkEs l) {k : Nat} (hk : k < l.length) : okE l[k] := h _ (List.getElem_mem hk)
theorem OkFs.get {l : List Int} (h : OkFs l) {k : Nat} (hk : k < l.length) : okF l[k] := h _ (List.getElem_mem hk)
theorem OkEs.nil : OkEs [] := fun x hx => by cases hx
theorem OkEs.one {x : Ext} (h : okE x) : OkEs [x] := fun y hy => by rw [List.mem_singleton.1 hy]; exact h
theorem OkEs.map {α : Type} {f : α → Ext} (l : List α) (h : ∀ x ∈ l, okE (f x)) : OkEs (l.map f) := fun y hy => by obtain ⟨x, hx, rfl⟩ := List.mem_map.1 hy; exact h x hx
theorem OkEs.take {l : List Ext} (h : OkEs l) (k : Nat) : OkEs (l.take k) := fun x hx => h x (List.mem_of_mem_take hx)
theorem OkEs.drop {l : List Ext} (h : OkEs l) (k : Nat) : OkEs (l.drop k) := fun x hx => h x (List.mem_of_mem_drop hx)

/-! ### sums of products -/
/-! ### the table of a point -/
theorem OkEs.getD {l : List Ext} (h : OkEs l) (k : Nat) : okE (l.getD k e0) := by
  by_cases hk : k < l.length
  · simp [hk]; exact h.get hk
  · simp [List.getElem?_eq_none (Nat.le_of_not_lt hk)]; exact e0_ok
end Go.AI.Fn

set_option linter.unusedVariables false
set_option linter.unusedSimpArgs false
namespace Go.AI.Fn

/-- An element in its reduced form. -/
abbrev K := {x : Ext // okE x}
def K.n (i : Int) : K := ⟨eN (i % 2130706433), eN_ok (okF_mod _)⟩
instance instAddK : Add K := ⟨fun a b => ⟨eA a.1 b.1, eA_ok _ _⟩⟩
instance instMulK : Mul K := ⟨fun a b => ⟨eM a.1 b.1, eM_ok _ _⟩⟩
instance instSubK : Sub K := ⟨fun a b => ⟨eS a.1 b.1, eS_ok _ _⟩⟩
instance instNegK : Neg K := ⟨fun a => ⟨eS e0 a.1, eS_ok _ _⟩⟩
instance instNatCastK : NatCast K := ⟨fun n => K.n n⟩
instance instIntCastK : IntCast K := ⟨fun n => K.n n⟩
instance instOfNatK (n : Nat) : OfNat K n := ⟨K.n n⟩
def K.pow (a : K) : Nat → K
  | 0 => K.n 1
  | n + 1 => K.pow a n * a
instance instHPowK : HPow K Nat K := ⟨K.pow⟩
theorem K.ext {a b : K} (h : a.1 = b.1) : a = b := Subtype.ext h
theorem K.n_mul (i j : Int) : K.n (i * j) = K.n i * K.n j := K.ext (ext_eq (by
  show (i * j) % 2130706433 = ((i % 2130706433) * (j % 2130706433) + 3 * (0 * 0)) % 2130706433
  rw [show (3 : Int) * (0 * 0) = 0 from rfl, Int.add_zero, ← Int.mul_emod]) (by
  show (0 : Int) = ((i % 2130706433) * 0 + 0 * (j % 2130706433)) % 2130706433
  rw [Int.mul_zero, Int.zero_mul]; rfl))
/-! Coordinates: numbers modulo the prime, with which grind reckons. -/
instance instNeZeroPP : NeZero 2130706433 := ⟨by decide⟩
abbrev FP := Fin 2130706433
def K.a (x : K) : FP := ⟨x.1.A.toNat, by have h := x.2.1; unfold okF at h; omega⟩
def K.b (x : K) : FP := ⟨x.1.B.toNat, by have h := x.2.2; unfold okF at h; omega⟩
theorem K.A_nat (x : K) : ∃ n : Nat, x.1.A = (n : Int) ∧ n < 2130706433 ∧ (K.a x).val = n := ⟨x.1.A.toNat, by have h := x.2.1; unfold okF at h; omega, (K.a x).isLt, rfl⟩
theorem K.B_nat (x : K) : ∃ n : Nat, x.1.B = (n : Int) ∧ n < 2130706433 ∧ (K.b x).val = n := ⟨x.1.B.toNat, by have h := x.2.2; unfold okF at h; omega, (K.b x).isLt, rfl⟩
theorem K.eqv {x y : K} : x = y ↔ K.a x = K.a y ∧ K.b x = K.b y := ⟨fun h => by rw [h]; exact ⟨rfl, rfl⟩, fun h => by
  obtain ⟨n, h1, _, h2⟩ := K.A_nat x
  obtain ⟨m, h3, _, h4⟩ := K.A_nat y
  obtain ⟨i, h5, _, h6⟩ := K.B_nat x
  obtain ⟨j, h7, _, h8⟩ := K.B_nat y
  have e1 := congrArg Fin.val h.1
  have e2 := congrArg Fin.val h.2
  exact K.ext (ext_eq (by omega) (by omega))⟩
theorem K.ad_a (x y : K) : K.a (x + y) = K.a x + K.a y := Fin.ext (by
  obtain ⟨n, h1, _, h2⟩ := K.A_nat x
  obtain ⟨m, h3, _, h4⟩ := K.A_nat y
  rw [Fin.val_add, h2, h4]
  show ((x.1.A + y.1.A) % 2130706433).toNat = _
  omega)
theorem K.ad_b (x y : K) : K.b (x + y) = K.b x + K.b y := Fin.ext (by
  obtain ⟨n, h1, _, h2⟩ := K.B_nat x
  obtain ⟨m, h3, _, h4⟩ := K.B_nat y
  rw [Fin.val_add, h2, h4]
  show ((x.1.B + y.1.B) % 2130706433).toNat = _
  omega)
theorem K.su_a (x y : K) : K.a (x - y) = K.a x - K.a y := Fin.ext (by
  obtain ⟨n, h1, _, h2⟩ := K.A_nat x
  obtain ⟨m, h3, _, h4⟩ := K.A_nat y
  rw [Fin.sub_def]
  show ((x.1.A - y.1.A) % 2130706433).toNat = (2130706433 - (K.a y).val + (K.a x).val) % 2130706433
  omega)
theorem K.su_b (x y : K) : K.b (x - y) = K.b x - K.b y := Fin.ext (by
  obtain ⟨n, h1, _, h2⟩ := K.B_nat x
  obtain ⟨m, h3, _, h4⟩ := K.B_nat y
  rw [Fin.sub_def]
  show ((x.1.B - y.1.B) % 2130706433).toNat = (2130706433 - (K.b y).val + (K.b x).val) % 2130706433
  omega)
theorem K.n0_a : K.a 0 = 0 := rfl
theorem K.n0_b : K.b 0 = 0 := rfl
theorem K.n1_a : K.a 1 = 1 := rfl
theorem K.n1_b : K.b 1 = 0 := rfl
theorem K.n2_a : K.a 2 = 2 := rfl
theorem K.n2_b : K.b 2 = 0 := rfl
theorem K.n3_a : K.a 3 = 3 := rfl
theorem K.n3_b : K.b 3 = 0 := rfl
theorem K.ne_sub (x : K) : -x = 0 - x := rfl
theorem K.mu_a (x y : K) : K.a (x * y) = K.a x * K.a y + 3 * (K.b x * K.b y) := Fin.ext (by
  obtain ⟨n, h1, _, h2⟩ := K.A_nat x
  obtain ⟨m, h3, _, h4⟩ := K.A_nat y
  obtain ⟨i, h5, _, h6⟩ := K.B_nat x
  obtain ⟨j, h7, _, h8⟩ := K.B_nat y
  rw [Fin.val_add, Fin.val_mul, Fin.val_mul, Fin.val_mul, h2, h4, h6, h8, show (3 : FP).val = 3 from rfl]
  show ((x.1.A * y.1.A + 3 * (x.1.B * y.1.B)) % 2130706433).toNat = _
  rw [h1, h3, h5, h7, ← Int.natCast_mul, ← Int.natCast_mul]
  generalize n * m = u
  generalize i * j = v
  omega)
theorem K.mu_b (x y : K) : K.b (x * y) = K.a x * K.b y + K.b x * K.a y := Fin.ext (by
  obtain ⟨n, h1, _, h2⟩ := K.A_nat x
  obtain ⟨m, h3, _, h4⟩ := K.A_nat y
  obtain ⟨i, h5, _, h6⟩ := K.B_nat x
  obtain ⟨j, h7, _, h8⟩ := K.B_nat y
  rw [Fin.val_add, Fin.val_mul, Fin.val_mul, h2, h4, h6, h8]
  show ((x.1.A * y.1.B + x.1.B * y.1.A) % 2130706433).toNat = _
  rw [h1, h3, h5, h7, ← Int.natCast_mul, ← Int.natCast_mul]
  generalize n * j = u
  generalize i * m = v
  omega)
/-- Equations between elements, coordinate by coordinate. -/
theorem kg {p : Prop} (h : p := by (simp only [K.ne_sub, K.eqv, K.ad_a, K.ad_b, K.su_a, K.su_b, K.mu_a, K.mu_b, K.n0_a, K.n0_b, K.n1_a, K.n1_b, K.n2_a, K.n2_b, K.n3_a, K.n3_b] at * <;> first | grind only | grind)) : p := h
/-- Elements of the base field. -/
def kF (a : Int) : K := K.n a
theorem kF_val {a : Int} (h : okF a) : (kF a).1 = eN a := by show eN (a % 2130706433) = eN a; rw [mod_self h]
theorem kF_mF (a b : Int) : kF (mF a b) = kF a * kF b := by
  rw [kF, kF, kF, ← K.n_mul]
  exact K.ext (by show eN ((a * b) % 2130706433 % 2130706433) = eN ((a * b) % 2130706433); rw [Int.emod_emod])
/-- Lists of elements, lifted. -/
def kv (l : List K) : List Ext := l.map (·.1)
theorem kv_len (l : List K) : (kv l).length = l.length := by simp [kv]
theorem kv_ok (l : List K) : OkEs (kv l) := OkEs.map l fun x _ => x.2
theorem kv_lift {L : List Ext} (h : OkEs L) : ∃ l, L = kv l := by
  induction L with
  | nil => exact ⟨[], rfl⟩
  | cons x L ih =>
    obtain ⟨l, rfl⟩ := ih fun y hy => h y (by simp [hy])
    exact ⟨⟨x, h x (by simp)⟩ :: l, rfl⟩
theorem kv_get {l : List K} {j : Nat} (h : j < l.length) : (kv l)[j]'(by rw [kv_len]; exact h) = (l.getD j 0).1 := by simp [kv, h]
theorem kv_at {l : List K} {j : Nat} (h : j < l.length) : atL (kv l) (j : Int) = some (l.getD j 0).1 := by rw [atL_nat (by rw [kv_len]; exact h), kv_get h]
theorem kv_get? {l : List K} {j : Nat} (h : j < l.length) : (kv l)[j]? = some (l.getD j 0).1 := by rw [get_some (by rw [kv_len]; exact h), kv_get h]
end Go.AI.Fn

set_option linter.unusedVariables false
set_option linter.unusedSimpArgs false
namespace Go.AI.Fn

theorem pw0 (x : K) : x ^ 0 = 1 := rfl
theorem pwS (x : K) (n : Nat) : x ^ (n + 1) = x ^ n * x := rfl
theorem pw1 (x : K) : x ^ 1 = x := by rw [pwS, pw0]; exact kg
theorem pw_add (x : K) (m : Nat) : ∀ n, x ^ (m + n) = x ^ m * x ^ n
  | 0 => by rw [Nat.add_zero, pw0]; exact kg
  | n + 1 => by rw [← Nat.add_assoc, pwS, pwS, pw_add x m n]; exact kg
theorem pw_mul (x : K) (m : Nat) : ∀ n, x ^ (m * n) = (x ^ m) ^ n
  | 0 => by rw [Nat.mul_zero, pw0, pw0]
  | n + 1 => by rw [Nat.mul_succ, pw_add, pwS, pw_mul x m n]
theorem one_pw : ∀ n : Nat, (1 : K) ^ n = 1
  | 0 => rfl
  | n + 1 => by rw [pwS, one_pw n]; exact kg
theorem mul_pw (x y : K) : ∀ n : Nat, (x * y) ^ n = x ^ n * y ^ n
  | 0 => by rw [pw0, pw0, pw0]; exact kg
  | n + 1 => by rw [pwS, pwS, pwS, mul_pw x y n]; exact kg
theorem sq_pw (x : K) (n : Nat) : (x * x) ^ n = x ^ n * x ^ n := mul_pw x x n
theorem pw_two (x : K) (n : Nat) : x ^ (2 * n) = x ^ n * x ^ n := by rw [Nat.two_mul, pw_add]
theorem pw_even (x : K) (h : x = -1) (n : Nat) : x ^ (2 * n) = 1 := by
  have : x * x = 1 := by rw [h]; exact kg
  rw [pw_two, ← mul_pw, this, one_pw]
theorem pw_comm (x : K) (m n : Nat) : (x ^ m) ^ n = (x ^ n) ^ m := by rw [← pw_mul, Nat.mul_comm, pw_mul]

/-! ### lists, their even and odd places -/
def evs : List K → List K
  | a :: _ :: l => a :: evs l
  | [a] => [a]
  | [] => []
def ods : List K → List K
  | _ :: b :: l => b :: ods l
  | _ => []
theorem evs_get : ∀ (l : List K) (j : Nat), (evs l).getD j 0 = l.getD (2 * j) 0
  | [], j => by simp [evs]
  | [a], 0 => rfl
  | [a], j + 1 => by simp [evs]
  | a :: b :: l, 0 => rfl
  | a :: b :: l, j + 1 => by rw [show 2 * (j + 1) = 2 * j + 1 + 1 by omega]; exact evs_get l j
theorem ods_get : ∀ (l : List K) (j : Nat), (ods l).getD j 0 = l.getD (2 * j + 1) 0
  | [], j => by simp [ods]
  | [a], j => by simp [ods]
  | a :: b :: l, 0 => rfl
  | a :: b :: l, j + 1 => by rw [show 2 * (j + 1) + 1 = 2 * j + 1 + 1 + 1 by omega]; exact ods_get l j
theorem evs_len : ∀ (l : List K) (m : Nat), l.length = 2 * m → (evs l).length = m
  | [], m, h => by simp at h; simp [evs]; omega
  | [a], m, h => by simp at h; omega
  | a :: b :: l, 0, h => by simp at h
  | a :: b :: l, m + 1, h => by simp only [evs, List.length_cons]; rw [evs_len l m (by simp only [List.length_cons] at h; omega)]
theorem ods_len : ∀ (l : List K) (m : Nat), l.length = 2 * m → (ods l).length = m
  | [], m, h => by simp at h; simp [ods]; omega
  | [a], m, h => by simp at h; omega
  | a :: b :: l, 0, h => by simp at h
  | a :: b :: l, m + 1, h => by simp only [ods, List.length_cons]; rw [ods_len l m (by simp only [List.length_cons] at h; omega)]
theorem list_ext {a b : List K} (hl : a.length = b.length) (h : ∀ j, j < a.length → a.getD j 0 = b.getD j 0) : a = b := by
  refine List.ext_getElem hl fun j h1 h2 => ?_
  have := h j h1
  simpa [h1, h2] using this
theorem evs_ods_ext : ∀ (l m : List K) (n : Nat), l.length = 2 * n → m.length = 2 * n → evs l = evs m → ods l = ods m → l = m
  | [], [], _, _, _, _, _ => rfl
  | [], _ :: _, n, h, g, _, _ => by simp at h g; omega
  | _ :: _, [], n, h, g, _, _ => by simp at h g; omega
  | [_], _, n, h, g, _, _ => by simp at h; omega
  | _, [_], n, h, g, _, _ => by simp at g; omega
  | a :: b :: l, c :: d :: m, n, h, g, e1, e2 => by
    simp only [evs, ods, List.cons.injEq] at e1 e2
    rw [e1.1, e2.1, evs_ods_ext l m (n - 1) (by simp only [List.length_cons] at h; omega) (by simp only [List.length_cons] at g; omega) e1.2 e2.2]
theorem gd_l {a b : List K} {j : Nat} (h : j < a.length) : (a ++ b).getD j 0 = a.getD j 0 := by simp [List.getElem?_append_left h]
theorem gd_r {a b : List K} {j : Nat} : (a ++ b).getD (a.length + j) 0 = b.getD j 0 := by simp [List.getElem?_append_right]
theorem rep_get (n j : Nat) : (List.replicate n (0 : K)).getD j 0 = 0 := by
  by_cases h : j < n <;> simp [h]
theorem getD_mr {f : Nat → K} {h j : Nat} (hj : j < h) : ((List.range h).map f).getD j 0 = f j := by simp [hj]

/-! ### the transform -/
def lowM (E O : List K) (w : K) (h : Nat) : List K := (List.range h).map fun j => E.getD j 0 + O.getD j 0 * w ^ j
def higM (E O : List K) (w : K) (h : Nat) : List K := (List.range h).map fun j => E.getD j 0 - O.getD j 0 * w ^ j
theorem lowM_len (E O : List K) (w : K) (h : Nat) : (lowM E O w h).length = h := by simp [lowM]
theorem higM_len (E O : List K) (w : K) (h : Nat) : (higM E O w h).length = h := by simp [higM]
def V : Nat → List K → K → List K
  | 0, l, _ => l
  | k + 1, l, w => lowM (V k (evs l) (w * w)) (V k (ods l) (w * w)) w (2 ^ k) ++ higM (V k (evs l) (w * w)) (V k (ods l) (w * w)) w (2 ^ k)
theorem V_len : ∀ (k : Nat) (l : List K) (w : K), l.length = 2 ^ k → (V k l w).length = 2 ^ k
  | 0, l, w, h => h
  | k + 1, l, w, h => by rw [V, List.length_append, lowM_len, higM_len, Nat.pow_succ]; omega
theorem V_lo {k : Nat} {l : List K} {w : K} {j : Nat} (hj : j < 2 ^ k) : (V (k + 1) l w).getD j 0 = (V k (evs l) (w * w)).getD j 0 + (V k (ods l) (w * w)).getD j 0 * w ^ j := by
  rw [V, gd_l (by rw [lowM_len]; exact hj), lowM, getD_mr hj]
theorem V_hi {k : Nat} {l : List K} {w : K} {j : Nat} (hj : j < 2 ^ k) : (V (k + 1) l w).getD (2 ^ k + j) 0 = (V k (evs l) (w * w)).getD j 0 - (V k (ods l) (w * w)).getD j 0 * w ^ j := by
  have e := gd_r (a := lowM (V k (evs l) (w * w)) (V k (ods l) (w * w)) w (2 ^ k)) (b := higM (V k (evs l) (w * w)) (V k (ods l) (w * w)) w (2 ^ k)) (j := j)
  rw [lowM_len] at e
  rw [V, e, higM, getD_mr hj]
theorem evs_2 {l : List K} {k : Nat} (h : l.length = 2 ^ (k + 1)) : (evs l).length = 2 ^ k := evs_len l _ (by rw [h, Nat.pow_succ]; omega)
theorem ods_2 {l : List K} {k : Nat} (h : l.length = 2 ^ (k + 1)) : (ods l).length = 2 ^ k := ods_len l _ (by rw [h, Nat.pow_succ]; omega)

/-! ### combinations -/
def cb (r : K) (a b : List K) : List K := List.zipWith (fun x y => x + r * y) a b
theorem cb_len {r : K} {a b : List K} (h : a.length = b.length) : (cb r a b).length = a.length := by simp [cb, h]
theorem cb_get {r : K} : ∀ {a b : List K} (h : a.length = b.length) (j : Nat), (cb r a b).getD j 0 = a.getD j 0 + r * b.getD j 0
  | [], [], _, j => by simp [cb]; exact kg
  | x :: a, y :: b, h, 0 => by simp [cb]
  | x :: a, y :: b, h, j + 1 => by
    have := cb_get (r := r) (a := a) (b := b) (by simpa using h) j
    simpa [cb] using this
theorem cb_evs {r : K} {a b : List K} {n : Nat} (h : a.length = 2 * n) (g : b.length = 2 * n) : evs (cb r a b) = cb r (evs a) (evs b) := by
  have h1 := evs_len a n h
  have h2 := evs_len b n g
  have h3 := evs_len (cb r a b) n (by rw [cb_len (by omega), h])
  refine list_ext (by rw [cb_len (by omega)]; omega) fun j hj => ?_
  rw [evs_get, cb_get (by omega), cb_get (by omega), evs_get, evs_get]
theorem cb_ods {r : K} {a b : List K} {n : Nat} (h : a.length = 2 * n) (g : b.length = 2 * n) : ods (cb r a b) = cb r (ods a) (ods b) := by
  have h1 := ods_len a n h
  have h2 := ods_len b n g
  have h3 := ods_len (cb r a b) n (by rw [cb_len (by omega), h])
  refine list_ext (by rw [cb_len (by omega)]; omega) fun j hj => ?_
  rw [ods_get, cb_get (by omega), cb_get (by omega), ods_get, ods_get]
theorem V_cb {r : K} : ∀ (k : Nat) (a b : List K) (w : K), a.length = 2 ^ k → b.length = 2 ^ k → V k (cb r a b) w = cb r (V k a w) (V k b w)
  | 0, a, b, w, _, _ => rfl
  | k + 1, a, b, w, ha, hb => by
    have hc : (cb r a b).length = 2 ^ (k + 1) := by rw [cb_len (by omega), ha]
    have h1 := V_len (k + 1) a w ha
    have h2 := V_len (k + 1) b w hb
    have ea := V_len k (evs a) (w * w) (evs_2 ha)
    have eb := V_len k (evs b) (w * w) (evs_2 hb)
    have oa := V_len k (ods a) (w * w) (ods_2 ha)
    have ob := V_len k (ods b) (w * w) (ods_2 hb)
    refine list_ext (by rw [cb_len (by omega), V_len _ _ _ hc, h1]) fun j hj => ?_
    rw [V_len _ _ _ hc, Nat.pow_succ] at hj
    rw [cb_get (by omega)]
    have e1 : evs (cb r a b) = cb r (evs a) (evs b) := cb_evs (n := 2 ^ k) (by rw [ha, Nat.pow_succ]; omega) (by rw [hb, Nat.pow_succ]; omega)
    have e2 : ods (cb r a b) = cb r (ods a) (ods b) := cb_ods (n := 2 ^ k) (by rw [ha, Nat.pow_succ]; omega) (by rw [hb, Nat.pow_succ]; omega)
    by_cases c : j < 2 ^ k
    · rw [V_lo c, V_lo c, V_lo c, e1, e2, V_cb k _ _ _ (evs_2 ha) (evs_2 hb), V_cb k _ _ _ (ods_2 ha) (ods_2 hb), cb_get (by omega), cb_get (by omega)]
      exact kg
    · obtain ⟨i, rfl⟩ : ∃ i, j = 2 ^ k + i := ⟨j - 2 ^ k, by omega⟩
      have hi : i < 2 ^ k := by omega
      rw [V_hi hi, V_hi hi, V_hi hi, e1, e2, V_cb k _ _ _ (evs_2 ha) (evs_2 hb), V_cb k _ _ _ (ods_2 ha) (ods_2 hb), cb_get (by omega), cb_get (by omega)]
      exact kg

/-! ### values of polynomials -/
def ev : List K → K → K
  | [], _ => 0
  | a :: l, x => a + x * ev l x
theorem ev_split : ∀ (l : List K) (x : K), ev l x = ev (evs l) (x * x) + x * ev (ods l) (x * x)
  | [], x => by simp only [ev, evs, ods]; exact kg
  | [a], x => by simp only [ev, evs, ods]; exact kg
  | a :: b :: l, x => by
    have := ev_split l x
    simp only [ev, evs, ods]; exact kg
theorem ev_app : ∀ (a b : List K) (x : K), ev (a ++ b) x = ev a x + x ^ a.length * ev b x
  | [], b, x => by simp only [List.nil_append, ev, List.length_nil, pw0]; exact kg
  | y :: a, b, x => by
    have := ev_app a b x
    simp only [List.cons_append, ev, List.length_cons, pwS]; exact kg
theorem ev_cb {r : K} : ∀ (a b : List K) (x : K), a.length = b.length → ev (cb r a b) x = ev a x + r * ev b x
  | [], [], x, _ => by simp only [cb, List.zipWith_nil_left, ev]; exact kg
  | y :: a, z :: b, x, h => by
    have := ev_cb (r := r) a b x (by simpa using h)
    simp only [cb] at this
    simp only [cb, List.zipWith_cons_cons, ev]; exact kg
def tw (w : K) : K → List K → List K
  | _, [] => []
  | c, a :: l => a * c :: tw w (c * w) l
theorem tw_len (w : K) : ∀ (c : K) (l : List K), (tw w c l).length = l.length
  | _, [] => rfl
  | c, a :: l => by simp only [tw, List.length_cons, tw_len w (c * w) l]
theorem tw_get (w : K) : ∀ (c : K) (l : List K) (j : Nat), (tw w c l).getD j 0 = l.getD j 0 * (c * w ^ j)
  | _, [], j => by simp [tw]; exact kg
  | c, a :: l, 0 => by simp only [tw, List.getD_cons_zero, pw0]; exact kg
  | c, a :: l, j + 1 => by
    simp only [tw, List.getD_cons_succ, tw_get w (c * w) l j, pwS]; exact kg
theorem ev_tw (w : K) : ∀ (c : K) (l : List K) (x : K), ev (tw w c l) x = c * ev l (w * x)
  | _, [], x => by simp only [tw, ev]; exact kg
  | c, a :: l, x => by
    have := ev_tw w (c * w) l x
    simp only [tw, ev]; exact kg
/-- A root of the right order: half of the turn is -1. -/
def Rt : Nat → K → Prop
  | 0, _ => True
  | k + 1, w => w ^ 2 ^ k = -1
theorem Rt.sq {k : Nat} {w : K} (h : Rt (k + 1) w) : Rt k (w * w) := by
  cases k with
  | zero => trivial
  | succ k =>
    show (w * w) ^ 2 ^ k = -1
    rw [sq_pw, ← pw_add, show 2 ^ k + 2 ^ k = 2 ^ (k + 1) by rw [Nat.pow_succ]; omega]; exact h
theorem V_ev : ∀ (k : Nat) (l : List K) (w : K), l.length = 2 ^ k → Rt k w → ∀ j, j < 2 ^ k → (V k l w).getD j 0 = ev l (w ^ j)
  | 0, [a], w, _, _, 0, _ => by
    show a = a + w ^ 0 * 0
    exact kg
  | k + 1, l, w, hl, hw, j, hj => by
    have ih1 := V_ev k (evs l) (w * w) (evs_2 hl) hw.sq
    have ih2 := V_ev k (ods l) (w * w) (ods_2 hl) hw.sq
    rw [Nat.pow_succ] at hj
    by_cases c : j < 2 ^ k
    · rw [V_lo c, ih1 j c, ih2 j c, ev_split l, sq_pw]; exact kg
    · obtain ⟨i, rfl⟩ : ∃ i, j = 2 ^ k + i := ⟨j - 2 ^ k, by omega⟩
      have hi : i < 2 ^ k := by omega
      have hq : w ^ (2 ^ k + i) = -(w ^ i) := by rw [pw_add, show w ^ 2 ^ k = -1 from hw]; exact kg
      rw [V_hi hi, ih1 i hi, ih2 i hi, ev_split l, hq, sq_pw, show -w ^ i * -w ^ i = w ^ i * w ^ i by exact kg]; exact kg
/-- By the other split: even places from sums of halves, odd places from differences. -/
theorem V_evs {k : Nat} {a b : List K} {w : K} (ha : a.length = 2 ^ k) (hb : b.length = 2 ^ k) (hw : Rt (k + 1) w) : evs (V (k + 1) (a ++ b) w) = V k (cb 1 a b) (w * w) := by
  have hl : (a ++ b).length = 2 ^ (k + 1) := by rw [List.length_append, Nat.pow_succ]; omega
  have hc : (cb 1 a b).length = 2 ^ k := by rw [cb_len (by omega), ha]
  refine list_ext (by rw [evs_2 (V_len _ _ _ hl), V_len _ _ _ hc]) fun j hj => ?_
  rw [evs_2 (V_len _ _ _ hl)] at hj
  rw [evs_get, V_ev _ _ _ hl hw (2 * j) (by rw [Nat.pow_succ]; omega), V_ev k _ _ hc hw.sq j hj, ev_cb _ _ _ (by omega), ev_app, ha, pw_comm, show w ^ 2 ^ k = -1 from hw, pw_even _ rfl, pw_two, sq_pw]
theorem V_ods {k : Nat} {a b : List K} {w : K} (ha : a.length = 2 ^ k) (hb : b.length = 2 ^ k) (hw : Rt (k + 1) w) : ods (V (k + 1) (a ++ b) w) = V k (tw w 1 (cb (-1) a b)) (w * w) := by
  have hl : (a ++ b).length = 2 ^ (k + 1) := by rw [List.length_append, Nat.pow_succ]; omega
  have hc : (tw w 1 (cb (-1) a b)).length = 2 ^ k := by rw [tw_len, cb_len (by omega), ha]
  refine list_ext (by rw [ods_2 (V_len _ _ _ hl), V_len _ _ _ hc]) fun j hj => ?_
  rw [ods_2 (V_len _ _ _ hl)] at hj
  rw [ods_get, V_ev _ _ _ hl hw (2 * j + 1) (by rw [Nat.pow_succ]; omega), V_ev k _ _ hc hw.sq j hj, ev_tw, ev_cb _ _ _ (by omega), ev_app, ha, pw_comm, show w ^ 2 ^ k = -1 from hw, pwS (-1), pw_even _ rfl, pwS, pw_two, sq_pw]
  rw [show w ^ j * w ^ j * w = w * (w ^ j * w ^ j) by exact kg]; exact kg
theorem V_zero (w : K) (k : Nat) : V k (List.replicate (2 ^ k) 0) w = List.replicate (2 ^ k) 0 := by
  have h := V_cb (r := -1) k (List.replicate (2 ^ k) 0) (List.replicate (2 ^ k) 0) w (by simp) (by simp)
  have e : cb (-1) (List.replicate (2 ^ k) (0 : K)) (List.replicate (2 ^ k) 0) = List.replicate (2 ^ k) 0 := by
    refine list_ext (by rw [cb_len rfl]) fun j hj => ?_
    rw [cb_get rfl, rep_get]; exact kg
  have hv := V_len k (List.replicate (2 ^ k) 0) w (by simp)
  rw [e] at h
  refine list_ext (by rw [hv, List.length_replicate]) fun j hj => ?_
  have h2 := congrArg (fun l => l.getD j 0) h
  rw [cb_get rfl] at h2
  rw [rep_get]
  exact kg
def sc (c : K) (l : List K) : List K := l.map fun a => c * a
theorem sc_len (c : K) (l : List K) : (sc c l).length = l.length := by simp [sc]
theorem sc_get (c : K) (l : List K) (j : Nat) : (sc c l).getD j 0 = c * l.getD j 0 := by
  by_cases h : j < l.length
  · simp [sc, h]
  · simp [sc, h]; exact kg
theorem sc_cb (c : K) (l : List K) : sc c l = cb c (List.replicate l.length 0) l := list_ext (by rw [cb_len (by simp), sc_len]; simp) fun j hj => by
  rw [sc_get, cb_get (by simp), rep_get]; exact kg
theorem V_sc {k : Nat} {l : List K} (c : K) (w : K) (h : l.length = 2 ^ k) : V k (sc c l) w = sc c (V k l w) := by
  rw [sc_cb, sc_cb, V_cb k _ _ _ (by simp [h]) h, h, V_zero, V_len _ _ _ h]
theorem evs_sc (c : K) (l : List K) (n : Nat) (h : l.length = 2 * n) : evs (sc c l) = sc c (evs l) := list_ext (by rw [evs_len _ n (by rw [sc_len, h]), sc_len, evs_len _ n h]) fun j _ => by rw [evs_get, sc_get, sc_get, evs_get]
theorem ods_sc (c : K) (l : List K) (n : Nat) (h : l.length = 2 * n) : ods (sc c l) = sc c (ods l) := list_ext (by rw [ods_len _ n (by rw [sc_len, h]), sc_len, ods_len _ n h]) fun j _ => by rw [ods_get, sc_get, sc_get, ods_get]
theorem Rt.inv {k : Nat} {w v : K} (h : Rt k w) (hv : w * v = 1) : Rt k v := by
  cases k with
  | zero => trivial
  | succ k =>
    show v ^ 2 ^ k = -1
    have h1 : w ^ 2 ^ k = -1 := h
    have h2 : (w * v) ^ 2 ^ k = 1 := by rw [hv, one_pw]
    rw [mul_pw, h1] at h2
    exact kg
/-- Back again. -/
theorem V_inv : ∀ (k : Nat) (l : List K) (w v : K), l.length = 2 ^ k → Rt k w → w * v = 1 → V k (V k l w) v = sc (2 ^ k) l
  | 0, l, w, v, _, _, _ => by
    show l = sc (2 ^ 0) l
    exact list_ext (by rw [sc_len]) fun j _ => by rw [sc_get, pw0]; exact kg
  | k + 1, l, w, v, hl, hw, hv => by
    have hv2 : Rt (k + 1) v := hw.inv hv
    have he := evs_2 hl
    have ho := ods_2 hl
    have hE := V_len k (evs l) (w * w) he
    have hO := V_len k (ods l) (w * w) ho
    have ih1 := V_inv k (evs l) (w * w) (v * v) he hw.sq (by exact kg)
    have ih2 := V_inv k (ods l) (w * w) (v * v) ho hw.sq (by exact kg)
    have hsum : cb 1 (lowM (V k (evs l) (w * w)) (V k (ods l) (w * w)) w (2 ^ k)) (higM (V k (evs l) (w * w)) (V k (ods l) (w * w)) w (2 ^ k)) = sc 2 (V k (evs l) (w * w)) :=
      list_ext (by rw [cb_len (by rw [lowM_len, higM_len]), lowM_len, sc_len, hE]) fun j hj => by
        rw [cb_len (by rw [lowM_len, higM_len]), lowM_len] at hj
        rw [cb_get (by rw [lowM_len, higM_len]), sc_get, lowM, higM, getD_mr hj, getD_mr hj]; exact kg
    have hdif : tw v 1 (cb (-1) (lowM (V k (evs l) (w * w)) (V k (ods l) (w * w)) w (2 ^ k)) (higM (V k (evs l) (w * w)) (V k (ods l) (w * w)) w (2 ^ k))) = sc 2 (V k (ods l) (w * w)) :=
      list_ext (by rw [tw_len, cb_len (by rw [lowM_len, higM_len]), lowM_len, sc_len, hO]) fun j hj => by
        rw [tw_len, cb_len (by rw [lowM_len, higM_len]), lowM_len] at hj
        have hx : w ^ j * v ^ j = 1 := by rw [← mul_pw, hv, one_pw]
        rw [tw_get, cb_get (by rw [lowM_len, higM_len]), sc_get, lowM, higM, getD_mr hj, getD_mr hj]; exact kg
    have h1 : evs (V (k + 1) (V (k + 1) l w) v) = evs (sc (2 ^ (k + 1)) l) := by
      conv => lhs; arg 1; arg 2; rw [V]
      rw [V_evs (lowM_len _ _ _ _) (higM_len _ _ _ _) hv2, hsum, V_sc _ _ hE, ih1, evs_sc _ _ (2 ^ k) (by rw [hl, Nat.pow_succ]; omega)]
      exact list_ext (by rw [sc_len, sc_len, sc_len]) fun j _ => by rw [sc_get, sc_get, sc_get, pwS]; exact kg
    have h2 : ods (V (k + 1) (V (k + 1) l w) v) = ods (sc (2 ^ (k + 1)) l) := by
      conv => lhs; arg 1; arg 2; rw [V]
      rw [V_ods (lowM_len _ _ _ _) (higM_len _ _ _ _) hv2, hdif, V_sc _ _ hO, ih2, ods_sc _ _ (2 ^ k) (by rw [hl, Nat.pow_succ]; omega)]
      exact list_ext (by rw [sc_len, sc_len, sc_len]) fun j _ => by rw [sc_get, sc_get, sc_get, pwS]; exact kg
    exact evs_ods_ext _ _ (2 ^ k) (by rw [V_len _ _ _ (V_len _ _ _ hl), Nat.pow_succ]; omega) (by rw [sc_len, hl, Nat.pow_succ]; omega) h1 h2
end Go.AI.Fn

set_option linter.unusedVariables false
set_option linter.unusedSimpArgs false
namespace Go.AI.Fn

end Go.AI.Fn

set_option linter.unusedVariables false
namespace Go.AI.Fn

theorem i_inA (n a b : Int) : i_in n a b = some (decide (a ≤ n ∧ n ≤ b)) := by
  unfold i_in
  by_cases h : a ≤ n
  · rw [brd h]; simp [h]
  · rw [brn h]; simp [h]
theorem s_inA (n a b : Int) : s_l01In n a b = some (decide (a ≤ n ∧ n ≤ b)) := by
  unfold s_l01In
  by_cases h : a ≤ n
  · rw [brd h]; simp [h]
  · rw [brn h]; simp [h]
end Go.AI.Fn

set_option linter.unusedVariables false
namespace Go.AI.Fn

end Go.AI.Fn

set_option linter.unusedVariables false
set_option linter.unusedSimpArgs false
namespace Go.AI.Fn

theorem shl1 {k : Nat} (h : k ≤ 62) : shl64 .i64 1 (k : Int) = ((2 ^ k : Nat) : Int) := by
  have h2 : ∀ k : Nat, k < 63 → (2 : Int) ^ k ≤ 4611686018427387904 ∧ 0 < (2 : Int) ^ k := by decide
  obtain ⟨h3, h4⟩ := h2 k (by omega)
  show IntKind.wrap .i64 (1 * 2 ^ (min ((k : Int).toNat) 64)) = _
  rw [Int.toNat_natCast, Nat.min_eq_left (by omega), Int.one_mul, wrap_i64 _ (by omega) (by omega)]
  simp
end Go.AI.Fn

set_option linter.unusedVariables false
namespace Go.AI.Fn

end Go.AI.Fn

set_option linter.unusedVariables false
set_option linter.unusedSimpArgs false
namespace Go.AI.Fn

theorem isP_pow : ∀ k : Nat, k ≤ 9 → isP (2 ^ k) = true := by decide
theorem powB_two {k : Nat} {most : Int} (h : k ≤ 9) (hm : ((2 ^ k : Nat) : Int) ≤ most) : powB ((2 ^ k : Nat) : Int) most = true := by
  have : 1 ≤ 2 ^ k := Nat.one_le_two_pow
  unfold powB
  rw [decide_eq_true (by omega), decide_eq_true hm, Int.toNat_natCast, isP_pow k h]; rfl
end Go.AI.Fn

set_option linter.unusedVariables false
set_option linter.unusedSimpArgs false
namespace Go.AI.Fn

theorem lim_eq {α : Type} {g : Nat → Option α} {N : Nat} {r : α} (h : ∀ n, g n = if N ≤ n then some r else none) : lim g = some r := by
  have hx : ∃ n r, g n = some r := ⟨N, r, by rw [h, if_pos (Nat.le_refl _)]⟩
  unfold lim
  rw [dif_pos hx]
  obtain ⟨r', hr'⟩ := hx.choose_spec
  have := h hx.choose
  rw [hr'] at this ⊢
  split at this
  · exact this
  · cases this
theorem take_snoc {l : List K} {j : Nat} (h : j < l.length) : l.take (j + 1) = l.take j ++ [l.getD j 0] := by rw [take_succ h]; simp [h]
theorem kv_snoc (l : List K) (x : K) : kv (l ++ [x]) = kv l ++ [x.1] := by simp [kv]
theorem p2_9 : ∀ k : Nat, k ≤ 9 → 1 ≤ 2 ^ k ∧ 2 ^ k ≤ 512 := by decide
theorem i_split {l : List K} {m : Nat} {w : Int} (h : l.length = 2 * m) (hm : m ≤ 1000) : Loop (i_values_1_s (kv l) w) ([], [], 0) = some (kv (evs l), kv (ods l), (l.length : Int), false) := by
  have h1 := evs_len l m h
  have h2 := ods_len l m h
  have key := Loop_for (step := i_values_1_s (kv l) w) (fun j => (kv ((evs l).take j), kv ((ods l).take j), ((2 * j : Nat) : Int))) m (e := (kv (evs l), kv (ods l), (l.length : Int), false)) (fun j hj => ?_) ?_
  · exact key
  · simp only [i_values_1_s]
    have e1 : atL (kv l) ((2 * j : Nat) : Int) = some ((evs l).getD j 0).1 := by rw [kv_at (by omega), evs_get]
    have e2 : atL (kv l) ((2 * j + 1 : Nat) : Int) = some ((ods l).getD j 0).1 := by rw [kv_at (by omega), ods_get]
    rw [brd (by rw [kv_len]; omega), e1, Option.bind_some, br_fits (by rw [List.length_append, kv_len, List.length_take, List.length_singleton]; omega), wrap_i64 _ (by omega) (by omega), show (((2 * j : Nat) : Int)) + 1 = ((2 * j + 1 : Nat) : Int) by omega, e2, Option.bind_some,
      br_fits (by rw [List.length_append, kv_len, List.length_take, List.length_singleton]; omega), wrap_i64 _ (by omega) (by omega), show (((2 * j : Nat) : Int)) + 2 = ((2 * (j + 1) : Nat) : Int) by omega, take_snoc (by omega), take_snoc (by omega), kv_snoc, kv_snoc]
  · simp only [i_values_1_s]
    rw [brn (by rw [kv_len]; omega), decide_eq_false (by rw [kv_len]; omega), List.take_of_length_le (by omega), List.take_of_length_le (by omega), h]
theorem s_split {l : List K} {m : Nat} {w : Int} (h : l.length = 2 * m) (hm : m ≤ 1000) : Loop (s_l07Ntt_1_s (kv l) w (l.length : Int)) ([], [], 0) = some (kv (evs l), kv (ods l), (l.length : Int), false) := by
  have h1 := evs_len l m h
  have h2 := ods_len l m h
  have key := Loop_for (step := s_l07Ntt_1_s (kv l) w (l.length : Int)) (fun j => (kv ((evs l).take j), kv ((ods l).take j), ((2 * j : Nat) : Int))) m (e := (kv (evs l), kv (ods l), (l.length : Int), false)) (fun j hj => ?_) ?_
  · exact key
  · simp only [s_l07Ntt_1_s]
    have e1 : atL (kv l) ((2 * j : Nat) : Int) = some ((evs l).getD j 0).1 := by rw [kv_at (by omega), evs_get]
    have e2 : atL (kv l) ((2 * j + 1 : Nat) : Int) = some ((ods l).getD j 0).1 := by rw [kv_at (by omega), ods_get]
    rw [brd (by omega), e1, Option.bind_some, br_fits (by rw [List.length_append, kv_len, List.length_take, List.length_singleton]; omega), wrap_i64 _ (by omega) (by omega), show (((2 * j : Nat) : Int)) + 1 = ((2 * j + 1 : Nat) : Int) by omega, e2, Option.bind_some,
      br_fits (by rw [List.length_append, kv_len, List.length_take, List.length_singleton]; omega), wrap_i64 _ (by omega) (by omega), show (((2 * j : Nat) : Int)) + 2 = ((2 * (j + 1) : Nat) : Int) by omega, take_snoc (by omega), take_snoc (by omega), kv_snoc, kv_snoc]
  · simp only [s_l07Ntt_1_s]
    rw [brn (by omega), decide_eq_false (by omega), List.take_of_length_le (by omega), List.take_of_length_le (by omega), h]

/-- Powers of an element of the base field. -/
def pwI (w : Int) : Nat → Int
  | 0 => 1
  | j + 1 => mF (pwI w j) w
theorem pwI_ok (w : Int) : ∀ j, okF (pwI w j)
  | 0 => okF1
  | j + 1 => mF_ok _ _
theorem kF_pwI (w : Int) : ∀ j, kF (pwI w j) = kF w ^ j
  | 0 => rfl
  | j + 1 => by rw [pwI, kF_mF, kF_pwI w j, pwS]
/-- Two halves of a list, filled as far as j. -/
def arrM (h j : Nat) (lo hi : Nat → K) : List Ext := (List.range (2 * h)).map fun i => if i < h then (if i < j then (lo i).1 else e0) else if i - h < j then (hi (i - h)).1 else e0
theorem arrM_len (h j : Nat) (lo hi : Nat → K) : (arrM h j lo hi).length = 2 * h := by simp [arrM]
theorem arrM_zero (h : Nat) (lo hi : Nat → K) : arrM h 0 lo hi = List.replicate (2 * h) e0 := by
  refine List.ext_getElem (by simp [arrM]) fun i h1 h2 => ?_
  simp [arrM]
theorem arrM_set {h j : Nat} {lo hi : Nat → K} (hj : j < h) : ((arrM h j lo hi).set j (lo j).1).set (j + h) (hi j).1 = arrM h (j + 1) lo hi := by
  refine List.ext_getElem (by simp [arrM]) fun i h1 h2 => ?_
  simp only [arrM, List.getElem_set, List.getElem_map, List.getElem_range]
  by_cases c1 : j + h = i
  · subst c1
    rw [if_pos rfl, if_neg (by omega), if_pos (by omega), show j + h - h = j by omega]
  · rw [if_neg c1]
    by_cases c2 : j = i
    · subst c2
      rw [if_pos rfl, if_pos hj, if_pos (by omega)]
    · rw [if_neg c2]
      by_cases c3 : i < h
      · rw [if_pos c3, if_pos c3]
        by_cases c4 : i < j
        · rw [if_pos c4, if_pos (by omega)]
        · rw [if_neg c4, if_neg (by omega)]
      · rw [if_neg c3, if_neg c3]
        by_cases c4 : i - h < j
        · rw [if_pos c4, if_pos (by omega)]
        · rw [if_neg c4, if_neg (by omega)]
theorem arrM_full {h : Nat} {lo hi : Nat → K} : arrM h h lo hi = kv ((List.range h).map lo ++ (List.range h).map hi) := by
  refine List.ext_getElem (by simp [arrM, kv]; omega) fun i h1 h2 => ?_
  rw [arrM_len] at h1
  simp only [arrM, kv, List.getElem_map, List.getElem_range, List.getElem_append, List.length_map, List.length_range]
  by_cases c : i < h
  · simp [c]
  · simp [c, show i - h < h by omega]
theorem e0_eq : (Ext.mk 0 0) = e0 := rfl
theorem i_butter {E O : List K} {w : Int} {h : Nat} (hE : E.length = h) (hO : O.length = h) (hw : okF w) (hh : h ≤ 1000) :
    Loop (i_values_2_s (kv E) (kv O) w (h : Int) (h : Int)) (List.replicate (2 * h) e0, 1, 0) = some (kv (lowM E O (kF w) h ++ higM E O (kF w) h), pwI w h, (h : Int), false) := by
  have key := Loop_for (step := i_values_2_s (kv E) (kv O) w (h : Int) (h : Int)) (fun j => (arrM h j (fun j => E.getD j 0 + O.getD j 0 * kF w ^ j) (fun j => E.getD j 0 - O.getD j 0 * kF w ^ j), pwI w j, (j : Int))) h
    (e := (kv (lowM E O (kF w) h ++ higM E O (kF w) h), pwI w h, (h : Int), false)) (fun j hj => ?_) ?_
  · rw [arrM_zero] at key; exact key
  · simp only [i_values_2_s, Int.toNat_natCast]
    have hx : eC (O.getD j 0).1 (pwI w j) = (O.getD j 0 * kF w ^ j).1 := by rw [eC_eq, ← kF_pwI, ← kF_val (pwI_ok w j)]; rfl
    have hl := arrM_len h j (fun j => E.getD j 0 + O.getD j 0 * kF w ^ j) (fun j => E.getD j 0 - O.getD j 0 * kF w ^ j)
    rw [wrap_i64 ((j : Int) + (h : Int)) (by omega) (by omega), show (j : Int) + (h : Int) = ((j + h : Nat) : Int) by omega]
    simp only [Int.toNat_natCast]
    rw [brd (by omega), brd (by omega), brd (by rw [kv_len]; omega), kv_get? (by omega), Option.bind_some, i_scaled_eq (Subtype.property _) (pwI_ok w j), Option.bind_some, hx, brd (by omega), brd (by rw [kv_len]; omega), kv_get? (by omega), Option.bind_some, i_plus_eq (Subtype.property _) (Subtype.property _), Option.bind_some,
      brd (by omega), brd (by rw [kv_len]; omega), Option.bind_some, i_minus_eq (Subtype.property _) (Subtype.property _), Option.bind_some, brd (by omega), brd (by omega), get_some (by omega), Option.bind_some, brd (by omega), brd (by omega), get_some (by rw [List.length_set]; omega), Option.bind_some,
      i_mul_eq (pwI_ok w j) hw, Option.bind_some, wrap_i64 _ (by omega) (by omega), ← arrM_set hj]
    rfl
  · simp only [i_values_2_s]
    rw [brn (by omega), decide_eq_false (by omega), arrM_full]; rfl
theorem s_butter {E O : List K} {w : Int} {h : Nat} (hE : E.length = h) (hO : O.length = h) (hw : okF w) (hh : h ≤ 1000) :
    Loop (s_l07Ntt_2_s w ((2 * h : Nat) : Int) (kv E) (kv O)) (List.replicate (2 * h) e0, 1, 0) = some (kv (lowM E O (kF w) h ++ higM E O (kF w) h), pwI w h, (h : Int), false) := by
  have hhf : IntKind.wrap .i64 (((2 * h : Nat) : Int).tdiv 2) = (h : Int) := by rw [tdiv_nn _ _ (by omega), wrap_i64 _ (by omega) (by omega)]; omega
  have key := Loop_for (step := s_l07Ntt_2_s w ((2 * h : Nat) : Int) (kv E) (kv O)) (fun j => (arrM h j (fun j => E.getD j 0 + O.getD j 0 * kF w ^ j) (fun j => E.getD j 0 - O.getD j 0 * kF w ^ j), pwI w j, (j : Int))) h
    (e := (kv (lowM E O (kF w) h ++ higM E O (kF w) h), pwI w h, (h : Int), false)) (fun j hj => ?_) ?_
  · rw [arrM_zero] at key; exact key
  · simp only [s_l07Ntt_2_s, Int.toNat_natCast, hhf]
    have hx : eM (O.getD j 0).1 (eN (pwI w j)) = (O.getD j 0 * kF w ^ j).1 := by rw [← kF_pwI, ← kF_val (pwI_ok w j)]; rfl
    have hl := arrM_len h j (fun j => E.getD j 0 + O.getD j 0 * kF w ^ j) (fun j => E.getD j 0 - O.getD j 0 * kF w ^ j)
    rw [wrap_i64 ((j : Int) + (h : Int)) (by omega) (by omega), show (j : Int) + (h : Int) = ((j + h : Nat) : Int) by omega]
    simp only [Int.toNat_natCast]
    rw [brd (by omega), kv_at (by omega), Option.bind_some, s_of_eq, Option.bind_some, s_emul_eq (Subtype.property _) (eN_ok (pwI_ok w j)), Option.bind_some, hx, kv_at (by omega), Option.bind_some, s_eadd_eq (Subtype.property _) (Subtype.property _), Option.bind_some,
      brd (by omega), brd (by omega), get_some (by omega), Option.bind_some, Option.bind_some, s_esub_eq (Subtype.property _) (Subtype.property _), Option.bind_some, brd (by omega), brd (by rw [hl]; omega), get_some (by rw [List.length_set]; omega), Option.bind_some,
      s_mul_eq (pwI_ok w j) hw, Option.bind_some, wrap_i64 _ (by omega) (by omega), ← arrM_set hj]
    rfl
  · simp only [s_l07Ntt_2_s, hhf]
    rw [brn (by omega), decide_eq_false (by omega), arrM_full]; rfl
theorem i_values_n_eq : ∀ (n k : Nat) (l : List K) (w : Int), k ≤ 9 → okF w → l.length = 2 ^ k → i_values_n n (kv l) w = if k + 1 ≤ n then some (kv (V k l (kF w))) else none
  | 0, k, l, w, _, _, _ => by rw [if_neg (by omega)]; rfl
  | n + 1, 0, l, w, _, _, hl => by
    rw [if_pos (by omega)]
    unfold i_values_n slices_Clone_Li_Ext_i_Ext
    rw [kv_len, hl, bre (by simp), br_fits (by decide)]; rfl
  | n + 1, k + 1, l, w, hk, hw, hl => by
    have hp := p2_9 (k + 1) hk
    have hp1 := p2_9 k (by omega)
    have hs : l.length = 2 * 2 ^ k := by rw [hl, Nat.pow_succ]; omega
    have he := evs_2 hl
    have ho := ods_2 hl
    have hw2 := mF_ok w w
    unfold i_values_n
    rw [kv_len, brne (by omega), i_split hs (by omega), Option.bind_some, i_mul_eq hw hw, Option.bind_some]
    dsimp only
    by_cases c : k + 1 ≤ n
    · have hE := V_len k (evs l) (kF (mF w w)) he
      have hO := V_len k (ods l) (kF (mF w w)) ho
      rw [i_values_n_eq n k (evs l) _ (by omega) hw2 he, if_pos c, Option.bind_some, Option.bind_some, i_values_n_eq n k (ods l) _ (by omega) hw2 ho, if_pos c, Option.bind_some, if_pos (by omega), kv_len, hE, wrap_i64 _ (by omega) (by omega), br_mk (by omega) (by omega) (by omega), show ((2 : Int) * ((2 ^ k : Nat) : Int)).toNat = 2 * 2 ^ k by omega, e0_eq, i_butter hE hO hw (by omega), Option.bind_some, kF_mF]; rfl
    · rw [i_values_n_eq n k (evs l) _ (by omega) hw2 he, if_neg c, if_neg (by omega)]; rfl
theorem i_values_eq {k : Nat} {l : List K} {w : Int} (hk : k ≤ 9) (hw : okF w) (hl : l.length = 2 ^ k) : i_values (kv l) w = some (kv (V k l (kF w))) := lim_eq fun n => i_values_n_eq n k l w hk hw hl
theorem s_ntt_n_eq : ∀ (n k : Nat) (l : List K) (w : Int), k ≤ 9 → okF w → l.length = 2 ^ k → s_l07Ntt_n n (kv l) w = if k + 1 ≤ n then some (kv (V k l (kF w))) else none
  | 0, k, l, w, _, _, _ => by rw [if_neg (by omega)]; rfl
  | n + 1, 0, l, w, _, _, hl => by
    rw [if_pos (by omega)]
    unfold s_l07Ntt_n
    rw [List.nil_append, kv_len, hl, bre (by simp), br_fits (by decide)]; rfl
  | n + 1, k + 1, l, w, hk, hw, hl => by
    have hp := p2_9 (k + 1) hk
    have hp1 := p2_9 k (by omega)
    have hs : l.length = 2 * 2 ^ k := by rw [hl, Nat.pow_succ]; omega
    have he := evs_2 hl
    have ho := ods_2 hl
    have hw2 := mF_ok w w
    unfold s_l07Ntt_n
    rw [kv_len, brne (by omega), s_split hs (by omega), Option.bind_some, s_mul_eq hw hw, Option.bind_some]
    dsimp only
    by_cases c : k + 1 ≤ n
    · have hE := V_len k (evs l) (kF (mF w w)) he
      have hO := V_len k (ods l) (kF (mF w w)) ho
      rw [s_ntt_n_eq n k (evs l) _ (by omega) hw2 he, if_pos c, Option.bind_some, Option.bind_some, s_ntt_n_eq n k (ods l) _ (by omega) hw2 ho, if_pos c, Option.bind_some, if_pos (by omega), br_mk (by omega) (by omega) (by omega), hs, Int.toNat_natCast, e0_eq, s_butter hE hO hw (by omega), Option.bind_some, kF_mF]; rfl
    · rw [s_ntt_n_eq n k (evs l) _ (by omega) hw2 he, if_neg c, if_neg (by omega)]; rfl
theorem s_ntt_eq {k : Nat} {l : List K} {w : Int} (hk : k ≤ 9) (hw : okF w) (hl : l.length = 2 ^ k) : s_l07Ntt (kv l) w = some (kv (V k l (kF w))) := lim_eq fun n => s_ntt_n_eq n k l w hk hw hl
end Go.AI.Fn

set_option linter.unusedVariables false
set_option linter.unusedSimpArgs false
namespace Go.AI.Fn

abbrev xo (a b : Int) : Int := xor64 .u64 a b
/-- Turned left. -/
def rot (x s : Int) : Int := if s = 0 then x else or64 .u64 (shl64 .u64 x s) (shr64 .u64 x (64 - s))
end Go.AI.Fn

set_option linter.unusedVariables false
set_option linter.unusedSimpArgs false
namespace Go.AI.Fn

abbrev g (l : List Int) (i : Int) : Int := l.getD i.toNat 0

def shiftL : List Int := [0, 1, 62, 28, 27, 36, 44, 6, 55, 20, 3, 10, 43, 25, 39, 41, 45, 15, 21, 8, 18, 2, 61, 56, 14]
def p2 (m : List Int) (k : Nat) (l : List Int) : List Int := l.set ((k : Int) % 5).toNat (xo (g l ((k : Int) % 5)) (g m k))
def p3 (m c : List Int) (k : Nat) (l : List Int) : List Int :=
  l.set ((k : Int) / 5 + 5 * ((2 * ((k : Int) % 5) + 3 * ((k : Int) / 5)) % 5)).toNat (rot (xo (g m k) (xo (g c (((k : Int) % 5 + 4) % 5)) (rot (g c (((k : Int) % 5 + 1) % 5)) 1))) (g shiftL k))
def p4 (b : List Int) (k : Nat) (l : List Int) : List Int :=
  l.set k (xo (g b k) (andn64 .u64 (g b ((k : Int) - (k : Int) % 5 + ((k : Int) % 5 + 2) % 5)) (g b ((k : Int) - (k : Int) % 5 + ((k : Int) % 5 + 1) % 5))))
-- the reference
/-- One round, as the program and as the reference do it. -/
def roundP (m : List Int) (rc : Int) : List Int :=
  let c := iU (p2 m) 25 (nZ 5)
  let b := iU (p3 m c) 25 (nZ 25)
  let r := iU (p4 b) 25 m
  r.set 0 (xo (r.getD 0 0) rc)
end Go.AI.Fn

set_option linter.unusedVariables false
set_option linter.unusedSimpArgs false
namespace Go.AI.Fn

end Go.AI.Fn

set_option linter.unusedVariables false
set_option linter.unusedSimpArgs false
set_option maxRecDepth 10000
namespace Go.AI.Fn

def rcL : List Int := [1, 32898, 9223372036854808714, 9223372039002292224, 32907, 2147483649, 9223372039002292353, 9223372036854808585, 138, 136, 2147516425, 2147483658, 2147516555, 9223372036854775947, 9223372036854808713, 9223372036854808579, 9223372036854808578, 9223372036854775936, 32778, 9223372039002259466, 9223372039002292353, 9223372036854808704, 2147483649, 9223372039002292232]
def rdP (k : Nat) (m : List Int) : List Int := roundP m (rcL.getD k 0)
/-- The permutation. -/
def permM (m : List Int) : List Int := iU rdP 24 m
def lnS (t : List UInt8) (k : Nat) (l : List Int) : List Int := l.set ((k : Int) / 8).toNat (or64 .u64 (g l ((k : Int) / 8)) (shl64 .u64 (IntKind.wrap .u64 ((t.getD k 0).toNat : Int)) (8 * ((k : Int) % 8))))
/-- The lanes that bytes are. -/
def lanesM (t : List UInt8) : List Int := iU (lnS t) t.length (nZ 25)
def txB (m : List Int) (i : Nat) : UInt8 := UInt8.ofInt (shr64 .u64 (g m ((i : Int) / 8)) (8 * ((i : Int) % 8)))
def textM (m : List Int) (n : Nat) : List UInt8 := (List.range n).map (txB m)
end Go.AI.Fn

set_option linter.unusedVariables false
set_option linter.unusedSimpArgs false
namespace Go.AI.Fn

def xoS (t : List Int) (k : Nat) (l : List Int) : List Int := l.set k (xo (g l k) (g t k))
def xorM (t m : List Int) : List Int := iU (xoS t) 25 m
/-- One block taken in. -/
def absB (a : List UInt8) (k : Nat) (m : List Int) : List Int := permM (xorM (lanesM ((a.drop (136 * k)).take 136)) m)
def absM (a : List UInt8) (n : Nat) : List Int := iU (absB a) n (nZ 25)
/-- Noughts behind a text, up to a whole number of blocks. -/
def padZ (l : List UInt8) : List UInt8 := l ++ List.replicate ((136 - l.length % 136) % 136) 0
/-- The last byte's highest bit, set too. -/
def padM (b : List UInt8) : List UInt8 := (padZ (b ++ [1])).set ((padZ (b ++ [1])).length - 1) (UInt8.ofInt (or64 .u8 (((padZ (b ++ [1])).getD ((padZ (b ++ [1])).length - 1) 0).toNat : Int) 128))
/-- The hash. -/
def H (b : List UInt8) : List UInt8 := textM (absM (padM b) ((b.length + 136) / 136)) 32
end Go.AI.Fn

set_option linter.unusedVariables false
namespace Go.AI.Fn

theorem at_ok {a : List UInt8} {i n : Int} (hl : a.length ≤ 1048576) (hi0 : 0 ≤ i) (hi1 : i ≤ 1099511627776) (hn : 1 < n) : ∃ x, w_at a i n = some x ∧ 0 ≤ x ∧ x < n := by
  unfold w_at
  rw [brn (by omega)]
  by_cases c : ((a.length : Nat) : Int) = 0
  · rw [bre c, brd (by omega), wrap_i64 _ (by omega) (by omega), tmod_nn _ _ (by omega)]
    exact ⟨_, rfl, Int.emod_nonneg _ (by omega), Int.emod_lt_of_pos _ (by omega)⟩
  · rw [brne c, brd c, tmod_nn _ _ hi0]
    have h1 := Int.emod_nonneg i c
    have h2 := Int.emod_lt_of_pos i (b := (a.length : Int)) (by omega)
    obtain ⟨x, hx, _, _⟩ := atL_of (l := a) h1 h2
    have h3 := Int.emod_nonneg (i + 1) c
    have h4 := Int.emod_lt_of_pos (i + 1) (b := (a.length : Int)) (by omega)
    obtain ⟨y, hy, _, _⟩ := atL_of (l := a) h3 h4
    have bx := u8_lt x
    have bz := u8_lt y
    have h5 : 0 ≤ i / (a.length : Int) := Int.ediv_nonneg hi0 (by omega)
    have h6 : i / (a.length : Int) ≤ i := Int.ediv_le_self _ hi0
    rw [hx]
    simp only [Option.bind_some]
    rw [brd c, wrap_i64 (i + 1) (by omega) (by omega), tmod_nn _ _ (by omega), hy]
    simp only [Option.bind_some]
    rw [brd c, brd (by omega), tdiv_nn _ _ hi0]
    generalize i / ((a.length : Nat) : Int) = q at h5 h6 ⊢
    rw [wrap_i64 q (by omega) (by omega), wrap_i64 (x.toNat : Int) (by omega) (by omega), wrap_i64 (y.toNat : Int) (by omega) (by omega), wrap_i64 ((x.toNat : Int) * 31) (by omega) (by omega), wrap_i64 ((x.toNat : Int) * 31 + (y.toNat : Int)) (by omega) (by omega), wrap_i64 _ (by omega) (by omega), tmod_nn _ _ (by omega)]
    exact ⟨_, rfl, Int.emod_nonneg _ (by omega), Int.emod_lt_of_pos _ (by omega)⟩

end Go.AI.Fn

set_option linter.unusedVariables false
namespace Go.AI.Fn

theorem long {l : List UInt8} (h : 8 ≤ l.length) : ∃ a b c d e f g k r, l = a :: b :: c :: d :: e :: f :: g :: k :: r := by
  match l, h with
  | a :: b :: c :: d :: e :: f :: g :: k :: r, _ => exact ⟨a, b, c, d, e, f, g, k, r, rfl⟩
end Go.AI.Fn

set_option linter.unusedVariables false
set_option linter.unusedSimpArgs false
namespace Go.AI.Fn

/-! ### grinding -/
end Go.AI.Fn

set_option linter.unusedVariables false
set_option linter.unusedSimpArgs false
namespace Go.AI.Fn

abbrev Tx := List UInt8
def leafT (t : Tx) : Tx := 0 :: t
def hL (t : Tx) : Tx := H (leafT t)
def Hs (l : List Tx) : Prop := ∀ x ∈ l, x.length = 32
theorem Hs.getD {l : List Tx} (h : Hs l) {k : Nat} (hk : k < l.length) : (l.getD k []).length = 32 := by simp [hk]; exact h _ (List.getElem_mem hk)
end Go.AI.Fn

set_option linter.unusedVariables false
set_option linter.unusedSimpArgs false
namespace Go.AI.Fn

end Go.AI.Fn

set_option linter.unusedVariables false
set_option linter.unusedSimpArgs false
namespace Go.AI.Fn

end Go.AI.Fn

set_option linter.unusedVariables false
set_option linter.unusedSimpArgs false
namespace Go.AI.Fn

theorem log9 : ∀ k : Nat, k ≤ 9 → i_logOf ((2 ^ k : Nat) : Int) = some (k : Int)
  | 0, _ => rfl
  | 1, _ => rfl
  | 2, _ => rfl
  | 3, _ => rfl
  | 4, _ => rfl
  | 5, _ => rfl
  | 6, _ => rfl
  | 7, _ => rfl
  | 8, _ => rfl
  | 9, _ => rfl
theorem vars9 {k : Nat} (h : k ≤ 9) : s_l06Vars ((2 ^ k : Nat) : Int) = some (k : Int) := by
  unfold s_l06Vars
  have key : Loop (s_l06Vars_1_s ((2 ^ k : Nat) : Int)) 0 = some ((k : Int), false) :=
    Loop_for (step := s_l06Vars_1_s ((2 ^ k : Nat) : Int)) (fun j => (j : Int)) k (fun j hj => by
      have hp : 2 ^ j < 2 ^ k := Nat.pow_lt_pow_right (by omega) hj
      simp only [s_l06Vars_1_s]
      rw [wrap_u64 _ (by omega) (by omega), brd (by omega), shl1 (by omega), brd (by omega), wrap_i64 _ (by omega) (by omega)]; rfl) (by
      simp only [s_l06Vars_1_s]
      rw [wrap_u64 _ (by omega) (by omega), brd (by omega), shl1 (by omega), brn (by omega), decide_eq_false (by omega)])
  rw [key]; rfl

/-! ### roots -/
theorem Kn_pow (a : Int) : ∀ n : Nat, K.n (a ^ n) = K.n a ^ n
  | 0 => by rw [Int.pow_zero, pw0]; rfl
  | n + 1 => by rw [Int.pow_succ, K.n_mul, Kn_pow a n, pwS]
theorem Kn_mod (a : Int) : K.n (a % 2130706433) = K.n a := K.ext (by show eN (a % 2130706433 % 2130706433) = eN (a % 2130706433); rw [Int.emod_emod])
theorem kF_pF (a : Int) (n : Nat) : kF (pF a n) = kF a ^ n := by rw [kF, pF, Kn_mod, Kn_pow]; rfl
def sqI : Nat → Int → Int
  | 0, x => x
  | n + 1, x => sqI n (mF x x)
theorem kF_sqI : ∀ (n : Nat) (x : Int), kF (sqI n x) = kF x ^ 2 ^ n
  | 0, x => by rw [sqI, Nat.pow_zero, pw1]
  | n + 1, x => by rw [sqI, kF_sqI n, kF_mF, sq_pw, ← pw_two, Nat.pow_succ, Nat.mul_comm]
def rtK (k : Nat) : K := kF (rootM k)
theorem rtK_pow (k : Nat) : rtK k = kF 3 ^ (127 * 2 ^ (24 - k)) := by rw [rtK, rootM, kF_pF]
theorem top3 : sqI 23 (pF 3 127) = 2130706432 := by decide +kernel
theorem top2 : sqI 24 (pF 2 127) = 1 := by decide +kernel
theorem neg1 : kF 2130706432 = -1 := K.ext (ext_eq (by decide) rfl)
theorem big3 : kF 3 ^ (127 * 2 ^ 23) = -1 := by rw [pw_mul, ← kF_pF, ← kF_sqI, top3, neg1]
theorem big2 : kF 2 ^ (127 * 2 ^ 24) = 1 := by rw [pw_mul, ← kF_pF, ← kF_sqI, top2]; rfl
theorem rt_Rt {k : Nat} (h : k ≤ 24) : Rt k (rtK k) := by
  cases k with
  | zero => trivial
  | succ j =>
    show rtK (j + 1) ^ 2 ^ j = -1
    rw [rtK_pow, ← pw_mul, Nat.mul_assoc, ← Nat.pow_add, show 24 - (j + 1) + j = 23 by omega, big3]
theorem rt_sq {k : Nat} (h : k + 1 ≤ 24) : rtK (k + 1) * rtK (k + 1) = rtK k := by
  rw [rtK_pow, rtK_pow, ← pw_two]
  congr 1
  rw [show 24 - k = (24 - (k + 1)) + 1 by omega, Nat.pow_succ]; omega
theorem rt_full {k : Nat} (h : k ≤ 24) : rtK k ^ 2 ^ k = 1 := by
  cases k with
  | zero =>
    rw [rtK_pow, Nat.pow_zero, pw1, show 127 * 2 ^ (24 - 0) = 2 * (127 * 2 ^ 23) by decide, pw_two, big3]; exact kg
  | succ j =>
    have := rt_Rt h
    rw [Nat.pow_succ, Nat.mul_comm, pw_two, show rtK (j + 1) ^ 2 ^ j = -1 from this]; exact kg
theorem p_pow {k : Nat} (h : k ≤ 24) : 2 ^ k * (127 * 2 ^ (24 - k)) = 2130706432 := by
  rw [Nat.mul_left_comm, ← Nat.pow_add, show k + (24 - k) = 24 by omega]
theorem ord_inv {x : K} {k : Nat} (h : k ≤ 24) (hx : x ^ 2 ^ k = 1) : x ^ 2130706432 = 1 := by
  rw [← p_pow h, pw_mul, hx, one_pw]
theorem kF_iF {a : Int} (h : kF a ^ 2130706432 = 1) : kF (iF a) * kF a = 1 := by
  rw [iF, kF_pF, ← pwS]; exact h
theorem two_p : kF 2 ^ 2130706432 = 1 := by
  have := big2
  rw [show 127 * 2 ^ 24 = 2130706432 by decide] at this; exact this
theorem inv_two : kF (iF 2) * 2 = 1 := kF_iF two_p
theorem inv_len (k : Nat) : kF (iF ((2 ^ k : Nat) : Int)) * 2 ^ k = 1 := by
  have e : kF ((2 ^ k : Nat) : Int) = 2 ^ k := by
    rw [kF, Int.natCast_pow, Kn_pow]; rfl
  have := kF_iF (a := ((2 ^ k : Nat) : Int)) (by rw [e, pw_comm, show (2 : K) ^ 2130706432 = 1 from two_p, one_pw])
  rw [e] at this; exact this
theorem rt_pow_p {k : Nat} (h : k ≤ 24) (i : Nat) : (rtK k ^ i) ^ 2130706432 = 1 := ord_inv h (by rw [pw_comm, rt_full h, one_pw])

/-! ### folding -/
def fpK (k i : Nat) (a b r : K) : K := (a + b) * kF (iF 2) + r * (a - b) * (kF (iF 2) * kF (iF (pF (rootM k) i)))
theorem iF_ok (a : Int) : okF (iF a) := pF_ok _ _
theorem okF2 : okF 2 := ⟨by decide, by decide⟩
theorem i_foldPair_eq {k i : Nat} (a b r : K) (hk : k ≤ 9) (hi : i ≤ 1000) : i_foldPair ((2 ^ k : Nat) : Int) i a.1 b.1 r.1 = some (fpK k i a b r).1 := by
  unfold i_foldPair
  rw [i_inverse_eq okF2, Option.bind_some, log9 k hk, Option.bind_some, i_root_eq (by omega), Option.bind_some, i_pow_eq (rootM_ok k) (by omega) (by omega), Option.bind_some, i_plus_eq a.2 b.2, Option.bind_some, i_scaled_eq (eA_ok _ _) (iF_ok 2), Option.bind_some, i_minus_eq a.2 b.2, Option.bind_some,
    i_times_eq r.2 (eS_ok _ _), Option.bind_some, i_inverse_eq (pF_ok _ _), Option.bind_some, i_mul_eq (iF_ok 2) (iF_ok _), Option.bind_some, i_scaled_eq (eM_ok _ _) (mF_ok _ _), Option.bind_some, i_plus_eq (eC_ok _ _) (eC_ok _ _), Option.bind_some, Int.toNat_natCast, eC_eq, eC_eq, ← kF_val (iF_ok 2), ← kF_val (mF_ok _ _), kF_mF]; rfl
theorem fp_eq {k i : Nat} (hk : k ≤ 9) (E O r : K) : fpK k i (E + O * rtK k ^ i) (E - O * rtK k ^ i) r = E + r * O := by
  have h1 := inv_two
  have h2 : kF (iF (pF (rootM k) i)) * rtK k ^ i = 1 := by
    have := kF_iF (a := pF (rootM k) i) (by rw [kF_pF]; exact rt_pow_p (by omega) i)
    rw [kF_pF] at this; exact this
  unfold fpK
  generalize kF (iF 2) = t at *
  generalize kF (iF (pF (rootM k) i)) = y at *
  generalize rtK k ^ i = x at *
  exact kg
def fwK (k : Nat) (W : List K) (r : K) : List K := (List.range (2 ^ k)).map fun i => fpK (k + 1) i (W.getD i 0) (W.getD (i + 2 ^ k) 0) r
theorem fwK_len (k : Nat) (W : List K) (r : K) : (fwK k W r).length = 2 ^ k := by simp [fwK]
theorem i_foldWord_eq {k : Nat} {W : List K} (r : K) (hk : k + 1 ≤ 9) (hW : W.length = 2 ^ (k + 1)) : i_foldWord (kv W) r.1 = some (kv (fwK k W r)) := by
  have hp := p2_9 (k + 1) hk
  have hs : 2 ^ (k + 1) = 2 * 2 ^ k := by rw [Nat.pow_succ]; omega
  unfold i_foldWord
  have hh : IntKind.wrap .i64 (((2 ^ (k + 1) : Nat) : Int).tdiv 2) = ((2 ^ k : Nat) : Int) := by rw [tdiv_nn _ _ (by omega), wrap_i64 _ (by omega) (by omega)]; omega
  rw [kv_len, hW, hh]
  have key := Loop_for (step := i_foldWord_1_s (kv W) ((2 ^ k : Nat) : Int) ((2 ^ k : Nat) : Int) r.1.A r.1.B) (fun j => (kv ((List.range j).map fun i => fpK (k + 1) i (W.getD i 0) (W.getD (i + 2 ^ k) 0) r), (j : Int))) (2 ^ k)
    (e := (kv (fwK k W r), ((2 ^ k : Nat) : Int), false)) (fun j hj => ?_) ?_
  · have key' : Loop (i_foldWord_1_s (kv W) ((2 ^ k : Nat) : Int) ((2 ^ k : Nat) : Int) r.1.A r.1.B) ([], 0) = _ := key
    rw [key']; rfl
  · simp only [i_foldWord_1_s]
    rw [brd (by omega), kv_at (by omega), Option.bind_some, wrap_i64 ((j : Int) + _) (by omega) (by omega), show (j : Int) + ((2 ^ k : Nat) : Int) = ((j + 2 ^ k : Nat) : Int) by omega, kv_at (by omega), Option.bind_some, kv_len, hW,
      i_foldPair_eq _ _ r hk (by omega), Option.bind_some, br_fits (by simp only [List.length_append, kv_len, List.length_map, List.length_range, List.length_singleton]; omega), wrap_i64 _ (by omega) (by omega), List.range_succ, List.map_append, List.map_singleton, kv_snoc]; rfl
  · simp only [i_foldWord_1_s]
    rw [brn (by omega), decide_eq_false (by omega)]; rfl
theorem fw_V {k : Nat} {l : List K} (r : K) (hk : k + 1 ≤ 9) (hl : l.length = 2 ^ (k + 1)) : fwK k (V (k + 1) l (rtK (k + 1))) r = V k (cb r (evs l) (ods l)) (rtK k) := by
  have he := evs_2 hl
  have ho := ods_2 hl
  rw [V_cb k _ _ _ he ho]
  have hE := V_len k _ (rtK k) he
  have hO := V_len k _ (rtK k) ho
  refine list_ext (by rw [fwK_len, cb_len (by omega), hE]) fun j hj => ?_
  rw [fwK_len] at hj
  rw [fwK, getD_mr hj, V_lo hj, Nat.add_comm j, V_hi hj, cb_get (by omega), rt_sq (by omega), fp_eq hk]

/-! ### encoding -/
def padK (l : List K) (n : Nat) : List K := l ++ List.replicate (n - l.length) 0
theorem padK_len {l : List K} {n : Nat} (h : l.length ≤ n) : (padK l n).length = n := by simp [padK]; omega
theorem padK_get (l : List K) (n j : Nat) : (padK l n).getD j 0 = l.getD j 0 := by
  unfold padK
  by_cases h : j < l.length
  · rw [gd_l h]
  · obtain ⟨i, rfl⟩ : ∃ i, j = l.length + i := ⟨j - l.length, by omega⟩
    rw [gd_r, rep_get]; simp
theorem evs_pad {l : List K} {a b : Nat} (h : l.length = 2 * a) (hab : a ≤ b) : evs (padK l (2 * b)) = padK (evs l) b := by
  have h1 := evs_len l a h
  refine list_ext (by rw [evs_len _ b (padK_len (by omega)), padK_len (by omega)]) fun j _ => ?_
  rw [evs_get, padK_get, padK_get, evs_get]
theorem ods_pad {l : List K} {a b : Nat} (h : l.length = 2 * a) (hab : a ≤ b) : ods (padK l (2 * b)) = padK (ods l) b := by
  have h1 := ods_len l a h
  refine list_ext (by rw [ods_len _ b (padK_len (by omega)), padK_len (by omega)]) fun j _ => ?_
  rw [ods_get, padK_get, padK_get, ods_get]
theorem cb_pad {r : K} {a b : List K} {n : Nat} (h : a.length = b.length) (hn : a.length ≤ n) : cb r (padK a n) (padK b n) = padK (cb r a b) n := by
  have h1 := padK_len (l := a) hn
  have h2 := padK_len (l := b) (n := n) (by omega)
  have h3 := cb_len (r := r) h
  have h4 := cb_len (r := r) (a := padK a n) (b := padK b n) (by omega)
  have h5 := padK_len (l := cb r a b) (n := n) (by omega)
  refine list_ext (by rw [h4, h1, h5]) fun j _ => ?_
  rw [cb_get (by omega), padK_get, padK_get, padK_get, cb_get h]
/-- The word of a list of 2 to the m coefficients, t doublings longer. -/
def Enc (m t : Nat) (l : List K) : List K := V (m + t) (padK l (2 ^ (m + t))) (rtK (m + t))
theorem pow_le_add (m t : Nat) : 2 ^ m ≤ 2 ^ (m + t) := Nat.pow_le_pow_right (by omega) (by omega)
theorem pad2_len {m t : Nat} {l : List K} (h : l.length = 2 ^ m) : (padK l (2 ^ (m + t))).length = 2 ^ (m + t) := padK_len (by rw [h]; exact pow_le_add m t)
theorem Enc_len {m t : Nat} {l : List K} (h : l.length = 2 ^ m) : (Enc m t l).length = 2 ^ (m + t) := V_len _ _ _ (pad2_len h)
theorem Enc_fold {m t : Nat} {l : List K} (r : K) (hk : m + t + 1 ≤ 9) (h : l.length = 2 ^ (m + 1)) : fwK (m + t) (Enc (m + 1) t l) r = Enc m t (cb r (evs l) (ods l)) := by
  have e : m + 1 + t = m + t + 1 := by omega
  have hp := pow_le_add m t
  have h2 : l.length = 2 * 2 ^ m := by rw [h, Nat.pow_succ]; omega
  have he := evs_2 h
  have ho := ods_2 h
  unfold Enc
  rw [e, fw_V r hk (padK_len (by rw [h, ← e]; exact pow_le_add _ _)), Nat.pow_succ, Nat.mul_comm, evs_pad h2 hp, ods_pad h2 hp, cb_pad (by omega) (by omega)]
theorem shl_pow : ∀ m : Nat, m ≤ 9 → ∀ t : Nat, t ≤ 9 → shl64 .i64 ((2 ^ m : Nat) : Int) (t : Int) = ((2 ^ (m + t) : Nat) : Int) := by decide +kernel
theorem shr_pow : ∀ m : Nat, m ≤ 9 → ∀ t : Nat, t ≤ m → shr64 .i64 ((2 ^ m : Nat) : Int) (t : Int) = ((2 ^ (m - t) : Nat) : Int) := by decide +kernel
theorem kv_rep (n : Nat) : kv (List.replicate n 0) = List.replicate n e0 := by rw [kv, List.map_replicate]; rfl
theorem kv_app (a b : List K) : kv (a ++ b) = kv a ++ kv b := by simp [kv]
theorem kv_pad (l : List K) (n : Nat) : kv (padK l n) = kv l ++ List.replicate (n - l.length) e0 := by rw [padK, kv_app, kv_rep]
theorem i_encoded_eq {m t : Nat} {l : List K} (hk : m + t ≤ 9) (h : l.length = 2 ^ m) : i_encoded (kv l) (t : Int) = some (kv (Enc m t l)) := by
  have hp := p2_9 (m + t) hk
  have hq := pow_le_add m t
  unfold i_encoded
  have hc : copyL (List.replicate (((2 ^ (m + t) : Nat) : Int).toNat) (Ext.mk 0 0)) 0 (min (kv l).length (List.replicate (((2 ^ (m + t) : Nat) : Int).toNat) (Ext.mk 0 0)).length) (kv l) = kv (padK l (2 ^ (m + t))) := by
    rw [List.length_replicate, Int.toNat_natCast, kv_len, h, Nat.min_eq_left hq, kv_pad, h, copyL]
    simp [kv_len, h, e0]
    exact List.take_of_length_le (by rw [kv_len, h]; omega)
  rw [brd (by omega), kv_len, h, shl_pow m (by omega) t (by omega), br_mk (by omega) (by omega) (by omega), ← h, ← kv_len l, hc]
  unfold i_ntt
  rw [kv_len, pad2_len h, log9 _ hk, Option.bind_some, i_root_eq (by omega), Option.bind_some, i_values_eq hk (rootM_ok _) (pad2_len h), Option.bind_some, Option.bind_some]; rfl
theorem s_l07Encode_eq {m t : Nat} {l : List K} (hk : m + t ≤ 9) (h : l.length = 2 ^ m) : s_l07Encode (kv l) (t : Int) = some (kv (Enc m t l)) := by
  have hp := p2_9 (m + t) hk
  have hq := pow_le_add m t
  have hb := p2_9 m (by omega)
  unfold s_l07Encode
  rw [List.nil_append, wrap_u64 _ (by omega) (by omega), brd (by omega), kv_len, h, br_fits (by omega), shl_pow m (by omega) t (by omega), wrap_i64 _ (by omega) (by omega), br_of (by rw [mkOK_of (by omega) (by omega) (by omega), decide_eq_true (by omega)]; rfl),
    show (((2 ^ (m + t) : Nat) : Int) - ((2 ^ m : Nat) : Int)).toNat = 2 ^ (m + t) - 2 ^ m by omega, e0_eq, br_fits (by rw [List.length_append, kv_len, List.length_replicate]; omega), vars9 hk, Option.bind_some, s_root_eq (by omega), Option.bind_some, ← h, ← kv_pad, s_ntt_eq hk (rootM_ok _) (pad2_len h), Option.bind_some]; rfl
theorem i_wordCode_eq {k : Nat} {l : List K} (hk : k ≤ 9) (h : l.length = 2 ^ k) : i_wordCode (kv l) = some 0 := by
  have hp := p2_9 k hk
  unfold i_wordCode
  rw [kv_len, brn (by omega), i_areE_eq (by rw [kv_len]; omega), Option.bind_some, allE.2 (kv_ok l), Bool.not_true, br_false, i_isPower_eq (by omega), Option.bind_some, h, powB_two hk (by omega), Bool.not_true, br_false]
theorem i_EncodeWord_eq {m t : Nat} {l : List K} (hk : m + t ≤ 9) (h : l.length = 2 ^ m) : i_EncodeWord (kv l) (t : Int) = some (kv (Enc m t l), 0) := by
  have hp := p2_9 (m + t) hk
  unfold i_EncodeWord
  rw [i_wordCode_eq (k := m) (by omega) h, Option.bind_some, brbe rfl, i_inA, Option.bind_some, notd (by omega), brd (by omega), kv_len, h, shl_pow m (by omega) t (by omega), brn (by omega), i_encoded_eq hk h]; rfl
theorem s_power512 {k : Nat} (hk : k ≤ 9) : s_l04Power ((2 ^ k : Nat) : Int) 512 = some true := by
  have hp := p2_9 k hk
  unfold s_l04Power
  have key : Loop (s_l04Power_1_s ((2 ^ k : Nat) : Int) 512) 1 = some (.inl ()) :=
    Loop_for (step := s_l04Power_1_s ((2 ^ k : Nat) : Int) 512) (fun j => ((2 ^ j : Nat) : Int)) k (fun j hj => by
      have hj2 := p2_9 j (by omega)
      have hlt : 2 ^ j < 2 ^ k := Nat.pow_lt_pow_right (by omega) hj
      simp only [s_l04Power_1_s]
      rw [brd (by omega), brne (by omega), wrap_i64 _ (by omega) (by omega), Nat.pow_succ]; simp) (by
      simp only [s_l04Power_1_s]
      rw [brd (by omega), bre rfl])
  rw [key]; rfl
theorem s_EncodeWord_eq {m t : Nat} {l : List K} (hk : m + t ≤ 9) (h : l.length = 2 ^ m) : s_EncodeWord (kv l) (t : Int) = some (kv (Enc m t l), 0) := by
  have hp := p2_9 (m + t) hk
  have hb := p2_9 m (by omega)
  unfold s_EncodeWord s_l07Ask s_l07Size
  rw [kv_len, brn (by omega), brn (by omega), s_listE_eq (by rw [kv_len]; omega), Option.bind_some, allE.2 (kv_ok l), Bool.not_true, br_false, h, s_power512 (by omega), Option.bind_some, Option.bind_some, Bool.not_true, br_false, Option.bind_some, brbe rfl, s_inA, Option.bind_some, notd (by omega), wrap_u64 _ (by omega) (by omega), brd (by omega), shl_pow m (by omega) t (by omega), brn (by omega), s_l07Encode_eq hk h]; rfl
theorem i_FoldWord_eq {k : Nat} {W : List K} (r : K) (hk : k + 1 ≤ 9) (hW : W.length = 2 ^ (k + 1)) : i_FoldWord (kv W) r.1 = some (kv (fwK k W r), 0) := by
  have hp := p2_9 k (by omega)
  unfold i_FoldWord
  rw [i_wordCode_eq hk hW, Option.bind_some, brbe rfl, i_ExtOK_eq, Option.bind_some, okEb_iff.2 r.2, Bool.not_true, br_false, kv_len, hW, brne (by rw [Nat.pow_succ]; omega), i_foldWord_eq r hk hW]; rfl
theorem ExtOf_ok {code : List UInt8} (h : code.length ≤ 1048576) : ∃ r : K, s_ExtOf code = some r.1 := by
  unfold s_ExtOf
  obtain ⟨m, e1, s1⟩ := source_ok (show code.length ≤ 1048600 by omega)
  obtain ⟨x, m1, e2, hx, _⟩ := ext_ok s1 (by decide)
  exact ⟨⟨x, hx⟩, by rw [e1, Option.bind_some, e2]; rfl⟩
theorem sameExts_self {l : List Ext} (hl : l.length ≤ 1000000) : w_sameExts l l = some true := by
  unfold w_sameExts
  have key : Loop (w_sameExts_1_s l l) 0 = some (.inr ((l.length : Int), false)) :=
    Loop_for (step := w_sameExts_1_s l l) (fun j => (j : Int)) l.length (fun j hj => by
      simp only [w_sameExts_1_s]
      rw [brd (by omega), atL_nat hj, Option.bind_some, Option.bind_some, bre rfl, bre rfl, wrap_i64 _ (by omega) (by omega)]; rfl) (by
      simp only [w_sameExts_1_s]
      rw [brn (by omega), decide_eq_false (by omega)])
  rw [brbe rfl, key]; rfl
end Go.AI.Fn

set_option linter.unusedVariables false
set_option linter.unusedSimpArgs false
namespace Go.AI.Fn

/-! ### the way back -/
theorem i_un_loop {U : List K} {c : Int} (hc : okF c) (hU : U.length ≤ 1000) : Loop (i_unNtt_1_s c (U.length : Int)) (kv U, 0) = some (kv (sc (kF c) U), (U.length : Int), false) := by
  let F : Nat → List K := fun j => (List.range U.length).map fun i => if i < j then kF c * U.getD i 0 else U.getD i 0
  have hF : ∀ j, (F j).length = U.length := fun j => by simp [F]
  have key := Loop_for (step := i_unNtt_1_s c (U.length : Int)) (fun j => (kv (F j), (j : Int))) U.length (e := (kv (sc (kF c) U), (U.length : Int), false)) (fun j hj => ?_) ?_
  · have h0 : F 0 = U := list_ext (hF 0) fun j hj => by rw [hF] at hj; simp only [F]; rw [getD_mr hj, if_neg (by omega)]
    rw [h0] at key; exact key
  · simp only [i_unNtt_1_s, Int.toNat_natCast]
    have hg : (F j).getD j 0 = U.getD j 0 := by simp only [F]; rw [getD_mr hj, if_neg (by omega)]
    have hs : (kv (F j)).set j (kF c * U.getD j 0).1 = kv (F (j + 1)) := by
      refine List.ext_getElem (by simp [kv, F]) fun i h1 h2 => ?_
      rw [kv_len, hF] at h2
      simp only [kv, F, List.getElem_set, List.getElem_map, List.getElem_range]
      by_cases c1 : j = i
      · subst c1; rw [if_pos rfl, if_pos (by omega)]
      · rw [if_neg c1]
        by_cases c2 : i < j
        · rw [if_pos c2, if_pos (by omega)]
        · rw [if_neg c2, if_neg (by omega)]
    have hx : eC (U.getD j 0).1 c = (kF c * U.getD j 0).1 := by rw [eC_eq, eM_comm, ← kF_val hc]; rfl
    rw [brd (by omega), brd (by omega), brd (by rw [kv_len, hF]; omega), kv_get? (by rw [hF]; omega), Option.bind_some, hg, i_scaled_eq (Subtype.property _) hc, Option.bind_some, hx, brd (by omega), brd (by rw [kv_len, hF]; omega), Option.bind_some, wrap_i64 _ (by omega) (by omega), hs]; rfl
  · simp only [i_unNtt_1_s]
    rw [brn (by omega), decide_eq_false (by omega)]
    have : F U.length = sc (kF c) U := list_ext (by rw [hF, sc_len]) fun j hj => by rw [hF] at hj; simp only [F]; rw [getD_mr hj, if_pos hj, sc_get]
    rw [this]
def bk (k : Nat) : K := kF (iF (rootM k))
def cn (k : Nat) : K := kF (iF ((2 ^ k : Nat) : Int))
theorem bk_inv {k : Nat} (h : k ≤ 24) : rtK k * bk k = 1 := by
  have := kF_iF (a := rootM k) (by have := rt_pow_p h 1; rw [pw1] at this; exact this)
  show kF (rootM k) * kF (iF (rootM k)) = 1
  exact kg
/-- The coefficients that a word comes from. -/
def unM (k : Nat) (W : List K) : List K := sc (cn k) (V k W (bk k))
theorem i_unNtt_eq {k : Nat} {W : List K} (hk : k ≤ 9) (hW : W.length = 2 ^ k) : i_unNtt (kv W) = some (kv (unM k W)) := by
  have hp := p2_9 k hk
  have hV := V_len k W (bk k) hW
  unfold i_unNtt
  rw [kv_len, hW, log9 k hk, Option.bind_some, i_root_eq (by omega), Option.bind_some, i_inverse_eq (rootM_ok k), Option.bind_some, i_values_eq hk (iF_ok _) hW, Option.bind_some, i_inverse_eq ⟨by omega, by omega⟩, Option.bind_some, kv_len]
  have := i_un_loop (U := V k W (bk k)) (c := iF ((2 ^ k : Nat) : Int)) (iF_ok _) (by omega)
  rw [show kF (iF (rootM k)) = bk k from rfl, this]; rfl
theorem unM_len {k : Nat} {W : List K} (hW : W.length = 2 ^ k) : (unM k W).length = 2 ^ k := by rw [unM, sc_len, V_len _ _ _ hW]
theorem unM_Enc {m t : Nat} {l : List K} (hk : m + t ≤ 9) (h : l.length = 2 ^ m) : unM (m + t) (Enc m t l) = padK l (2 ^ (m + t)) := by
  have hl := pad2_len (t := t) h
  unfold unM Enc
  rw [V_inv _ _ _ _ hl (rt_Rt (by omega)) (bk_inv (by omega))]
  refine list_ext (by rw [sc_len, sc_len]) fun j _ => ?_
  have := inv_len (m + t)
  rw [sc_get, sc_get, cn]
  exact kg
def zE (x : Ext) : Bool := x.A == 0 && x.B == 0
theorem zE_iff (x : K) : zE x.1 = true ↔ x = 0 := by
  constructor
  · intro h
    simp only [zE, Bool.and_eq_true, beq_iff_eq] at h
    exact K.ext (ext_eq h.1 h.2)
  · rintro rfl; rfl
theorem i_IsWord_eq {k t : Nat} {W : List K} (hk : k ≤ 9) (ht : t ≤ k) (hW : W.length = 2 ^ k) : i_IsWord (kv W) (t : Int) = some (!((kv ((unM k W).drop (2 ^ (k - t)))).any fun x => !zE x), 0) := by
  have hp := p2_9 k hk
  have hq := p2_9 (k - t) (by omega)
  have hu := unM_len hW
  have hle : 2 ^ (k - t) ≤ 2 ^ k := Nat.pow_le_pow_right (by omega) (by omega)
  have hd : ((kv (unM k W)).drop (2 ^ (k - t))).take (2 ^ k - 2 ^ (k - t)) = kv ((unM k W).drop (2 ^ (k - t))) := by
    rw [List.take_of_length_le (by rw [List.length_drop, kv_len, hu]; omega)]; simp [kv]
  unfold i_IsWord
  rw [i_wordCode_eq hk hW, Option.bind_some, brbe rfl, i_inA, Option.bind_some, notd (by omega), brd (by omega), kv_len, hW, shr_pow k hk t ht, brn (by omega), i_unNtt_eq hk hW, Option.bind_some, brd (by omega), kv_len, hu, subL_of (by omega) (by omega) (by rw [kv_len, hu]; omega), Option.bind_some, Int.toNat_natCast, Int.toNat_natCast, hd]
  unfold slices_ContainsFunc_Li_Ext_i_Ext_IsWord_1 slices_IndexFunc_Li_Ext_i_Ext_IsWord_1
  rw [contains_gen (step := slices_IndexFunc_Li_Ext_i_Ext_IsWord_1_1_s (kv ((unM k W).drop (2 ^ (k - t)))) (((kv ((unM k W).drop (2 ^ (k - t)))).length : Nat) : Int)) (p := fun x => !zE x) (f := i_IsWord_1) (by rw [kv_len, List.length_drop]; omega) (fun x _ => by
    unfold i_IsWord_1 zE
    by_cases h1 : x.A = 0
    · rw [bre h1]
      by_cases h2 : x.B = 0
      · rw [bre h2]; simp [h1, h2]
      · rw [brne h2]; simp [h1, h2]
    · rw [brne h1]; simp [h1]) (fun t => rfl)]; rfl
theorem isWord_true {k n t : Nat} {W l : List K} (h : unM k W = padK l n) (hl : l.length = 2 ^ (k - t)) : (!((kv ((unM k W).drop (2 ^ (k - t)))).any fun x => !zE x)) = true := by
  rw [h, ← hl]
  have : (padK l n).drop l.length = List.replicate (n - l.length) 0 := by simp [padK]
  rw [this, kv_rep]
  have hz : zE e0 = true := rfl
  by_cases c : n - l.length = 0
  · simp [c]
  · simp [hz]
theorem i_IsWord_Enc {m t : Nat} {l : List K} (hk : m + t ≤ 9) (h : l.length = 2 ^ m) : i_IsWord (kv (Enc m t l)) (t : Int) = some (true, 0) := by
  rw [i_IsWord_eq hk (by omega) (Enc_len h), isWord_true (l := l) (n := 2 ^ (m + t)) (unM_Enc hk h) (by rw [h]; congr 1; omega)]

/-! ### one place changed -/
def dl (n i : Nat) : List K := List.replicate i 0 ++ (1 :: List.replicate (n - 1 - i) 0)
theorem dl_len {n i : Nat} (h : i < n) : (dl n i).length = n := by simp [dl]; omega
theorem dl_get {n i : Nat} (h : i < n) (j : Nat) : (dl n i).getD j 0 = if j = i then 1 else 0 := by
  unfold dl
  by_cases c : j < i
  · rw [gd_l (by simpa using c), rep_get, if_neg (by omega)]
  · obtain ⟨d, rfl⟩ : ∃ d, j = i + d := ⟨j - i, by omega⟩
    have e := gd_r (a := List.replicate i (0 : K)) (b := 1 :: List.replicate (n - 1 - i) 0) (j := d)
    rw [List.length_replicate] at e
    rw [e]
    cases d with
    | zero => simp
    | succ d => rw [List.getD_cons_succ, rep_get, if_neg (by omega)]
theorem ev_rep : ∀ (n : Nat) (x : K), ev (List.replicate n 0) x = 0
  | 0, x => rfl
  | n + 1, x => by rw [List.replicate_succ, ev, ev_rep n x]; exact kg
theorem ev_dl (n i : Nat) (x : K) : ev (dl n i) x = x ^ i := by
  rw [dl, ev_app, ev_rep, ev, ev_rep, List.length_replicate]; exact kg
theorem set_dl {W : List K} {n i : Nat} (hW : W.length = n) (hi : i < n) : (kv W).set i (W.getD i 0 + 1).1 = kv (cb 1 W (dl n i)) := by
  have hd := dl_len hi
  have hc : (cb 1 W (dl n i)).length = n := by rw [cb_len (by omega), hW]
  refine List.ext_getElem (by rw [List.length_set, kv_len, kv_len, hc, hW]) fun j h1 h2 => ?_
  rw [kv_len, hc] at h2
  rw [kv_get (by omega), cb_get (by omega), dl_get hi, List.getElem_set]
  by_cases c : i = j
  · subst c; rw [if_pos rfl, if_pos rfl]; exact congrArg Subtype.val (by exact kg)
  · rw [if_neg c, if_neg (by omega), kv_get (by omega)]; exact congrArg Subtype.val (by exact kg)
theorem one_ne : (1 : K) ≠ 0 := fun h => by
  have : (1 : K).1.A = (0 : K).1.A := by rw [h]
  revert this; decide
theorem isWord_false {k t i : Nat} {W l : List K} (hk : k ≤ 9) (ht : 1 ≤ t) (ht2 : t ≤ k) (hW : W.length = 2 ^ k) (hi : i < 2 ^ k) (h : unM k W = padK l (2 ^ k)) (hl : l.length = 2 ^ (k - t)) :
    i_IsWord (kv (cb 1 W (dl (2 ^ k) i))) (t : Int) = some (false, 0) := by
  have hd := dl_len hi
  have hc : (cb 1 W (dl (2 ^ k) i)).length = 2 ^ k := by rw [cb_len (by omega), hW]
  have hp := p2_9 k hk
  have hlt : 2 ^ (k - t) < 2 ^ k := Nat.pow_lt_pow_right (by omega) (by omega)
  rw [i_IsWord_eq hk ht2 hc]
  have hb : (kv ((unM k (cb 1 W (dl (2 ^ k) i))).drop (2 ^ (k - t)))).any (fun x => !zE x) = true := by
    let j := 2 ^ k - 1
    have hV := V_len k W (bk k) hW
    have hVd := V_len k (dl (2 ^ k) i) (bk k) hd
    have hu := unM_len hc
    have hbk := bk_inv (k := k) (by omega)
    have hel : (unM k (cb 1 W (dl (2 ^ k) i))).getD j 0 = cn k * (bk k ^ j) ^ i := by
      have h0 : (unM k W).getD j 0 = 0 := by rw [h, padK_get]; simp [show ¬ j < l.length by simp only [j]; omega]
      have hz : V k (cb 1 W (dl (2 ^ k) i)) (bk k) = cb 1 (V k W (bk k)) (V k (dl (2 ^ k) i) (bk k)) := V_cb k _ _ _ hW hd
      unfold unM at h0 ⊢
      rw [sc_get] at h0 ⊢
      rw [hz, cb_get (by omega), V_ev k (dl (2 ^ k) i) (bk k) hd ((rt_Rt (by omega)).inv hbk) j (by simp only [j]; omega), ev_dl]
      exact kg
    have hne : (unM k (cb 1 W (dl (2 ^ k) i))).getD j 0 ≠ 0 := by
      intro hz
      rw [hel] at hz
      have h1 := inv_len k
      have h2 : rtK k ^ (j * i) * bk k ^ (j * i) = 1 := by rw [← mul_pw, hbk, one_pw]
      rw [← pw_mul] at hz
      apply one_ne
      rw [show cn k = kF (iF ((2 ^ k : Nat) : Int)) from rfl] at hz
      generalize kF (iF ((2 ^ k : Nat) : Int)) = c at *
      generalize bk k ^ (j * i) = y at *
      generalize rtK k ^ (j * i) = x at *
      generalize (2 : K) ^ k = d at *
      have e : (c * d) * (x * y) = (c * y) * (d * x) := by clear hz h1 h2 hbk hel; exact kg
      rw [h1, h2, hz] at e
      clear h1 h2 hz hbk hel
      exact kg
    rw [List.any_eq_true]
    refine ⟨((unM k (cb 1 W (dl (2 ^ k) i))).getD j 0).1, ?_, ?_⟩
    · have hj : j < (unM k (cb 1 W (dl (2 ^ k) i))).length := by rw [hu]; simp only [j]; omega
      refine List.mem_map.2 ⟨_, ?_, rfl⟩
      rw [List.mem_iff_getElem]
      refine ⟨j - 2 ^ (k - t), by rw [List.length_drop]; simp only [j] at *; omega, ?_⟩
      rw [List.getElem_drop]
      have : 2 ^ (k - t) + (j - 2 ^ (k - t)) = j := by simp only [j]; omega
      simp only [this]
      simp [hj]
    · cases hz : zE ((unM k (cb 1 W (dl (2 ^ k) i))).getD j 0).1
      · rfl
      · exact absurd ((zE_iff _).1 hz) hne
  rw [hb]; rfl
theorem i_ExtAdd_one (a : K) : i_ExtAdd a.1 (Ext.mk 1 0) = some ((a + 1).1, 0) := by
  unfold i_ExtAdd i_extTwo_plus
  rw [i_ExtOK_eq, Option.bind_some, okEb_iff.2 a.2, Bool.not_true, br_false, i_ExtOK_eq, Option.bind_some, show okEb (Ext.mk 1 0) = true from rfl, Bool.not_true, br_false, show Ext.mk 1 0 = e1 from rfl, i_plus_eq a.2 e1_ok]; rfl
theorem law_FnWord (a b : List UInt8) (ha : bdL bdT a) (hb : bdL bdT b) : w_FnWord a b = some true := by
  unfold w_FnWord
  by_cases c1 : ((a.length : Nat) : Int) > 1048576
  · rw [brd c1]
  rw [brn c1]
  by_cases c2 : ((b.length : Nat) : Int) > 1048576
  · rw [brd c2]
  rw [brn c2]
  obtain ⟨x, e1, x0, x1⟩ := at_ok (a := b) (i := 0) (n := 3) (by omega) (by omega) (by omega) (by omega)
  obtain ⟨y, e2, y0, y1⟩ := at_ok (a := b) (i := 1) (n := 3) (by omega) (by omega) (by omega) (by omega)
  obtain ⟨m, rfl⟩ := Int.eq_ofNat_of_zero_le x0
  obtain ⟨t', rfl⟩ := Int.eq_ofNat_of_zero_le y0
  rw [e1, Option.bind_some, e2, Option.bind_some, wrap_i64 _ (by omega) (by omega), wrap_u64 _ (by omega) (by omega), brd (by omega), wrap_i64 _ (by omega) (by omega), wrap_u64 _ (by omega) (by omega), show (1 : Int) + (m : Int) = ((m + 1 : Nat) : Int) by omega, show (1 : Int) + (t' : Int) = ((t' + 1 : Nat) : Int) by omega, shl1 (by omega)]
  generalize ht : t' + 1 = t at *
  have hp := p2_9 (m + 1) (by omega)
  have hp0 := p2_9 m (by omega)
  have hpk := p2_9 (m + t) (by omega)
  have hpk1 := p2_9 (m + 1 + t) (by omega)
  have hs : 2 ^ (m + 1 + t) = 2 * 2 ^ (m + t) := by rw [show m + 1 + t = m + t + 1 by omega, Nat.pow_succ]; omega
  obtain ⟨L, e3, hL, okL⟩ := ExtsOf_ok (code := a) (n := ((2 ^ (m + 1) : Nat) : Int)) (by omega) (by omega) (by omega)
  obtain ⟨l, rfl⟩ := kv_lift (L := L) okL
  have hl : l.length = 2 ^ (m + 1) := by rw [kv_len] at hL; omega
  have hl2 : l.length = 2 * 2 ^ m := by rw [hl, Nat.pow_succ]; omega
  obtain ⟨r, e4⟩ := ExtOf_ok (code := b) (by omega)
  have hW := Enc_len (t := t) hl
  have hc : (cb r (evs l) (ods l)).length = 2 ^ m := by
    have h1 := evs_len l _ hl2
    have h2 := ods_len l _ hl2
    rw [cb_len (by omega), h1]
  obtain ⟨z, e5, z0, z1⟩ := at_ok (a := b) (i := 2) (n := ((2 ^ (m + 1 + t) : Nat) : Int)) (by omega) (by omega) (by omega) (by omega)
  obtain ⟨i, rfl⟩ := Int.eq_ofNat_of_zero_le z0
  have hi : i < 2 ^ (m + 1 + t) := by omega
  have hE2 := Enc_len (t := t) hc
  have hW' : (Enc (m + 1) t l).length = 2 ^ (m + t + 1) := by rw [hW]; congr 1; omega
  rw [e3, Option.bind_some, i_EncodeWord_eq (by omega) hl, Option.bind_some, s_EncodeWord_eq (by omega) hl, Option.bind_some]
  dsimp only
  rw [i_IsWord_Enc (by omega) hl, Option.bind_some, brbe rfl, sameExts_self (by rw [kv_len, hW]; omega), Option.bind_some, Bool.not_true, br_false, brd (by omega), kv_len l, kv_len, hW, hl, shl_pow (m + 1) (by omega) t (by omega), brbe rfl, brbe rfl, br_false, e4, Option.bind_some, i_FoldWord_eq r (by omega) hW', Option.bind_some]
  dsimp only
  rw [Enc_fold r (by omega) hl, i_IsWord_Enc (by omega) hc, Option.bind_some, brbe rfl, kv_len, hE2, wrap_i64 _ (by omega) (by omega), brbe (by omega), brbe rfl]
  dsimp only
  rw [Bool.not_true, br_false, List.nil_append, kv_len, hW, br_fits (by omega), e5, Option.bind_some, brd (by omega), Int.toNat_natCast, brd (by omega), kv_get? (by omega), Option.bind_some]
  unfold w_one
  rw [Option.bind_some, i_ExtAdd_one, Option.bind_some, brd (by omega), brd (by omega), Option.bind_some]
  dsimp only
  rw [set_dl hW hi, isWord_false (k := m + 1 + t) (t := t) (l := l) (by omega) (by omega) (by omega) hW hi (unM_Enc (by omega) hl) (by rw [hl]; congr 1; omega), Option.bind_some, bre rfl, bre rfl]; rfl
end Go.AI.Fn
