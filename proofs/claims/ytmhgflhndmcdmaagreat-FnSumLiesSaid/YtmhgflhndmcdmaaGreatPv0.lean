/- Plain laws for printed functions: loops whose states are told in advance; numbers; places. -/
import Derived.Test.YtmhgflhndmcdmaaGreatAiW
import Derived.Test.YtmhgflhndmcdmaaGreatFx0
import Derived.KernelRfl
set_option linter.unusedVariables false
namespace Go.AI

theorem Loop_inl {S E : Type} {step : S → Option (S ⊕ E)} {s s' : S} (h : step s = some (.inl s')) : Loop step s = Loop step s' := by rw [Loop_eq, h]; rfl
theorem Loop_inr {S E : Type} {step : S → Option (S ⊕ E)} {s : S} {e : E} (h : step s = some (.inr e)) : Loop step s = some e := by rw [Loop_eq, h]; rfl
/-- A loop that goes through states that are told. -/
theorem Loop_for {S E : Type} {step : S → Option (S ⊕ E)} (F : Nat → S) (n : Nat) {e : E} (hs : ∀ k, k < n → step (F k) = some (.inl (F (k + 1)))) (he : step (F n) = some (.inr e)) : Loop step (F 0) = some e := by
  have key : ∀ m k, k + m = n → Loop step (F k) = some e := by
    intro m
    induction m with
    | zero => intro k hk; have : k = n := by omega
              subst this; exact Loop_inr he
    | succ m ih => intro k hk; rw [Loop_inl (hs k (by omega))]; exact ih (k + 1) (by omega)
  exact key n 0 (by omega)
/-- The first place where something fails. -/
theorem first_bad (P : Nat → Bool) : ∀ n, (∀ k, k < n → P k = true) ∨ ∃ k, k < n ∧ P k = false ∧ ∀ j, j < k → P j = true
  | 0 => .inl (by omega)
  | n + 1 => by
    rcases first_bad P n with h | ⟨k, hk, h1, h2⟩
    · cases hn : P n
      · exact .inr ⟨n, by omega, hn, h⟩
      · refine .inl fun k hk => ?_
        by_cases e : k = n
        · subst e; exact hn
        · exact h k (by omega)
    · exact .inr ⟨k, by omega, h1, h2⟩
/-- A loop that goes on as long as something holds. -/
theorem Loop_all {S E : Type} {step : S → Option (S ⊕ E)} (F : Nat → S) (n : Nat) (P : Nat → Bool) (x : Nat → E) {e : E} (hs : ∀ k, k < n → P k = true → step (F k) = some (.inl (F (k + 1))))
    (hx : ∀ k, k < n → P k = false → step (F k) = some (.inr (x k))) (he : step (F n) = some (.inr e)) :
    ((∀ k, k < n → P k = true) ∧ Loop step (F 0) = some e) ∨ ∃ k, k < n ∧ P k = false ∧ (∀ j, j < k → P j = true) ∧ Loop step (F 0) = some (x k) := by
  rcases first_bad P n with h | ⟨k, hk, h1, h2⟩
  · exact .inl ⟨h, Loop_for F n (fun k hk => hs k hk (h k hk)) he⟩
  · exact .inr ⟨k, hk, h1, h2, Loop_for F k (fun j hj => hs j (by omega) (h2 j hj)) (hx k hk h1)⟩
/-- A loop with an invariant, a measure, a postcondition. -/
theorem Loop_inv {S E : Type} {step : S → Option (S ⊕ E)} (Inv : S → Prop) (me : S → Nat) (Post : E → Prop)
    (hs : ∀ s, Inv s → (∃ s', step s = some (.inl s') ∧ Inv s' ∧ me s' < me s) ∨ (∃ e, step s = some (.inr e) ∧ Post e)) :
    ∀ s, Inv s → ∃ e, Loop step s = some e ∧ Post e := by
  intro s
  generalize hm : me s = m
  induction m using Nat.strongRecOn generalizing s with
  | _ m ih =>
    intro hi
    rw [Loop_eq]
    rcases hs s hi with ⟨s', h1, h2, h3⟩ | ⟨e, h1, h2⟩
    · rw [h1]; exact ih (me s') (by omega) s' rfl h2
    · rw [h1]; exact ⟨e, rfl, h2⟩

theorem br_of {α : Type} {c : Bool} {x y : α} (h : c = true) : br c x y = x := by subst h; rfl
theorem br_no {α : Type} {c : Bool} {x y : α} (h : c = false) : br c x y = y := by subst h; rfl
theorem brd {α : Type} {p : Prop} [Decidable p] {x y : α} (h : p) : br (decide p) x y = x := br_of (decide_eq_true h)
theorem brn {α : Type} {p : Prop} [Decidable p] {x y : α} (h : ¬p) : br (decide p) x y = y := br_no (decide_eq_false h)
theorem brdd {α : Type} {p q : Prop} [Decidable p] [Decidable q] {x y : α} (h : p) (g : q) : br (decide p && decide q) x y = x := br_of (by simp [h, g])
theorem bre {α : Type} {a b : Int} {x y : α} (h : a = b) : br (a == b) x y = x := br_of (by simp [h])
theorem brne {α : Type} {a b : Int} {x y : α} (h : a ≠ b) : br (a == b) x y = y := br_no (by simp [h])
theorem brb {α : Type} {a b : Int} {x y : α} (h : a ≠ b) : br (a != b) x y = x := br_of (by simp [h])
theorem brbe {α : Type} {a b : Int} {x y : α} (h : a = b) : br (a != b) x y = y := br_no (by simp [h])
theorem tmod_nn (a b : Int) (h : 0 ≤ a) : a.tmod b = a % b := Int.tmod_eq_emod_of_nonneg h
theorem tdiv_nn (a b : Int) (h : 0 ≤ a) : a.tdiv b = a / b := Int.tdiv_eq_ediv_of_nonneg h
theorem u8_lt (x : UInt8) : (x.toNat : Int) < 256 := by have := x.toNat_lt; omega
theorem fits_of {n b : Nat} (h : n * b ≤ 1099511627776) : fits n b = true := by simp [fits, okBound, h]
theorem br_fits {α : Type} {n b : Nat} {x y : α} (h : n * b ≤ 1099511627776) : br (fits n b) x y = x := br_of (fits_of h)
theorem atL_nat {α : Type} {l : List α} {k : Nat} (h : k < l.length) : atL l (k : Int) = some l[k] := by simp [atL, h]
theorem get_bind {β : Type} {l : List Int} {i : Nat} {f : Int → Option β} (h : i < l.length) : (l[i]?).bind f = f (l.getD i 0) := by simp [h]
theorem get_some {α : Type} {l : List α} {i : Nat} (h : i < l.length) : l[i]? = some l[i] := List.getElem?_eq_getElem h
theorem atL_of {α : Type} {l : List α} {i : Int} (h0 : 0 ≤ i) (h1 : i < l.length) : ∃ x, atL l i = some x ∧ l[i.toNat]? = some x ∧ x ∈ l := by
  have h : i.toNat < l.length := by omega
  exact ⟨l[i.toNat], by simp [atL, h0, h], by simp [h], List.getElem_mem h⟩
theorem drop_cons {α : Type} {l : List α} {i : Nat} (h : i < l.length) : ∃ x r, l.drop i = x :: r ∧ l.drop (i + 1) = r ∧ l[i]? = some x :=
  ⟨l[i], l.drop (i + 1), List.drop_eq_getElem_cons h, rfl, by simp [h]⟩
theorem atL_drop {α : Type} {l r : List α} {x : α} {i : Int} (h0 : 0 ≤ i) (h : l.drop i.toNat = x :: r) : atL l i = some x := by
  have : l[i.toNat]? = some x := by rw [← List.head?_drop, h]; rfl
  simp [atL, h0, this]
theorem subL_of {α : Type} {l : List α} {a b : Int} (h0 : 0 ≤ a) (h1 : a ≤ b) (h2 : b ≤ l.length) : subL l a b = some ((l.drop a.toNat).take (b.toNat - a.toNat)) := by
  simp [subL, h0, h1, h2, List.drop_take]
theorem take_succ {α : Type} {l : List α} {k : Nat} (h : k < l.length) : l.take (k + 1) = l.take k ++ [l[k]] := by rw [List.take_succ_eq_append_getElem h]
theorem cast_succ (k : Nat) : ((k + 1 : Nat) : Int) = (k : Int) + 1 := by omega
theorem nZ_len (n : Nat) : (nZ n).length = n := by simp [nZ]
/-- A state that is turned step by step. -/
def iU {α : Type} (f : Nat → α → α) : Nat → α → α
  | 0, l => l
  | k + 1, l => f k (iU f k l)
theorem iU_len {f : Nat → List Int → List Int} (hf : ∀ k l, (f k l).length = l.length) : ∀ (k : Nat) (l : List Int), (iU f k l).length = l.length
  | 0, l => rfl
  | k + 1, l => by rw [iU, hf, iU_len hf k l]
end Go.AI

set_option linter.unusedVariables false
set_option linter.unusedSimpArgs false
namespace Go.AI.Fn

def okF (a : Int) : Prop := 0 ≤ a ∧ a ≤ 2130706432
def okE (x : Ext) : Prop := okF x.A ∧ okF x.B
def okFb (a : Int) : Bool := decide (0 ≤ a) && decide (a ≤ 2130706432)
def okEb (x : Ext) : Bool := okFb x.A && okFb x.B
theorem okFb_iff {a : Int} : okFb a = true ↔ okF a := by simp [okFb, okF]
theorem okEb_iff {x : Ext} : okEb x = true ↔ okE x := by simp [okEb, okE, okFb_iff]

def aF (a b : Int) : Int := (a + b) % 2130706433
def sF (a b : Int) : Int := (a - b) % 2130706433
def mF (a b : Int) : Int := (a * b) % 2130706433
def eA (x y : Ext) : Ext := ⟨(x.A + y.A) % 2130706433, (x.B + y.B) % 2130706433⟩
def eS (x y : Ext) : Ext := ⟨(x.A - y.A) % 2130706433, (x.B - y.B) % 2130706433⟩
def eM (x y : Ext) : Ext := ⟨(x.A * y.A + 3 * (x.B * y.B)) % 2130706433, (x.A * y.B + x.B * y.A) % 2130706433⟩
def eC (x : Ext) (n : Int) : Ext := ⟨(x.A * n) % 2130706433, (x.B * n) % 2130706433⟩
def e0 : Ext := ⟨0, 0⟩
def e1 : Ext := ⟨1, 0⟩
def eN (n : Int) : Ext := ⟨n, 0⟩

theorem okF3 : okF 3 := ⟨by decide, by decide⟩
theorem okF1 : okF 1 := ⟨by decide, by decide⟩
theorem okF0 : okF 0 := ⟨by decide, by decide⟩
theorem okF_mod (a : Int) : okF (a % 2130706433) := ⟨by omega, by omega⟩
theorem sF_ok (a b : Int) : okF (sF a b) := okF_mod _
theorem mF_ok (a b : Int) : okF (mF a b) := okF_mod _
theorem eA_ok (x y : Ext) : okE (eA x y) := ⟨okF_mod _, okF_mod _⟩
theorem eS_ok (x y : Ext) : okE (eS x y) := ⟨okF_mod _, okF_mod _⟩
theorem eM_ok (x y : Ext) : okE (eM x y) := ⟨okF_mod _, okF_mod _⟩
theorem e0_ok : okE e0 := ⟨⟨by decide, by decide⟩, ⟨by decide, by decide⟩⟩
theorem eN_ok {n : Int} (h : okF n) : okE (eN n) := ⟨h, okF0⟩

theorem mul_bd {a b : Int} (ha : okF a) (hb : okF b) : 0 ≤ a * b ∧ a * b ≤ 4539909900063178624 :=
  ⟨Int.mul_nonneg ha.1 hb.1, Int.le_trans (Int.mul_le_mul ha.2 hb.2 hb.1 (by decide)) (by decide)⟩
theorem mod_self {a : Int} (h : okF a) : a % 2130706433 = a := by obtain ⟨h1, h2⟩ := h; omega

/-! ### remainders of remainders -/
theorem ext_eq {x y : Ext} (h1 : x.A = y.A) (h2 : x.B = y.B) : x = y := by cases x; cases y; cases h1; cases h2; rfl
theorem mA1 (a b : Int) : (a % 2130706433 + b) % 2130706433 = (a + b) % 2130706433 := Int.emod_add_emod _ _ _
theorem mA2 (a b : Int) : (a + b % 2130706433) % 2130706433 = (a + b) % 2130706433 := Int.add_emod_emod _ _ _
theorem mM1 (a b : Int) : (a % 2130706433 * b) % 2130706433 = (a * b) % 2130706433 := by rw [Int.mul_emod, Int.emod_emod, ← Int.mul_emod]
theorem mM2 (a b : Int) : (a * (b % 2130706433)) % 2130706433 = (a * b) % 2130706433 := by rw [Int.mul_emod, Int.emod_emod, ← Int.mul_emod]
theorem mX1 (a b c : Int) : (a % 2130706433 * b + c) % 2130706433 = (a * b + c) % 2130706433 := by rw [← mA1, mM1, mA1]
theorem mX4 (a b c : Int) : (c + a * (b % 2130706433)) % 2130706433 = (c + a * b) % 2130706433 := by rw [← mA2, mM2, mA2]
/-! ### the program -/
theorem i_add_eq {a b : Int} (ha : okF a) (hb : okF b) : i_add a b = some (aF a b) := by
  obtain ⟨h1, h2⟩ := ha; obtain ⟨h3, h4⟩ := hb
  unfold i_add aF; rw [wrap_i64 _ (by omega) (by omega), tmod_nn _ _ (by omega)]
theorem i_sub_eq {a b : Int} (ha : okF a) (hb : okF b) : i_sub a b = some (sF a b) := by
  obtain ⟨h1, h2⟩ := ha; obtain ⟨h3, h4⟩ := hb
  unfold i_sub sF; rw [wrap_i64 (a - b) (by omega) (by omega), wrap_i64 _ (by omega) (by omega), tmod_nn _ _ (by omega)]
  congr 1; omega
theorem i_mul_eq {a b : Int} (ha : okF a) (hb : okF b) : i_mul a b = some (mF a b) := by
  have h := mul_bd ha hb
  unfold i_mul mF; rw [wrap_i64 _ (by omega) (by omega), tmod_nn _ _ (by omega)]
theorem i_plus_eq {x y : Ext} (hx : okE x) (hy : okE y) : i_Ext_plus x y = some (eA x y) := by
  unfold i_Ext_plus; rw [i_add_eq hx.1 hy.1, i_add_eq hx.2 hy.2]; rfl
theorem i_minus_eq {x y : Ext} (hx : okE x) (hy : okE y) : i_Ext_minus x y = some (eS x y) := by
  unfold i_Ext_minus; rw [i_sub_eq hx.1 hy.1, i_sub_eq hx.2 hy.2]; rfl
theorem eM_form (x y : Ext) : eM x y = ⟨aF (mF x.A y.A) (mF 3 (mF x.B y.B)), aF (mF x.A y.B) (mF x.B y.A)⟩ := by
  unfold eM aF mF
  congr 1
  · rw [mA1, mA2, mX4]
  · rw [mA1, mA2]
theorem i_times_eq {x y : Ext} (hx : okE x) (hy : okE y) : i_Ext_times x y = some (eM x y) := by
  unfold i_Ext_times
  rw [i_mul_eq hx.1 hy.1, i_mul_eq hx.2 hy.2]
  simp only [Option.bind_some]
  rw [i_mul_eq okF3 (mF_ok _ _)]
  simp only [Option.bind_some]
  rw [i_add_eq (mF_ok _ _) (mF_ok _ _), i_mul_eq hx.1 hy.2, i_mul_eq hx.2 hy.1]
  simp only [Option.bind_some]
  rw [i_add_eq (mF_ok _ _) (mF_ok _ _), eM_form]; rfl
theorem i_scaled_eq {x : Ext} {n : Int} (hx : okE x) (hn : okF n) : i_Ext_scaled x n = some (eC x n) := by
  unfold i_Ext_scaled; rw [i_mul_eq hx.1 hn, i_mul_eq hx.2 hn]; rfl
theorem i_in_eq (n a b : Int) : i_in n a b = some (decide (a ≤ n) && decide (n ≤ b)) := by
  unfold i_in; cases decide (a ≤ n) <;> rfl
theorem i_FieldOK_eq (a : Int) : i_FieldOK a = some (okFb a) := by
  unfold i_FieldOK; rw [i_in_eq]; rfl
theorem i_ExtOK_eq (x : Ext) : i_ExtOK x = some (okEb x) := by
  unfold i_ExtOK okEb; rw [i_FieldOK_eq, i_FieldOK_eq]; cases okFb x.A <;> rfl
/-! ### the reference -/
theorem s_add_eq {a b : Int} (ha : okF a) (hb : okF b) : s_l01Add a b = some (aF a b) := i_add_eq ha hb
theorem s_sub_eq {a b : Int} (ha : okF a) (hb : okF b) : s_l01Sub a b = some (sF a b) := by
  obtain ⟨h1, h2⟩ := ha; obtain ⟨h3, h4⟩ := hb
  unfold s_l01Sub sF; rw [wrap_i64 (a + 2130706433) (by omega) (by omega), wrap_i64 _ (by omega) (by omega), tmod_nn _ _ (by omega)]
  congr 1; omega
theorem s_mul_eq {a b : Int} (ha : okF a) (hb : okF b) : s_l01Mul a b = some (mF a b) := i_mul_eq ha hb
theorem s_eadd_eq {x y : Ext} (hx : okE x) (hy : okE y) : s_l02Add x y = some (eA x y) := by
  unfold s_l02Add; rw [s_add_eq hx.1 hy.1, s_add_eq hx.2 hy.2]; rfl
theorem s_esub_eq {x y : Ext} (hx : okE x) (hy : okE y) : s_l02Sub x y = some (eS x y) := by
  unfold s_l02Sub; rw [s_sub_eq hx.1 hy.1, s_sub_eq hx.2 hy.2]; rfl
theorem s_emul_eq {x y : Ext} (hx : okE x) (hy : okE y) : s_l02Mul x y = some (eM x y) := by
  unfold s_l02Mul
  have h3 : (IntKind.wrap .i64 (3 * mF x.B y.B)).tmod 2130706433 = mF 3 (mF x.B y.B) := by
    have := i_mul_eq okF3 (mF_ok x.B y.B)
    unfold i_mul at this
    exact Option.some.inj this
  rw [s_mul_eq hx.1 hy.1, s_mul_eq hx.2 hy.2]
  simp only [Option.bind_some]
  rw [h3, s_add_eq (mF_ok _ _) (mF_ok _ _), s_mul_eq hx.1 hy.2, s_mul_eq hx.2 hy.1]
  simp only [Option.bind_some]
  rw [s_add_eq (mF_ok _ _) (mF_ok _ _), eM_form]; rfl
theorem s_of_eq (n : Int) : s_l02Of n = some (eN n) := rfl
theorem s_in_eq (n a b : Int) : s_l01In n a b = some (decide (a ≤ n) && decide (n ≤ b)) := by
  unfold s_l01In; cases decide (a ≤ n) <;> rfl
theorem s_FieldOK_eq (a : Int) : s_FieldOK a = some (okFb a) := by
  unfold s_FieldOK; rw [s_in_eq]; rfl
theorem s_ExtOK_eq (x : Ext) : s_ExtOK x = some (okEb x) := by
  unfold s_ExtOK okEb; rw [s_FieldOK_eq, s_FieldOK_eq]; cases okFb x.A <;> rfl

/-! ### laws -/
theorem eC_eq (x : Ext) (n : Int) : eC x n = eM x (eN n) := by
  apply ext_eq <;> (simp only [eC, eM, eN]; congr 1; grind)
end Go.AI.Fn

set_option linter.unusedVariables false
set_option linter.unusedSimpArgs false
namespace Go.AI.Fn

/-- A power, by squares. -/
def pF (a : Int) (n : Nat) : Int := (a ^ n) % 2130706433
theorem pF_ok (a : Int) (n : Nat) : okF (pF a n) := okF_mod _
theorem and1 {n : Int} (h : 0 ≤ n) (h2 : n < 9223372036854775808) : and64 .i64 n 1 = n % 2 := by
  show IntKind.wrap .i64 ((BitVec.ofInt 64 n &&& BitVec.ofInt 64 1).toNat : Int) = n % 2
  have e1 : (BitVec.ofInt 64 n).toNat = n.toNat := by rw [BitVec.toNat_ofInt]; omega
  have e2 : (BitVec.ofInt 64 1).toNat = 1 := by decide
  rw [BitVec.toNat_and, e1, e2, Nat.and_one_is_mod, wrap_i64 _ (by omega) (by omega)]
  omega
theorem shr1 {n : Int} (h : 0 ≤ n) : shr64 .i64 n 1 = n / 2 := by
  show n.fdiv (2 ^ 1) = n / 2
  rw [Int.fdiv_eq_ediv_of_nonneg _ (by decide)]; rfl
theorem pow_even {a : Int} {n : Nat} (h : n % 2 = 0) : (a * a) ^ (n / 2) = a ^ n := by
  have e : n = 2 * (n / 2) := by omega
  have e2 : a ^ n = a ^ (2 * (n / 2)) := by rw [← e]
  rw [e2, Int.pow_mul, Int.pow_succ, Int.pow_succ, Int.pow_zero, Int.one_mul]
theorem pow_odd {a : Int} {n : Nat} (h : n % 2 = 1) : a * (a * a) ^ (n / 2) = a ^ n := by
  have e : n = 2 * (n / 2) + 1 := by omega
  have e2 : a ^ n = a ^ (2 * (n / 2) + 1) := by rw [← e]
  rw [e2, Int.pow_succ, Int.pow_mul, Int.pow_succ, Int.pow_succ, Int.pow_zero, Int.one_mul, Int.mul_comm]
theorem pow_mod (a : Int) (n : Nat) : ((a % 2130706433) ^ n) % 2130706433 = (a ^ n) % 2130706433 := by
  induction n with
  | zero => rw [Int.pow_zero, Int.pow_zero]
  | succ n ih => rw [Int.pow_succ, Int.pow_succ, mM2, ← mM1, ih, mM1]

theorem pow_step {a out : Int} {n : Nat} (hn : 0 < n) : (n % 2 = 1 → (mF out a * (mF a a) ^ (n / 2)) % 2130706433 = (out * a ^ n) % 2130706433) ∧ (n % 2 = 0 → (out * (mF a a) ^ (n / 2)) % 2130706433 = (out * a ^ n) % 2130706433) := by
  constructor
  · intro h
    unfold mF
    rw [mM1, ← mM2, pow_mod, mM2, ← pow_odd h, Int.mul_assoc]
  · intro h
    unfold mF
    rw [← mM2, pow_mod, mM2, pow_even h]
theorem i_pow_loop {a out n : Int} (ha : okF a) (ho : okF out) (h0 : 0 ≤ n) (hn : n < 9223372036854775808) : ∃ e, Loop i_pow_1_s (a, n, out) = some e ∧ e.2.2.1 = (out * a ^ n.toNat) % 2130706433 := by
  refine Loop_inv (step := i_pow_1_s) (fun s => okF s.1 ∧ okF s.2.2 ∧ 0 ≤ s.2.1 ∧ s.2.1 < 9223372036854775808 ∧ (s.2.2 * s.1 ^ s.2.1.toNat) % 2130706433 = (out * a ^ n.toNat) % 2130706433) (fun s => s.2.1.toNat) _ ?_ (a, n, out) ⟨ha, ho, h0, hn, rfl⟩
  rintro ⟨b, k, o⟩ ⟨hb, ho', hk0, hk1, hinv⟩
  dsimp only at hb ho' hk0 hk1 hinv
  simp only [i_pow_1_s]
  by_cases hk : k > 0
  · left
    rw [brd hk, and1 hk0 hk1, shr1 hk0, i_mul_eq hb hb]
    have hs := pow_step (a := b) (out := o) (n := k.toNat) (by omega)
    have e : (k / 2).toNat = k.toNat / 2 := by omega
    by_cases h2 : k % 2 = 1
    · rw [bre h2, i_mul_eq ho' hb]
      refine ⟨_, rfl, ⟨mF_ok _ _, mF_ok _ _, by dsimp only; omega, by dsimp only; omega, ?_⟩, by dsimp only; omega⟩
      dsimp only
      rw [e, hs.1 (by omega), hinv]
    · rw [brne h2]
      refine ⟨_, rfl, ⟨mF_ok _ _, ho', by dsimp only; omega, by dsimp only; omega, ?_⟩, by dsimp only; omega⟩
      dsimp only
      rw [e, hs.2 (by omega), hinv]
  · right
    rw [brn hk]
    refine ⟨_, rfl, ?_⟩
    have : k = 0 := by omega
    subst this
    dsimp only
    rw [← hinv]
    simp [mod_self ho']
theorem i_pow_eq {a n : Int} (ha : okF a) (h0 : 0 ≤ n) (hn : n < 9223372036854775808) : i_pow a n = some (pF a n.toNat) := by
  unfold i_pow
  obtain ⟨e, h1, h2⟩ := i_pow_loop ha okF1 h0 hn
  rw [h1, Option.bind_some, h2, Int.one_mul]; rfl
theorem s_pow_loop {a out n : Int} (ha : okF a) (ho : okF out) (h0 : 0 ≤ n) (hn : n < 9223372036854775808) : ∃ e, Loop s_l01Pow_1_s (a, n, out) = some e ∧ e.2.2.1 = (out * a ^ n.toNat) % 2130706433 := by
  refine Loop_inv (step := s_l01Pow_1_s) (fun s => okF s.1 ∧ okF s.2.2 ∧ 0 ≤ s.2.1 ∧ s.2.1 < 9223372036854775808 ∧ (s.2.2 * s.1 ^ s.2.1.toNat) % 2130706433 = (out * a ^ n.toNat) % 2130706433) (fun s => s.2.1.toNat) _ ?_ (a, n, out) ⟨ha, ho, h0, hn, rfl⟩
  rintro ⟨b, k, o⟩ ⟨hb, ho', hk0, hk1, hinv⟩
  dsimp only at hb ho' hk0 hk1 hinv
  simp only [s_l01Pow_1_s]
  by_cases hk : k > 0
  · left
    rw [brd hk, tmod_nn _ _ hk0, tdiv_nn _ _ hk0, wrap_i64 _ (by omega) (by omega), s_mul_eq hb hb]
    have hs := pow_step (a := b) (out := o) (n := k.toNat) (by omega)
    have e : (k / 2).toNat = k.toNat / 2 := by omega
    by_cases h2 : k % 2 = 1
    · rw [bre h2, s_mul_eq ho' hb]
      refine ⟨_, rfl, ⟨mF_ok _ _, mF_ok _ _, by dsimp only; omega, by dsimp only; omega, ?_⟩, by dsimp only; omega⟩
      dsimp only
      rw [e, hs.1 (by omega), hinv]
    · rw [brne h2]
      refine ⟨_, rfl, ⟨mF_ok _ _, ho', by dsimp only; omega, by dsimp only; omega, ?_⟩, by dsimp only; omega⟩
      dsimp only
      rw [e, hs.2 (by omega), hinv]
  · right
    rw [brn hk]
    refine ⟨_, rfl, ?_⟩
    have : k = 0 := by omega
    subst this
    dsimp only
    rw [← hinv]
    simp [mod_self ho']
theorem s_pow_eq {a n : Int} (ha : okF a) (h0 : 0 ≤ n) (hn : n < 9223372036854775808) : s_l01Pow a n = some (pF a n.toNat) := by
  unfold s_l01Pow
  obtain ⟨e, h1, h2⟩ := s_pow_loop ha okF1 h0 hn
  rw [h1, Option.bind_some, h2, Int.one_mul]; rfl

/-- The inverse. -/
def iF (a : Int) : Int := pF a 2130706431
theorem i_inverse_eq {a : Int} (ha : okF a) : i_inverse a = some (iF a) := by
  unfold i_inverse; rw [i_pow_eq ha (by decide) (by decide), Option.bind_some]; rfl
theorem s_inverse_eq {a : Int} (ha : okF a) : s_l01Pow a 2130706431 = some (iF a) := by
  rw [s_pow_eq ha (by decide) (by decide)]; rfl
/-! ### powers of two -/
def isP (n : Nat) : Bool := n == 1 || n == 2 || n == 4 || n == 8 || n == 16 || n == 32 || n == 64 || n == 128 || n == 256 || n == 512
/-- A power of two, at most a greatest one. -/
def powB (n most : Int) : Bool := decide (1 ≤ n) && decide (n ≤ most) && isP n.toNat
theorem and_isP : ∀ n : Nat, n < 513 → 1 ≤ n → (and64 .i64 (n : Int) ((n : Int) - 1) == 0) = isP n := by decide +kernel
theorem i_isPower_eq {n most : Int} (h : most ≤ 512) : i_isPower n most = some (powB n most) := by
  unfold i_isPower powB
  rw [i_in_eq, Option.bind_some]
  by_cases h1 : 1 ≤ n
  · by_cases h2 : n ≤ most
    · rw [decide_eq_true h1, decide_eq_true h2, Bool.and_true, br_true, Bool.true_and, wrap_i64 _ (by omega) (by omega)]
      have := and_isP n.toNat (by omega) (by omega)
      rw [Int.toNat_of_nonneg (by omega)] at this
      rw [this]
    · rw [decide_eq_false h2]; simp [br]
  · rw [decide_eq_false h1]; simp [br]
end Go.AI.Fn

set_option linter.unusedVariables false
namespace Go.AI.Fn

structure Src (B : Int) (m : l00Src) : Prop where
  at0 : 0 ≤ m.at_
  at1 : m.at_ ≤ B
  sd0 : 0 ≤ m.seed
  sd1 : m.seed < 2147483648
  len : m.code.length ≤ 1048600
theorem Src.mono {B C : Int} {m : l00Src} (h : Src B m) (hc : B ≤ C) : Src C m := ⟨h.at0, by have := h.at1; omega, h.sd0, h.sd1, h.len⟩
abbrev Big : Int := 4611686018427387904

theorem source_ok {code : List UInt8} (h : code.length ≤ 1048600) : ∃ m, s_l00Source code = some m ∧ Src 0 m := by
  refine ⟨_, rfl, ?_⟩
  have : (((code.length : Nat) : Int).tmod (1000 : Int)) = (code.length : Int) % 1000 := tmod_nn _ _ (by omega)
  constructor <;> dsimp only <;> omega

theorem byte_ok {B : Int} {m : l00Src} (h : Src B m) (hB : B < Big) : ∃ x m', s_l00Src_byte m = some (x, m') ∧ 0 ≤ x ∧ x < 256 ∧ Src (B + 1) m' := by
  obtain ⟨h1, h2, h3, h4, h5⟩ := h
  rcases m with ⟨code, at_, seed⟩
  dsimp only at h1 h2 h3 h4 h5
  unfold s_l00Src_byte
  dsimp only
  simp only [Big] at hB
  rw [wrap_i64 (at_ + 1) (by omega) (by omega)]
  by_cases c : at_ + 1 ≤ ((code.length : Nat) : Int)
  · rw [brd c, wrap_i64 (at_ + 1 - 1) (by omega) (by omega)]
    obtain ⟨x, hx, _, _⟩ := atL_of (l := code) (i := at_ + 1 - 1) (by omega) (by omega)
    have := u8_lt x
    rw [hx]
    simp only [Option.bind_some]
    rw [wrap_i64 (x.toNat : Int) (by omega) (by omega), wrap_i64 (seed * 31) (by omega) (by omega), wrap_i64 (seed * 31 + (x.toNat : Int)) (by omega) (by omega), wrap_i64 _ (by omega) (by omega), tmod_nn _ _ (by omega)]
    refine ⟨_, _, rfl, by omega, by omega, ?_⟩
    constructor <;> dsimp only <;> omega
  · rw [brn c]
    by_cases c2 : at_ + 1 > 3000
    · rw [brd c2]
      refine ⟨_, _, rfl, by omega, by omega, ?_⟩
      constructor <;> dsimp only <;> omega
    · rw [brn c2, wrap_i64 (seed * 1103515245) (by omega) (by omega), wrap_i64 (seed * 1103515245 + 12345) (by omega) (by omega), tmod_nn (seed * 1103515245 + 12345) _ (by omega), tdiv_nn _ _ (by omega), wrap_i64 _ (by omega) (by omega), tmod_nn _ _ (by omega)]
      refine ⟨_, _, rfl, by omega, by omega, ?_⟩
      constructor <;> dsimp only <;> omega

theorem next_ok {B n : Int} {m : l00Src} (h : Src B m) (hB : B + 3 < Big) : ∃ x m', s_l00Src_next n m = some (x, m') ∧ 0 ≤ x ∧ (1 < n → x < n) ∧ (n ≤ 1 → x = 0) ∧ Src (B + 3) m' := by
  unfold s_l00Src_next
  by_cases c : n ≤ 1
  · rw [brd c]; exact ⟨_, _, rfl, by omega, by omega, fun _ => rfl, h.mono (by omega)⟩
  · rw [brn c]
    by_cases c2 : n ≤ 256
    · rw [brd c2]
      obtain ⟨x, m1, e1, x0, x1, s1⟩ := byte_ok h (by omega)
      rw [e1]
      simp only [Option.bind_some]
      rw [brd (by omega), tmod_nn _ _ x0]
      exact ⟨_, _, rfl, Int.emod_nonneg _ (by omega), fun _ => Int.emod_lt_of_pos _ (by omega), by omega, s1.mono (by omega)⟩
    · rw [brn c2]
      obtain ⟨x, m1, e1, x0, x1, s1⟩ := byte_ok h (by omega)
      obtain ⟨y, m2, e2, y0, y1, s2⟩ := byte_ok s1 (by omega)
      obtain ⟨z, m3, e3, z0, z1, s3⟩ := byte_ok s2 (by omega)
      rw [e1]
      simp only [Option.bind_some]
      rw [e2]
      simp only [Option.bind_some]
      rw [e3]
      simp only [Option.bind_some]
      rw [brd (by omega), wrap_i64 (x * 65536) (by omega) (by omega), wrap_i64 (y * 256) (by omega) (by omega), wrap_i64 (x * 65536 + y * 256) (by omega) (by omega), wrap_i64 _ (by omega) (by omega), tmod_nn _ _ (by omega)]
      exact ⟨_, _, rfl, Int.emod_nonneg _ (by omega), fun _ => Int.emod_lt_of_pos _ (by omega), by omega, s3.mono (by omega)⟩

theorem chance_ok {B n : Int} {m : l00Src} (h : Src B m) (hB : B + 3 < Big) : ∃ x m', s_l00Src_chance n m = some (x, m') ∧ Src (B + 3) m' := by
  unfold s_l00Src_chance
  obtain ⟨x, m1, e1, _, _, _, s1⟩ := next_ok (n := n) h hB
  rw [e1]
  exact ⟨_, _, rfl, s1⟩

theorem field_ok {B : Int} {m : l00Src} (h : Src B m) (hB : B + 18 < Big) : ∃ x m', s_l00Src_field m = some (x, m') ∧ okF x ∧ Src (B + 18) m' := by
  unfold s_l00Src_field
  obtain ⟨x, m1, e1, x0, x1, _, s1⟩ := next_ok (n := 5) h (by omega)
  have := x1 (by omega)
  rw [e1]
  simp only [Option.bind_some]
  by_cases c : x = 0
  · rw [bre c]
    obtain ⟨y, m2, e2, y0, y1, _, s2⟩ := next_ok (n := 4) s1 (by omega)
    have := y1 (by omega)
    rw [e2]
    exact ⟨_, _, rfl, ⟨by omega, by omega⟩, s2.mono (by omega)⟩
  · rw [brne c]
    by_cases c2 : x = 1
    · rw [bre c2]
      obtain ⟨y, m2, e2, y0, y1, _, s2⟩ := next_ok (n := 3) s1 (by omega)
      have := y1 (by omega)
      rw [e2]
      refine ⟨_, _, rfl, ⟨?_, ?_⟩, s2.mono (by omega)⟩ <;> rw [wrap_i64 _ (by omega) (by omega)] <;> omega
    · rw [brne c2]
      have key := Loop_inv (step := s_l00Src_field_1_s)
        (fun s => okF s.1 ∧ 0 ≤ s.2.1 ∧ s.2.1 ≤ 5 ∧ Src (B + 3 + 3 * s.2.1) ⟨s.2.2.1, s.2.2.2.1, s.2.2.2.2⟩) (fun s => (5 - s.2.1).toNat)
        (fun e => okF e.1 ∧ Src (B + 18) ⟨e.2.2.2.1, e.2.2.2.2.1, e.2.2.2.2.2⟩) ?_ ((0 : Int), (0 : Int), m1.code, m1.at_, m1.seed) ⟨⟨by first | omega | (dsimp only; omega), by first | omega | (dsimp only; omega)⟩, by first | omega | (dsimp only; omega), by first | omega | (dsimp only; omega), s1.mono (by first | omega | (dsimp only; omega))⟩
      · obtain ⟨e, he, h1, h2⟩ := key
        rw [he]
        exact ⟨_, _, rfl, h1, h2⟩
      · rintro ⟨n, i, c, c2, c3⟩ ⟨⟨n0, n1⟩, i0, i1, hs⟩
        dsimp only at n0 n1 i0 i1 hs
        by_cases hi : i < 5
        · left
          obtain ⟨y, m2, e2, y0, y1, _, s2⟩ := next_ok (n := 256) hs (by omega)
          have := y1 (by omega)
          simp only [s_l00Src_field_1_s]
          rw [brd hi, e2]
          simp only [Option.bind_some]
          rw [wrap_i64 (n * 256) (by omega) (by omega), wrap_i64 (n * 256 + y) (by omega) (by omega), wrap_i64 (i + 1) (by omega) (by omega), tmod_nn _ _ (by omega)]
          refine ⟨_, rfl, ⟨⟨?_, ?_⟩, ?_, ?_, s2.mono ?_⟩, ?_⟩ <;> dsimp only <;> omega
        · right
          simp only [s_l00Src_field_1_s]
          rw [brn hi]
          exact ⟨_, rfl, ⟨n0, n1⟩, hs.mono (by first | omega | (dsimp only; omega))⟩
end Go.AI.Fn

set_option linter.unusedVariables false
namespace Go.AI.Fn
theorem ext_ok {B : Int} {m : l00Src} (h : Src B m) (hB : B + 40 < Big) : ∃ x m', s_l00Src_ext m = some (x, m') ∧ okE x ∧ Src (B + 40) m' := by
  unfold s_l00Src_ext
  obtain ⟨x, m1, e1, s1⟩ := chance_ok (n := 4) h (by omega)
  rw [e1]
  simp only [Option.bind_some]
  obtain ⟨y, m2, e2, y0, s2⟩ := field_ok s1 (by omega)
  obtain ⟨z, m3, e3, z0, s3⟩ := field_ok s2 (by omega)
  rw [e2]
  cases x
  · simp only [br_false, Option.bind_some]
    rw [e3]
    exact ⟨_, _, rfl, ⟨y0, z0⟩, s3.mono (by omega)⟩
  · exact ⟨_, _, rfl, ⟨y0, ⟨by first | omega | (dsimp only; omega), by first | omega | (dsimp only; omega)⟩⟩, s2.mono (by omega)⟩

theorem exts_ok {B n : Int} {m : l00Src} (h : Src B m) (hn0 : 0 ≤ n) (hn1 : n ≤ 1048576) (hB : B + 40 * n < Big) : ∃ l m', s_l00Src_exts n m = some (l, m') ∧ (l.length : Int) = n ∧ (∀ x ∈ l, okE x) ∧ Src (B + 40 * n) m' := by
  unfold s_l00Src_exts
  have key := Loop_inv (step := s_l00Src_exts_1_s n)
    (fun s => (s.1.length : Int) = s.2.1 ∧ (∀ x ∈ s.1, okE x) ∧ s.2.1 ≤ n ∧ Src (B + 40 * s.2.1) ⟨s.2.2.1, s.2.2.2.1, s.2.2.2.2⟩) (fun s => (n - s.2.1).toNat)
    (fun e => (e.1.length : Int) = n ∧ (∀ x ∈ e.1, okE x) ∧ Src (B + 40 * n) ⟨e.2.2.2.1, e.2.2.2.2.1, e.2.2.2.2.2⟩) ?_ (([] : List Ext), (0 : Int), m.code, m.at_, m.seed) ⟨by simp, by simp, by dsimp only; omega, h.mono (by first | omega | (dsimp only; omega))⟩
  · obtain ⟨e, he, h1, h2, h3⟩ := key
    rw [he]
    exact ⟨_, _, rfl, h1, h2, h3⟩
  · rintro ⟨l, i, c, c2, c3⟩ ⟨hl, ha, i1, hs⟩
    dsimp only at hl ha i1 hs
    by_cases hi : i < n
    · left
      obtain ⟨y, m2, e2, y0, s2⟩ := ext_ok hs (by omega)
      simp only [s_l00Src_exts_1_s]
      rw [brd hi, e2]
      simp only [Option.bind_some]
      rw [br_of (fits_of (by simp only [List.length_append, List.length_cons, List.length_nil]; omega)), wrap_i64 (i + 1) (by omega) (by omega)]
      refine ⟨_, rfl, ⟨?_, ?_, ?_, s2.mono ?_⟩, ?_⟩
      · simp only [List.length_append, List.length_cons, List.length_nil]; omega
      · intro x hx
        rcases List.mem_append.1 hx with hx | hx
        · exact ha x hx
        · rw [List.mem_singleton] at hx; subst hx; exact y0
      all_goals dsimp only; omega
    · right
      simp only [s_l00Src_exts_1_s]
      rw [brn hi]
      exact ⟨_, rfl, by dsimp only; omega, ha, hs.mono (by first | omega | (dsimp only; omega))⟩

end Go.AI.Fn

set_option linter.unusedVariables false
set_option linter.unusedSimpArgs false
namespace Go.AI.Fn

/-! ### shapes of loops -/
theorem any_of_bad {α : Type} {p : α → Bool} {l : List α} {k : Nat} (hk : k < l.length) (h : p l[k] = true) : l.any p = true := List.any_eq_true.2 ⟨l[k], List.getElem_mem hk, h⟩
theorem none_of {α : Type} {p : α → Bool} {l : List α} (h : ∀ k (hk : k < l.length), p l[k] = false) : l.any p = false := by
  rw [List.any_eq_false]
  intro x hx
  obtain ⟨k, hk, rfl⟩ := List.getElem_of_mem hx
  simp [h k hk]
/-- 'the first place where something holds', as the library's IndexFunc and ContainsFunc look for it. -/
theorem contains_gen {α : Type} {p : α → Bool} {f : α → Option Bool} {l : List α} (hl : l.length ≤ 1099511627776) (hf : ∀ x ∈ l, f x = some (p x)) {step : Int → Option (Int ⊕ (Int ⊕ (Int × Bool)))}
    (hs : ∀ t, step t = br (decide (t < ((l.length : Nat) : Int))) ((atL l t).bind fun x => (f x).bind fun r => br r (some (.inr (.inl t))) (some (.inl (IntKind.wrap .i64 (t + 1))))) (some (.inr (.inr (t, decide (t < ((l.length : Nat) : Int))))))) :
    ((Loop step 0).bind (alt (fun e => some e) (fun _ => some (-1)))).bind (fun r => some (decide (r ≥ 0))) = some (l.any p) := by
  have key := Loop_all (step := step) (fun k => (k : Int)) l.length (fun k => !((l[k]?.map p).getD false)) (fun k => .inl (k : Int)) (e := .inr ((l.length : Int), false)) (fun k hk hp => by
      have hb : p l[k] = false := by simpa [hk] using hp
      rw [hs, brd (by omega), atL_nat hk, Option.bind_some, hf _ (List.getElem_mem hk), Option.bind_some, hb, br_false, wrap_i64 _ (by omega) (by omega)]; rfl)
    (fun k hk hp => by
      have hb : p l[k] = true := by simpa [hk] using hp
      rw [hs, brd (by omega), atL_nat hk, Option.bind_some, hf _ (List.getElem_mem hk), Option.bind_some, hb, br_true])
    (by rw [hs, brn (by omega), decide_eq_false (by omega)])
  rcases key with ⟨h1, h2⟩ | ⟨k, hk, h1, _, h2⟩
  · have e : Loop step 0 = some (.inr ((l.length : Int), false)) := h2
    rw [e, none_of (fun k hk => by simpa [hk] using h1 k hk)]; rfl
  · have e : Loop step 0 = some (.inl (k : Int)) := h2
    rw [e, any_of_bad hk (by simpa [hk] using h1)]
    simp only [Option.bind_some, alt_inl]
    rw [decide_eq_true (by omega)]
/-- 'false at the first that is not right'. -/
theorem all_gen {α : Type} {p : α → Bool} {f : α → Option Bool} {l : List α} (hl : l.length ≤ 1099511627776) (hf : ∀ x ∈ l, f x = some (p x)) {step : Int → Option (Int ⊕ (Unit ⊕ (Int × Bool)))}
    (hs : ∀ t, step t = br (decide (t < ((l.length : Nat) : Int))) ((atL l t).bind fun x => (f x).bind fun r => br (!r) (some (.inr (.inl ()))) (some (.inl (IntKind.wrap .i64 (t + 1))))) (some (.inr (.inr (t, decide (t < ((l.length : Nat) : Int))))))) :
    (Loop step 0).bind (alt (fun _ => some false) (fun _ => some true)) = some (l.all p) := by
  have key := Loop_all (step := step) (fun k => (k : Int)) l.length (fun k => ((l[k]?.map p).getD false)) (fun k => .inl ()) (e := .inr ((l.length : Int), false)) (fun k hk hp => by
      have hb : p l[k] = true := by simpa [hk] using hp
      rw [hs, brd (by omega), atL_nat hk, Option.bind_some, hf _ (List.getElem_mem hk), Option.bind_some, hb, Bool.not_true, br_false, wrap_i64 _ (by omega) (by omega)]; rfl)
    (fun k hk hp => by
      have hb : p l[k] = false := by simpa [hk] using hp
      rw [hs, brd (by omega), atL_nat hk, Option.bind_some, hf _ (List.getElem_mem hk), Option.bind_some, hb, Bool.not_false, br_true])
    (by rw [hs, brn (by omega), decide_eq_false (by omega)])
  rcases key with ⟨h1, h2⟩ | ⟨k, hk, h1, _, h2⟩
  · have e : Loop step 0 = some (.inr ((l.length : Int), false)) := h2
    have ha : l.all p = true := List.all_eq_true.2 fun x hx => by
      obtain ⟨k, hk, rfl⟩ := List.getElem_of_mem hx
      simpa [hk] using h1 k hk
    rw [e, ha]; rfl
  · have e : Loop step 0 = some (.inl ()) := h2
    have ha : l.all p = false := by
      rw [List.all_eq_false]
      exact ⟨l[k], List.getElem_mem hk, by simpa [hk] using h1⟩
    rw [e, ha]; rfl
theorem not_any_not {α : Type} (p : α → Bool) (l : List α) : (!l.any fun x => !p x) = l.all p := by
  induction l with
  | nil => rfl
  | cons x l ih => simp only [List.any_cons, List.all_cons, ← ih]; cases p x <;> simp

theorem i_areE_eq {l : List Ext} (hl : l.length ≤ 1099511627776) : i_are_i_Ext_ExtOK l = some (l.all okEb) := by
  unfold i_are_i_Ext_ExtOK slices_ContainsFunc_Li_Ext_i_Ext_are_i_Ext_1_ExtOK slices_IndexFunc_Li_Ext_i_Ext_are_i_Ext_1_ExtOK
  rw [contains_gen (step := slices_IndexFunc_Li_Ext_i_Ext_are_i_Ext_1_ExtOK_1_s l ((l.length : Nat) : Int)) (p := fun x => !okEb x) (f := i_are_i_Ext_1_ExtOK) hl (fun x _ => by unfold i_are_i_Ext_1_ExtOK; rw [i_ExtOK_eq]; rfl) (fun t => rfl), Option.bind_some, not_any_not]
theorem s_listE_eq {l : List Ext} (hl : l.length ≤ 1099511627776) : s_l02List l = some (l.all okEb) := by
  unfold s_l02List
  exact all_gen (f := s_ExtOK) hl (fun x _ => s_ExtOK_eq x) (fun t => rfl)
def OkEs (l : List Ext) : Prop := ∀ x ∈ l, okE x
def OkFs (l : List Int) : Prop := ∀ x ∈ l, okF x
theorem allE {l : List Ext} : l.all okEb = true ↔ OkEs l := by
  rw [List.all_eq_true]; exact ⟨fun h x hx => okEb_iff.1 (h x hx), fun h x hx => okEb_iff.2 (h x hx)⟩
theorem OkEs.get {l : List Ext} (h : OkEs l) {k : Nat} (hk : k < l.length) : okE l[k] := h _ (List.getElem_mem hk)
theorem OkFs.get {l : List Int} (h : OkFs l) {k : Nat} (hk : k < l.length) : okF l[k] := h _ (List.getElem_mem hk)
theorem OkEs.nil : OkEs [] := fun x hx => by cases hx
theorem OkEs.one {x : Ext} (h : okE x) : OkEs [x] := fun y hy => by rw [List.mem_singleton.1 hy]; exact h
theorem OkEs.map {α : Type} {f : α → Ext} (l : List α) (h : ∀ x ∈ l, okE (f x)) : OkEs (l.map f) := fun y hy => by obtain ⟨x, hx, rfl⟩ := List.mem_map.1 hy; exact h x hx
theorem OkEs.take {l : List Ext} (h : OkEs l) (k : Nat) : OkEs (l.take k) := fun x hx => h x (List.mem_of_mem_take hx)
theorem OkEs.drop {l : List Ext} (h : OkEs l) (k : Nat) : OkEs (l.drop k) := fun x hx => h x (List.mem_of_mem_drop hx)

/-! ### sums of products -/
/-! ### the table of a point -/
theorem atL_e {l : List Ext} {k : Nat} (h : k < l.length) : atL l (k : Int) = some (l.getD k e0) := by simp [atL, h]
theorem OkEs.getD {l : List Ext} (h : OkEs l) (k : Nat) : okE (l.getD k e0) := by
  by_cases hk : k < l.length
  · simp [hk]; exact h.get hk
  · simp [List.getElem?_eq_none (Nat.le_of_not_lt hk)]; exact e0_ok
end Go.AI.Fn

set_option linter.unusedVariables false
set_option linter.unusedSimpArgs false
namespace Go.AI.Fn

/-- An element in its reduced form. -/
abbrev K := {x : Ext // okE x}
def K.n (i : Int) : K := ⟨eN (i % 2130706433), eN_ok (okF_mod _)⟩
instance instAddK : Add K := ⟨fun a b => ⟨eA a.1 b.1, eA_ok _ _⟩⟩
instance instMulK : Mul K := ⟨fun a b => ⟨eM a.1 b.1, eM_ok _ _⟩⟩
instance instSubK : Sub K := ⟨fun a b => ⟨eS a.1 b.1, eS_ok _ _⟩⟩
instance instNegK : Neg K := ⟨fun a => ⟨eS e0 a.1, eS_ok _ _⟩⟩
instance instNatCastK : NatCast K := ⟨fun n => K.n n⟩
instance instIntCastK : IntCast K := ⟨fun n => K.n n⟩
instance instOfNatK (n : Nat) : OfNat K n := ⟨K.n n⟩
def K.pow (a : K) : Nat → K
  | 0 => K.n 1
  | n + 1 => K.pow a n * a
instance instHPowK : HPow K Nat K := ⟨K.pow⟩
theorem K.ext {a b : K} (h : a.1 = b.1) : a = b := Subtype.ext h
theorem K.n_mul (i j : Int) : K.n (i * j) = K.n i * K.n j := K.ext (ext_eq (by
  show (i * j) % 2130706433 = ((i % 2130706433) * (j % 2130706433) + 3 * (0 * 0)) % 2130706433
  rw [show (3 : Int) * (0 * 0) = 0 from rfl, Int.add_zero, ← Int.mul_emod]) (by
  show (0 : Int) = ((i % 2130706433) * 0 + 0 * (j % 2130706433)) % 2130706433
  rw [Int.mul_zero, Int.zero_mul]; rfl))
/-! Coordinates: numbers modulo the prime, with which grind reckons. -/
instance instNeZeroPP : NeZero 2130706433 := ⟨by decide⟩
abbrev FP := Fin 2130706433
def K.a (x : K) : FP := ⟨x.1.A.toNat, by have h := x.2.1; unfold okF at h; omega⟩
def K.b (x : K) : FP := ⟨x.1.B.toNat, by have h := x.2.2; unfold okF at h; omega⟩
theorem K.A_nat (x : K) : ∃ n : Nat, x.1.A = (n : Int) ∧ n < 2130706433 ∧ (K.a x).val = n := ⟨x.1.A.toNat, by have h := x.2.1; unfold okF at h; omega, (K.a x).isLt, rfl⟩
theorem K.B_nat (x : K) : ∃ n : Nat, x.1.B = (n : Int) ∧ n < 2130706433 ∧ (K.b x).val = n := ⟨x.1.B.toNat, by have h := x.2.2; unfold okF at h; omega, (K.b x).isLt, rfl⟩
theorem K.eqv {x y : K} : x = y ↔ K.a x = K.a y ∧ K.b x = K.b y := ⟨fun h => by rw [h]; exact ⟨rfl, rfl⟩, fun h => by
  obtain ⟨n, h1, _, h2⟩ := K.A_nat x
  obtain ⟨m, h3, _, h4⟩ := K.A_nat y
  obtain ⟨i, h5, _, h6⟩ := K.B_nat x
  obtain ⟨j, h7, _, h8⟩ := K.B_nat y
  have e1 := congrArg Fin.val h.1
  have e2 := congrArg Fin.val h.2
  exact K.ext (ext_eq (by omega) (by omega))⟩
theorem K.ad_a (x y : K) : K.a (x + y) = K.a x + K.a y := Fin.ext (by
  obtain ⟨n, h1, _, h2⟩ := K.A_nat x
  obtain ⟨m, h3, _, h4⟩ := K.A_nat y
  rw [Fin.val_add, h2, h4]
  show ((x.1.A + y.1.A) % 2130706433).toNat = _
  omega)
theorem K.ad_b (x y : K) : K.b (x + y) = K.b x + K.b y := Fin.ext (by
  obtain ⟨n, h1, _, h2⟩ := K.B_nat x
  obtain ⟨m, h3, _, h4⟩ := K.B_nat y
  rw [Fin.val_add, h2, h4]
  show ((x.1.B + y.1.B) % 2130706433).toNat = _
  omega)
theorem K.su_a (x y : K) : K.a (x - y) = K.a x - K.a y := Fin.ext (by
  obtain ⟨n, h1, _, h2⟩ := K.A_nat x
  obtain ⟨m, h3, _, h4⟩ := K.A_nat y
  rw [Fin.sub_def]
  show ((x.1.A - y.1.A) % 2130706433).toNat = (2130706433 - (K.a y).val + (K.a x).val) % 2130706433
  omega)
theorem K.su_b (x y : K) : K.b (x - y) = K.b x - K.b y := Fin.ext (by
  obtain ⟨n, h1, _, h2⟩ := K.B_nat x
  obtain ⟨m, h3, _, h4⟩ := K.B_nat y
  rw [Fin.sub_def]
  show ((x.1.B - y.1.B) % 2130706433).toNat = (2130706433 - (K.b y).val + (K.b x).val) % 2130706433
  omega)
theorem K.n0_a : K.a 0 = 0 := rfl
theorem K.n0_b : K.b 0 = 0 := rfl
theorem K.n1_a : K.a 1 = 1 := rfl
theorem K.n1_b : K.b 1 = 0 := rfl
theorem K.n2_a : K.a 2 = 2 := rfl
theorem K.n2_b : K.b 2 = 0 := rfl
theorem K.n3_a : K.a 3 = 3 := rfl
theorem K.n3_b : K.b 3 = 0 := rfl
theorem K.ne_sub (x : K) : -x = 0 - x := rfl
theorem K.mu_a (x y : K) : K.a (x * y) = K.a x * K.a y + 3 * (K.b x * K.b y) := Fin.ext (by
  obtain ⟨n, h1, _, h2⟩ := K.A_nat x
  obtain ⟨m, h3, _, h4⟩ := K.A_nat y
  obtain ⟨i, h5, _, h6⟩ := K.B_nat x
  obtain ⟨j, h7, _, h8⟩ := K.B_nat y
  rw [Fin.val_add, Fin.val_mul, Fin.val_mul, Fin.val_mul, h2, h4, h6, h8, show (3 : FP).val = 3 from rfl]
  show ((x.1.A * y.1.A + 3 * (x.1.B * y.1.B)) % 2130706433).toNat = _
  rw [h1, h3, h5, h7, ← Int.natCast_mul, ← Int.natCast_mul]
  generalize n * m = u
  generalize i * j = v
  omega)
theorem K.mu_b (x y : K) : K.b (x * y) = K.a x * K.b y + K.b x * K.a y := Fin.ext (by
  obtain ⟨n, h1, _, h2⟩ := K.A_nat x
  obtain ⟨m, h3, _, h4⟩ := K.A_nat y
  obtain ⟨i, h5, _, h6⟩ := K.B_nat x
  obtain ⟨j, h7, _, h8⟩ := K.B_nat y
  rw [Fin.val_add, Fin.val_mul, Fin.val_mul, h2, h4, h6, h8]
  show ((x.1.A * y.1.B + x.1.B * y.1.A) % 2130706433).toNat = _
  rw [h1, h3, h5, h7, ← Int.natCast_mul, ← Int.natCast_mul]
  generalize n * j = u
  generalize i * m = v
  omega)
/-- Equations between elements, coordinate by coordinate. -/
theorem kg {p : Prop} (h : p := by (simp only [K.ne_sub, K.eqv, K.ad_a, K.ad_b, K.su_a, K.su_b, K.mu_a, K.mu_b, K.n0_a, K.n0_b, K.n1_a, K.n1_b, K.n2_a, K.n2_b, K.n3_a, K.n3_b] at * <;> first | grind only | grind)) : p := h
/-- Elements of the base field. -/
def kF (a : Int) : K := K.n a
theorem kF_val {a : Int} (h : okF a) : (kF a).1 = eN a := by show eN (a % 2130706433) = eN a; rw [mod_self h]
theorem kF_mF (a b : Int) : kF (mF a b) = kF a * kF b := by
  rw [kF, kF, kF, ← K.n_mul]
  exact K.ext (by show eN ((a * b) % 2130706433 % 2130706433) = eN ((a * b) % 2130706433); rw [Int.emod_emod])
/-- Lists of elements, lifted. -/
def kv (l : List K) : List Ext := l.map (·.1)
theorem kv_len (l : List K) : (kv l).length = l.length := by simp [kv]
theorem kv_ok (l : List K) : OkEs (kv l) := OkEs.map l fun x _ => x.2
theorem kv_lift {L : List Ext} (h : OkEs L) : ∃ l, L = kv l := by
  induction L with
  | nil => exact ⟨[], rfl⟩
  | cons x L ih =>
    obtain ⟨l, rfl⟩ := ih fun y hy => h y (by simp [hy])
    exact ⟨⟨x, h x (by simp)⟩ :: l, rfl⟩
theorem kv_get {l : List K} {j : Nat} (h : j < l.length) : (kv l)[j]'(by rw [kv_len]; exact h) = (l.getD j 0).1 := by simp [kv, h]
theorem kv_at {l : List K} {j : Nat} (h : j < l.length) : atL (kv l) (j : Int) = some (l.getD j 0).1 := by rw [atL_nat (by rw [kv_len]; exact h), kv_get h]
theorem kv_get? {l : List K} {j : Nat} (h : j < l.length) : (kv l)[j]? = some (l.getD j 0).1 := by rw [get_some (by rw [kv_len]; exact h), kv_get h]
end Go.AI.Fn

set_option linter.unusedVariables false
set_option linter.unusedSimpArgs false
namespace Go.AI.Fn

theorem pw0 (x : K) : x ^ 0 = 1 := rfl
theorem pwS (x : K) (n : Nat) : x ^ (n + 1) = x ^ n * x := rfl
theorem one_pw : ∀ n : Nat, (1 : K) ^ n = 1
  | 0 => rfl
  | n + 1 => by rw [pwS, one_pw n]; exact kg
theorem mul_pw (x y : K) : ∀ n : Nat, (x * y) ^ n = x ^ n * y ^ n
  | 0 => by rw [pw0, pw0, pw0]; exact kg
  | n + 1 => by rw [pwS, pwS, pwS, mul_pw x y n]; exact kg
/-! ### lists, their even and odd places -/
theorem getD_mr {f : Nat → K} {h j : Nat} (hj : j < h) : ((List.range h).map f).getD j 0 = f j := by simp [hj]

/-! ### the transform -/
/-! ### combinations -/
/-! ### values of polynomials -/
end Go.AI.Fn

set_option linter.unusedVariables false
set_option linter.unusedSimpArgs false
namespace Go.AI.Fn

def sumN : Nat → (Nat → K) → K
  | 0, _ => 0
  | n + 1, f => sumN n f + f n
theorem sumN_congr {f g : Nat → K} : ∀ n, (∀ k, k < n → f k = g k) → sumN n f = sumN n g
  | 0, _ => rfl
  | n + 1, h => by rw [sumN, sumN, sumN_congr n fun k hk => h k (by omega), h n (by omega)]
theorem sumN_two (f : Nat → K) : ∀ n, sumN (2 * n) f = sumN n (fun k => f (2 * k)) + sumN n (fun k => f (2 * k + 1))
  | 0 => by show (0 : K) = 0 + 0; exact kg
  | n + 1 => by
    have := sumN_two f n
    rw [show 2 * (n + 1) = 2 * n + 1 + 1 by omega, sumN, sumN, this, sumN, sumN]; exact kg
/-- One variable bound in a table. -/
def fdK (r : K) : List K → List K
  | a :: b :: l => (a + r * (b - a)) :: fdK r l
  | _ => []
theorem fdK_len (r : K) : ∀ (l : List K) (m : Nat), l.length = 2 * m → (fdK r l).length = m
  | [], m, h => by simp at h; simp [fdK]; omega
  | [a], m, h => by simp at h; omega
  | a :: b :: l, 0, h => by simp at h
  | a :: b :: l, m + 1, h => by simp only [fdK, List.length_cons]; rw [fdK_len r l m (by simp only [List.length_cons] at h; omega)]
theorem fdK_get (r : K) : ∀ (l : List K) (m j : Nat), l.length = 2 * m → (fdK r l).getD j 0 = l.getD (2 * j) 0 + r * (l.getD (2 * j + 1) 0 - l.getD (2 * j) 0)
  | [], m, j, h => by simp [fdK]; exact kg
  | [a], m, j, h => by simp at h; omega
  | a :: b :: l, 0, j, h => by simp at h
  | a :: b :: l, m + 1, 0, h => rfl
  | a :: b :: l, m + 1, j + 1, h => by
    rw [show 2 * (j + 1) = 2 * j + 1 + 1 by omega]
    exact fdK_get r l m j (by simp only [List.length_cons] at h; omega)
/-- What is summed: products of two, or the bound of three tables against one. -/
def cmK (kind : Nat) (v : List K) : K := if kind = 1 then v.getD 0 0 * v.getD 1 0 else v.getD 0 0 * (v.getD 1 0 * v.getD 2 0 - v.getD 3 0)
def colK (T : List (List K)) (k : Nat) : List K := T.map fun t => t.getD k 0
def totK (kind : Nat) (T : List (List K)) (n : Nat) : K := sumN n fun k => cmK kind (colK T k)
def bdK (r : K) (T : List (List K)) : List (List K) := T.map (fdK r)
theorem colK_get (T : List (List K)) (k i : Nat) : (colK T k).getD i 0 = (T.getD i []).getD k 0 := by
  by_cases h : i < T.length
  · simp [colK, h]
  · simp [colK, h]
theorem bdK_get (r : K) (T : List (List K)) (i : Nat) : (bdK r T).getD i [] = fdK r (T.getD i []) := by
  by_cases h : i < T.length
  · simp [bdK, h]
  · simp [bdK, h, fdK]
/-- The sum is the first round's values at 0 and 1. -/
theorem tot_split {kind : Nat} {T : List (List K)} {n : Nat} (hT : ∀ i, i < 4 → (T.getD i []).length = 2 * n ∨ T.getD i [] = []) : totK kind T (2 * n) = totK kind (bdK 0 T) n + totK kind (bdK 1 T) n := by
  have hg : ∀ x i k, i < 4 → (colK (bdK x T) k).getD i 0 = (T.getD i []).getD (2 * k) 0 + x * ((T.getD i []).getD (2 * k + 1) 0 - (T.getD i []).getD (2 * k) 0) := by
    intro x i k hi
    rw [colK_get, bdK_get]
    rcases hT i hi with h | h
    · exact fdK_get x _ n k h
    · rw [h]; exact fdK_get x [] 0 k rfl
  have h0 : ∀ i k, i < 4 → (colK (bdK 0 T) k).getD i 0 = (colK T (2 * k)).getD i 0 := fun i k hi => by rw [hg 0 i k hi, colK_get]; exact kg
  have h1 : ∀ i k, i < 4 → (colK (bdK 1 T) k).getD i 0 = (colK T (2 * k + 1)).getD i 0 := fun i k hi => by rw [hg 1 i k hi, colK_get]; exact kg
  have c0 : ∀ k, cmK kind (colK (bdK 0 T) k) = cmK kind (colK T (2 * k)) := fun k => by simp only [cmK, h0 0 k (by omega), h0 1 k (by omega), h0 2 k (by omega), h0 3 k (by omega)]
  have c1 : ∀ k, cmK kind (colK (bdK 1 T) k) = cmK kind (colK T (2 * k + 1)) := fun k => by simp only [cmK, h1 0 k (by omega), h1 1 k (by omega), h1 2 k (by omega), h1 3 k (by omega)]
  unfold totK
  rw [sumN_two, sumN_congr n fun k _ => (c0 k).symm, sumN_congr n fun k _ => (c1 k).symm]
end Go.AI.Fn

set_option linter.unusedVariables false
set_option linter.unusedSimpArgs false
namespace Go.AI.Fn

end Go.AI.Fn

set_option linter.unusedVariables false
namespace Go.AI.Fn

def ltE (y x : Entry) : Prop := y.Row < x.Row ∨ (y.Row = x.Row ∧ y.Col < x.Col)
def inE (R C : Int) (x : Entry) : Prop := (0 ≤ x.Row ∧ x.Row ≤ R - 1) ∧ (0 ≤ x.Col ∧ x.Col ≤ C - 1) ∧ 1 ≤ x.Value ∧ x.Value ≤ 2130706432
end Go.AI.Fn

set_option linter.unusedVariables false
namespace Go.AI.Fn

end Go.AI.Fn

set_option linter.unusedVariables false
set_option linter.unusedSimpArgs false
namespace Go.AI.Fn

theorem shl1 {k : Nat} (h : k ≤ 62) : shl64 .i64 1 (k : Int) = ((2 ^ k : Nat) : Int) := by
  have h2 : ∀ k : Nat, k < 63 → (2 : Int) ^ k ≤ 4611686018427387904 ∧ 0 < (2 : Int) ^ k := by decide
  obtain ⟨h3, h4⟩ := h2 k (by omega)
  show IntKind.wrap .i64 (1 * 2 ^ (min ((k : Int).toNat) 64)) = _
  rw [Int.toNat_natCast, Nat.min_eq_left (by omega), Int.one_mul, wrap_i64 _ (by omega) (by omega)]
  simp
end Go.AI.Fn

set_option linter.unusedVariables false
namespace Go.AI.Fn

end Go.AI.Fn

set_option linter.unusedVariables false
set_option linter.unusedSimpArgs false
namespace Go.AI.Fn

theorem isP_pow : ∀ k : Nat, k ≤ 9 → isP (2 ^ k) = true := by decide
theorem powB_two {k : Nat} {most : Int} (h : k ≤ 9) (hm : ((2 ^ k : Nat) : Int) ≤ most) : powB ((2 ^ k : Nat) : Int) most = true := by
  have : 1 ≤ 2 ^ k := Nat.one_le_two_pow
  unfold powB
  rw [decide_eq_true (by omega), decide_eq_true hm, Int.toNat_natCast, isP_pow k h]; rfl
theorem i_TableOK_eq {l : List Ext} (hl : l.length ≤ 1099511627776) : i_TableOK l = some (powB (l.length : Int) 64 && l.all okEb) := by
  unfold i_TableOK
  rw [i_isPower_eq (by decide), Option.bind_some, i_areE_eq hl]
  cases powB (l.length : Int) 64 <;> rfl
end Go.AI.Fn

set_option linter.unusedVariables false
set_option linter.unusedSimpArgs false
namespace Go.AI.Fn

def kvv (T : List (List K)) : List (List Ext) := T.map kv
theorem kvv_len (T : List (List K)) : (kvv T).length = T.length := by simp [kvv]
theorem kvv_at {T : List (List K)} {j : Nat} (h : j < T.length) : atL (kvv T) (j : Int) = some (kv (T.getD j [])) := by rw [atL_nat (by rw [kvv_len]; exact h)]; simp [kvv, h]
theorem kvv_snoc (T : List (List K)) (t : List K) : kvv (T ++ [t]) = kvv T ++ [kv t] := by simp [kvv]
theorem fdK_snoc {r : K} {l : List K} {j : Nat} (m : Nat) (h : l.length = 2 * m) (hj : j < m) : (fdK r l).take (j + 1) = (fdK r l).take j ++ [l.getD (2 * j) 0 + r * (l.getD (2 * j + 1) 0 - l.getD (2 * j) 0)] := by
  have hl := fdK_len r l m h
  rw [take_succ (by omega), ← fdK_get r l m j h]; simp [show j < (fdK r l).length by omega]
theorem kvS (l : List K) (x : K) : kv (l ++ [x]) = kv l ++ [x.1] := by simp [kv]
theorem i_foldTable_eq {l : List K} {m : Nat} (r : K) (h : l.length = 2 * m) (hm : m ≤ 1000) : i_foldTable (kv l) r.1 = some (kv (fdK r l)) := by
  have hl := fdK_len r l m h
  unfold i_foldTable
  have key := Loop_for (step := i_foldTable_1_s (kv l) r.1.A r.1.B) (fun j => (kv ((fdK r l).take j), ((2 * j : Nat) : Int))) m (e := (kv (fdK r l), (l.length : Int), false)) (fun j hj => ?_) ?_
  · have key' : Loop (i_foldTable_1_s (kv l) r.1.A r.1.B) ([], 0) = _ := key
    rw [key']; rfl
  · simp only [i_foldTable_1_s]
    rw [brd (by rw [kv_len]; omega), kv_at (by omega), Option.bind_some, wrap_i64 _ (by omega) (by omega), show (((2 * j : Nat) : Int)) + 1 = ((2 * j + 1 : Nat) : Int) by omega, kv_at (by omega), Option.bind_some]
    unfold i_between
    rw [i_minus_eq (Subtype.property _) (Subtype.property _), Option.bind_some, show Ext.mk r.1.A r.1.B = r.1 from rfl, i_times_eq r.2 (eS_ok _ _), Option.bind_some, i_plus_eq (Subtype.property _) (eM_ok _ _), Option.bind_some, Option.bind_some, br_fits (by rw [List.length_append, kv_len, List.length_take, List.length_singleton]; omega),
      wrap_i64 _ (by omega) (by omega), show (((2 * j : Nat) : Int)) + 2 = ((2 * (j + 1) : Nat) : Int) by omega, fdK_snoc m h hj, kvS]; rfl
  · simp only [i_foldTable_1_s]
    rw [brn (by rw [kv_len]; omega), decide_eq_false (by rw [kv_len]; omega), List.take_of_length_le (by omega), h]
/-- Tables that a sum is taken over. -/
structure OkT (kind n : Nat) (T : List (List K)) : Prop where
  kd : kind = 1 ∨ kind = 2
  len : T.length = 2 * kind
  tab : ∀ i, i < T.length → (T.getD i []).length = n
theorem OkT.bd {kind n : Nat} {T : List (List K)} (h : OkT kind (2 * n) T) (r : K) : OkT kind n (bdK r T) := ⟨h.kd, by simp [bdK, h.len], fun i hi => by
  rw [bdK_get]
  exact fdK_len r _ n (h.tab i (by simpa [bdK] using hi))⟩
theorem bd_snoc {r : K} {T : List (List K)} {j : Nat} (hj : j < T.length) : (bdK r T).take (j + 1) = (bdK r T).take j ++ [fdK r (T.getD j [])] := by
  rw [take_succ (by simpa [bdK] using hj)]; simp [bdK, hj]
variable {kind n : Nat} {T : List (List K)}
theorem i_bound_eq (h : OkT kind (2 * n) T) (hn : n ≤ 1000) (r : K) : i_bound (kvv T) r.1 = some (kvv (bdK r T)) := by
  have hl := h.len
  have hk := h.kd
  have hb : (bdK r T).length = T.length := by simp [bdK]
  unfold i_bound
  have key := Loop_for (step := i_bound_1_s (kvv T) (T.length : Int) r.1.A r.1.B) (fun j => (kvv ((bdK r T).take j), (j : Int))) T.length (e := (kvv (bdK r T), (T.length : Int), false)) (fun j hj => ?_) ?_
  · have key' : Loop (i_bound_1_s (kvv T) (T.length : Int) r.1.A r.1.B) ([], 0) = _ := key
    rw [kvv_len, key']; rfl
  · simp only [i_bound_1_s]
    rw [brd (by omega), kvv_at hj, Option.bind_some, show Ext.mk r.1.A r.1.B = r.1 from rfl, i_foldTable_eq r (h.tab j hj) hn, Option.bind_some, br_fits (by rw [List.length_append, kvv_len, List.length_take, List.length_singleton]; omega), wrap_i64 _ (by omega) (by omega), bd_snoc hj, kvv_snoc]; rfl
  · simp only [i_bound_1_s]
    rw [brn (by omega), decide_eq_false (by omega), List.take_of_length_le (by omega)]
theorem i_combine_eq {v : List K} (hk : kind = 1 ∨ kind = 2) (hv : v.length = 2 * kind) : i_combine (kind : Int) (kv v) = some (cmK kind v).1 := by
  unfold i_combine cmK
  have k0 := kv_at (l := v) (j := 0) (by omega)
  have k1 := kv_at (l := v) (j := 1) (by omega)
  rw [show ((0 : Nat) : Int) = 0 from rfl] at k0
  rw [show ((1 : Nat) : Int) = 1 from rfl] at k1
  rcases hk with rfl | rfl
  · rw [bre (by omega), k0, Option.bind_some, k1, Option.bind_some, i_times_eq (Subtype.property _) (Subtype.property _), if_pos rfl]; rfl
  · have k2 := kv_at (l := v) (j := 2) (by omega)
    have k3 := kv_at (l := v) (j := 3) (by omega)
    rw [show ((2 : Nat) : Int) = 2 from rfl] at k2
    rw [show ((3 : Nat) : Int) = 3 from rfl] at k3
    rw [brne (by omega), k0, Option.bind_some, k1, Option.bind_some, k2, Option.bind_some, i_times_eq (Subtype.property _) (Subtype.property _), Option.bind_some, k3, Option.bind_some, i_minus_eq (eM_ok _ _) (Subtype.property _), Option.bind_some, i_times_eq (Subtype.property _) (eS_ok _ _), if_neg (by decide)]; rfl
theorem col_snoc {k j : Nat} (hj : j < T.length) : (colK T k).take (j + 1) = (colK T k).take j ++ [(T.getD j []).getD k 0] := by
  rw [take_succ (by simpa [colK] using hj)]; simp [colK, hj]
theorem colK_len (T : List (List K)) (k : Nat) : (colK T k).length = T.length := by simp [colK]
theorem i_sumOf_eq (h : OkT kind n T) (hn : n ≤ 1000) : i_sumOf (kind : Int) (kvv T) = some (totK kind T n).1 := by
  have hl := h.len
  have hk := h.kd
  have k0 := kvv_at (T := T) (j := 0) (by omega)
  rw [show ((0 : Nat) : Int) = 0 from rfl] at k0
  unfold i_sumOf
  rw [k0, Option.bind_some, kv_len, h.tab 0 (by omega)]
  have key := Loop_for (step := i_sumOf_1_s (kind : Int) (kvv T) (n : Int) 0 0) (fun j => ((j : Int), (sumN j fun k => cmK kind (colK T k)).1.A, (sumN j fun k => cmK kind (colK T k)).1.B)) n (e := ((n : Int), false, (totK kind T n).1.A, (totK kind T n).1.B)) (fun j hj => ?_) ?_
  · have key' : Loop (i_sumOf_1_s (kind : Int) (kvv T) (n : Int) 0 0) (0, 0, 0) = _ := key
    rw [key']; rfl
  · simp only [i_sumOf_1_s]
    have inner : ∀ c7 c8, Loop (i_sumOf_2_s (kind : Int) (kvv T) (j : Int) (n : Int) (j : Int) (kvv T) (((kvv T).length : Nat) : Int) 0 0 c7 c8) ([], 0) = some (kv (colK T j), (T.length : Int), false) := fun c7 c8 => by
      have key := Loop_for (step := i_sumOf_2_s (kind : Int) (kvv T) (j : Int) (n : Int) (j : Int) (kvv T) (((kvv T).length : Nat) : Int) 0 0 c7 c8) (fun i => (kv ((colK T j).take i), (i : Int))) T.length (e := (kv (colK T j), (T.length : Int), false)) (fun i hi => ?_) ?_
      · exact key
      · simp only [i_sumOf_2_s, kvv_len]
        rw [brd (by omega), kvv_at hi, Option.bind_some, kv_at (by rw [h.tab i hi]; exact hj), Option.bind_some, br_fits (by rw [List.length_append, kv_len, List.length_take, colK_len, List.length_singleton]; omega), wrap_i64 _ (by omega) (by omega), col_snoc hi, kvS]; rfl
      · simp only [i_sumOf_2_s, kvv_len]
        rw [brn (by omega), decide_eq_false (by omega), List.take_of_length_le (by rw [colK_len]; omega)]
    rw [brd (by omega), inner, Option.bind_some, i_combine_eq hk (by rw [colK_len, hl]), Option.bind_some, i_plus_eq (Subtype.property (sumN j fun k => cmK kind (colK T k))) (Subtype.property _), Option.bind_some, wrap_i64 _ (by omega) (by omega)]; rfl
  · simp only [i_sumOf_1_s]
    rw [brn (by omega), decide_eq_false (by omega)]; rfl
/-- A round's values at 0, 1 and so on. -/
def rdK (kind : Nat) (T : List (List K)) (n : Nat) : List K := (List.range (kind + 2)).map fun (x : Nat) => totK kind (bdK (kF (x : Int)) T) n
theorem rdK_len (kind : Nat) (T : List (List K)) (n : Nat) : (rdK kind T n).length = kind + 2 := by simp [rdK]
theorem small_val {x : Nat} (h : x ≤ 10) : Ext.mk (x : Int) 0 = (kF (x : Int)).1 := (kF_val ⟨by omega, by omega⟩).symm
theorem i_degree_eq (hk : kind = 1 ∨ kind = 2) : i_degreeOf (kind : Int) = some ((kind + 1 : Nat) : Int) := by
  unfold i_degreeOf
  rw [i_in_eq, Option.bind_some, decide_eq_true (by omega), decide_eq_true (by omega), Bool.and_self, Bool.not_true, br_false, wrap_i64 _ (by omega) (by omega)]; rfl
theorem i_roundOf_eq (h : OkT kind (2 * n) T) (hn : n ≤ 1000) : i_roundOf (kind : Int) (kvv T) = some (kv (rdK kind T n)) := by
  have hk := h.kd
  unfold i_roundOf
  rw [i_degree_eq hk, Option.bind_some, wrap_i64 _ (by omega) (by omega), show (((kind + 1 : Nat) : Int)) + 1 = ((kind + 2 : Nat) : Int) by omega]
  have key := Loop_for (step := i_roundOf_1_s (kind : Int) (kvv T) ((kind + 2 : Nat) : Int)) (fun j => (kv ((List.range j).map fun (x : Nat) => totK kind (bdK (kF (x : Int)) T) n), (j : Int))) (kind + 2) (e := (kv (rdK kind T n), ((kind + 2 : Nat) : Int), false)) (fun j hj => ?_) ?_
  · have key' : Loop (i_roundOf_1_s (kind : Int) (kvv T) ((kind + 2 : Nat) : Int)) ([], 0) = _ := key
    rw [key']; rfl
  · simp only [i_roundOf_1_s]
    rw [brd (by omega), small_val (by omega), i_bound_eq h hn, Option.bind_some, i_sumOf_eq (h.bd _) hn, Option.bind_some, br_fits (by rw [List.length_append, kv_len, List.length_map, List.length_range, List.length_singleton]; omega), wrap_i64 _ (by omega) (by omega), List.range_succ, List.map_append, List.map_singleton, kvS]; rfl
  · simp only [i_roundOf_1_s]
    rw [brn (by omega), decide_eq_false (by omega)]; rfl
end Go.AI.Fn

set_option linter.unusedVariables false
set_option linter.unusedSimpArgs false
namespace Go.AI.Fn

theorem kn_pow (a : Int) : ∀ n : Nat, K.n (a ^ n) = K.n a ^ n
  | 0 => by rw [Int.pow_zero, pw0]; rfl
  | n + 1 => by rw [Int.pow_succ, K.n_mul, kn_pow a n, pwS]
theorem kn_mod (a : Int) : K.n (a % 2130706433) = K.n a := K.ext (by show eN (a % 2130706433 % 2130706433) = eN (a % 2130706433); rw [Int.emod_emod])
theorem kf_pF (a : Int) (n : Nat) : kF (pF a n) = kF a ^ n := by rw [kF, pF, kn_mod, kn_pow]; rfl
theorem kf_iF (a : Int) : kF (iF a) = kF a ^ 2130706431 := by rw [iF, kf_pF]
theorem kf_iF_mul (a b : Int) : kF (iF (mF a b)) = kF (iF a) * kF (iF b) := by rw [kf_iF, kf_iF, kf_iF, kF_mF, mul_pw]
theorem kf_iF_one : kF (iF 1) = 1 := by rw [kf_iF, show kF 1 = 1 from rfl, one_pw]
/-- One summand as the program reckons it, and as the reference does. -/
def lnI (i : Nat) (x v : K) : Nat → K
  | 0 => v
  | k + 1 => if k = i then lnI i x v k else lnI i x v k * (x - kF (k : Int)) * kF (iF (sF (i : Int) (k : Int)))
def lnP (i : Nat) (x v : K) : Nat → K
  | 0 => v
  | k + 1 => if k = i then lnP i x v k else lnP i x v k * (x - kF (k : Int))
def lnD (i : Nat) : Nat → Int
  | 0 => 1
  | k + 1 => if k = i then lnD i k else mF (lnD i k) (sF (i : Int) (k : Int))
theorem lnD_ok (i : Nat) : ∀ k, okF (lnD i k)
  | 0 => okF1
  | k + 1 => by unfold lnD; split; exact lnD_ok i k; exact mF_ok _ _
theorem ln_eq (i : Nat) (x v : K) : ∀ k, lnI i x v k = lnP i x v k * kF (iF (lnD i k))
  | 0 => by rw [lnI, lnP, lnD, kf_iF_one]; exact kg
  | k + 1 => by
    have ih := ln_eq i x v k
    unfold lnI lnP lnD
    split
    · exact ih
    · rw [kf_iF_mul, ih]; exact kg
def lnK (vs : List K) (x : K) : K := sumN vs.length fun i => lnI i x (vs.getD i 0) vs.length
theorem smallv {x : Nat} (h : x ≤ 10) : Ext.mk (x : Int) 0 = (kF (x : Int)).1 := (kF_val ⟨by omega, by omega⟩).symm
theorem i_lineAt_eq {vs : List K} (x : K) (hl : vs.length ≤ 8) : i_lineAt (kv vs) x.1 = some (lnK vs x).1 := by
  unfold i_lineAt
  have key := Loop_for (step := i_lineAt_1_s (kv vs) (kv vs) (vs.length : Int) x.1.A x.1.B 0 0) (fun j => ((j : Int), (sumN j fun i => lnI i x (vs.getD i 0) vs.length).1.A, (sumN j fun i => lnI i x (vs.getD i 0) vs.length).1.B)) vs.length (e := ((vs.length : Int), false, (lnK vs x).1.A, (lnK vs x).1.B)) (fun j hj => ?_) ?_
  · have key' : Loop (i_lineAt_1_s (kv vs) (kv vs) (vs.length : Int) x.1.A x.1.B 0 0) (0, 0, 0) = _ := key
    rw [kv_len, key']; rfl
  · simp only [i_lineAt_1_s]
    have inner : ∀ c9 c10 c11 c12 c13 c14, Loop (i_lineAt_2_s (kv vs) (j : Int) (kv vs) (vs.length : Int) (j : Int) (((kv vs).length : Nat) : Int) x.1.A x.1.B c9 c10 c11 c12 c13 c14) (0, (vs.getD j 0).1.A, (vs.getD j 0).1.B) = some ((vs.length : Int), false, (lnI j x (vs.getD j 0) vs.length).1.A, (lnI j x (vs.getD j 0) vs.length).1.B) := fun c9 c10 c11 c12 c13 c14 => by
      refine Loop_for (step := i_lineAt_2_s (kv vs) (j : Int) (kv vs) (vs.length : Int) (j : Int) (((kv vs).length : Nat) : Int) x.1.A x.1.B c9 c10 c11 c12 c13 c14) (fun k => ((k : Int), (lnI j x (vs.getD j 0) k).1.A, (lnI j x (vs.getD j 0) k).1.B)) vs.length (fun k hk => ?_) ?_
      · simp only [i_lineAt_2_s, kv_len]
        rw [brd (by omega)]
        by_cases c : k = j
        · rw [brbe (by omega), wrap_i64 _ (by omega) (by omega), lnI, if_pos c]; rfl
        · rw [brb (by omega), smallv (by omega), show Ext.mk x.1.A x.1.B = x.1 from rfl, i_minus_eq x.2 (Subtype.property _), Option.bind_some, i_times_eq (Subtype.property (lnI j x (vs.getD j 0) k)) (eS_ok _ _), Option.bind_some, i_sub_eq ⟨by omega, by omega⟩ ⟨by omega, by omega⟩, Option.bind_some, i_inverse_eq (sF_ok _ _), Option.bind_some, i_scaled_eq (eM_ok _ _) (show okF (iF (sF (j : Int) (k : Int))) from pF_ok _ _), Option.bind_some, wrap_i64 _ (by omega) (by omega), lnI, if_neg c, eC_eq, ← kF_val (a := iF (sF (j : Int) (k : Int))) (pF_ok _ _)]; rfl
      · simp only [i_lineAt_2_s, kv_len]
        rw [brn (by omega), decide_eq_false (by omega)]
    rw [brd (by omega), kv_at hj, Option.bind_some, inner, Option.bind_some, i_plus_eq (Subtype.property (sumN j fun i => lnI i x (vs.getD i 0) vs.length)) (Subtype.property (lnI j x (vs.getD j 0) vs.length)), Option.bind_some, wrap_i64 _ (by omega) (by omega)]; rfl
  · simp only [i_lineAt_1_s]
    rw [brn (by omega), decide_eq_false (by omega)]; rfl
theorem s_line_eq {vs : List K} (x : K) (hl : vs.length ≤ 8) : s_l06Line (kv vs) x.1 = some (lnK vs x).1 := by
  unfold s_l06Line
  have key := Loop_for (step := s_l06Line_1_s (kv vs) x.1.A x.1.B 0 0) (fun j => ((j : Int), (sumN j fun i => lnI i x (vs.getD i 0) vs.length).1.A, (sumN j fun i => lnI i x (vs.getD i 0) vs.length).1.B)) vs.length (e := ((vs.length : Int), false, (lnK vs x).1.A, (lnK vs x).1.B)) (fun j hj => ?_) ?_
  · have key' : Loop (s_l06Line_1_s (kv vs) x.1.A x.1.B 0 0) (0, 0, 0) = _ := key
    rw [key']; rfl
  · simp only [s_l06Line_1_s, kv_len]
    have inner : ∀ c9 c10 c11 c12, Loop (s_l06Line_2_s (kv vs) (j : Int) x.1.A x.1.B c9 c10 c11 c12) (1, 0, (vs.getD j 0).1.A, (vs.getD j 0).1.B) = some (lnD j vs.length, (vs.length : Int), false, (lnP j x (vs.getD j 0) vs.length).1.A, (lnP j x (vs.getD j 0) vs.length).1.B) := fun c9 c10 c11 c12 => by
      refine Loop_for (step := s_l06Line_2_s (kv vs) (j : Int) x.1.A x.1.B c9 c10 c11 c12) (fun k => (lnD j k, (k : Int), (lnP j x (vs.getD j 0) k).1.A, (lnP j x (vs.getD j 0) k).1.B)) vs.length (fun k hk => ?_) ?_
      · simp only [s_l06Line_2_s, kv_len]
        rw [brd (by omega)]
        by_cases c : k = j
        · rw [brbe (by omega), wrap_i64 _ (by omega) (by omega), lnP, lnD, if_pos c, if_pos c]; rfl
        · rw [brb (by omega), s_of_eq, Option.bind_some, show eN (k : Int) = (kF (k : Int)).1 from smallv (by omega), show Ext.mk x.1.A x.1.B = x.1 from rfl, s_esub_eq x.2 (Subtype.property _), Option.bind_some, s_emul_eq (Subtype.property (lnP j x (vs.getD j 0) k)) (eS_ok _ _), Option.bind_some, s_sub_eq ⟨by omega, by omega⟩ ⟨by omega, by omega⟩, Option.bind_some, s_mul_eq (lnD_ok j k) (sF_ok _ _), Option.bind_some, wrap_i64 _ (by omega) (by omega), lnP, lnD, if_neg c, if_neg c]; rfl
      · simp only [s_l06Line_2_s, kv_len]
        rw [brn (by omega), decide_eq_false (by omega)]
    unfold s_l01Inverse
    rw [brd (by omega), kv_at hj, Option.bind_some, inner, Option.bind_some]
    dsimp only
    rw [s_inverse_eq (lnD_ok j _), Option.bind_some, Option.bind_some, s_of_eq, Option.bind_some, ← kF_val (a := iF (lnD j vs.length)) (pF_ok _ _), s_emul_eq (Subtype.property (lnP j x (vs.getD j 0) vs.length)) (Subtype.property _), Option.bind_some,
      show eM (Ext.mk (lnP j x (vs.getD j 0) vs.length).1.A (lnP j x (vs.getD j 0) vs.length).1.B) (kF (iF (lnD j vs.length))).1 = (lnI j x (vs.getD j 0) vs.length).1 from congrArg Subtype.val (ln_eq j x _ _).symm,
      s_eadd_eq (Subtype.property (sumN j fun i => lnI i x (vs.getD i 0) vs.length)) (Subtype.property (lnI j x (vs.getD j 0) vs.length)), Option.bind_some, wrap_i64 _ (by omega) (by omega)]; rfl
  · simp only [s_l06Line_1_s, kv_len]
    rw [brn (by omega), decide_eq_false (by omega)]; rfl
/-! ### the law of rounds -/
end Go.AI.Fn

set_option linter.unusedVariables false
set_option linter.unusedSimpArgs false
namespace Go.AI.Fn

abbrev xo (a b : Int) : Int := xor64 .u64 a b
/-- Turned left. -/
def rot (x s : Int) : Int := if s = 0 then x else or64 .u64 (shl64 .u64 x s) (shr64 .u64 x (64 - s))
def u64b (x : Int) : Prop := 0 ≤ x ∧ x < 18446744073709551616
theorem wrapu_b (x : Int) : u64b (IntKind.wrap .u64 x) := by
  unfold u64b; simp [IntKind.wrap, IntKind.bits, IntKind.signed]; omega
theorem xo_b (a b : Int) : u64b (xo a b) := wrapu_b _
theorem bv_toNat {x : Int} (h : u64b x) : ((BitVec.ofInt 64 x).toNat : Int) = x := by
  obtain ⟨h0, h1⟩ := h
  rw [BitVec.toNat_ofInt]; omega
theorem xo_zero {a : Int} (h : u64b a) : xo 0 a = a := by
  show IntKind.wrap .u64 _ = a
  have : (BitVec.ofInt 64 0 ^^^ BitVec.ofInt 64 a) = BitVec.ofInt 64 a := by simp
  show IntKind.wrap .u64 ((BitVec.ofInt 64 0 ^^^ BitVec.ofInt 64 a).toNat : Int) = a
  rw [this, bv_toNat h, wrap_u64 a h.1 h.2]
theorem or_zero {a : Int} (h : u64b a) : or64 .u64 a 0 = a := by
  have : (BitVec.ofInt 64 a ||| BitVec.ofInt 64 0) = BitVec.ofInt 64 a := by simp
  show IntKind.wrap .u64 ((BitVec.ofInt 64 a ||| BitVec.ofInt 64 0).toNat : Int) = a
  rw [this, bv_toNat h, wrap_u64 a h.1 h.2]
theorem andn_eq (x y : Int) : andn64 .u64 x y = and64 .u64 (not64 .u64 y) x := by
  show IntKind.wrap .u64 ((BitVec.ofInt 64 x &&& ~~~ BitVec.ofInt 64 y).toNat : Int) = IntKind.wrap .u64 ((BitVec.ofInt 64 (not64 .u64 y) &&& BitVec.ofInt 64 x).toNat : Int)
  have h : BitVec.ofInt 64 (not64 .u64 y) = ~~~ BitVec.ofInt 64 y := by
    show BitVec.ofInt 64 (IntKind.wrap .u64 ((BitVec.ofInt 64 18446744073709551615 ^^^ BitVec.ofInt 64 y).toNat : Int)) = _
    have e : (BitVec.ofInt 64 18446744073709551615 ^^^ BitVec.ofInt 64 y) = ~~~ BitVec.ofInt 64 y := by
      rw [show BitVec.ofInt 64 18446744073709551615 = BitVec.allOnes 64 by decide, BitVec.allOnes_xor]
    rw [e, wrap_u64 _ (by omega) (by have := (~~~ BitVec.ofInt 64 y).isLt; omega)]
    rw [BitVec.ofInt_natCast, BitVec.ofNat_toNat]; simp
  rw [h, BitVec.and_comm]
theorem turn_eq {x s : Int} (hs : 0 ≤ s ∧ s < 64) : s_l03Turn x s = some (rot x s) := by
  unfold s_l03Turn rot
  by_cases h : s = 0
  · rw [bre h, if_pos h]
  · rw [brne h, if_neg h, brd hs.1, wrap_u64 (64 - s) (by omega) (by omega), brd (by omega)]
end Go.AI.Fn

set_option linter.unusedVariables false
set_option linter.unusedSimpArgs false
namespace Go.AI.Fn

theorem and63 : ∀ k : Nat, k < 64 → and64 .u64 (IntKind.wrap .u64 (k : Int)) 63 = (k : Int) := by decide
theorem rotl_eq {x s : Int} (hs : 0 ≤ s ∧ s < 64) (hx : s ≠ 0 ∨ u64b x) : math_bits_RotateLeft64 x s = some (rot x s) := by
  have e : and64 .u64 (IntKind.wrap .u64 s) 63 = s := by
    have := and63 s.toNat (by omega)
    rwa [Int.toNat_of_nonneg hs.1] at this
  unfold math_bits_RotateLeft64 rot
  rw [e, brd hs.1, wrap_u64 (64 - s) (by omega) (by omega), brd (by omega)]
  by_cases h : s = 0
  · subst h
    have hx : u64b x := hx.resolve_left (fun h => h rfl)
    have e1 : shl64 .u64 x 0 = x := by
      show IntKind.wrap .u64 (x * 2 ^ 0) = x
      rw [Int.pow_zero, Int.mul_one, wrap_u64 x hx.1 hx.2]
    have e2 : shr64 .u64 x (64 - 0) = 0 := by
      show x.fdiv (2 ^ 64) = 0
      rw [Int.fdiv_eq_ediv_of_nonneg _ (by decide)]
      exact Int.ediv_eq_zero_of_lt hx.1 hx.2
    rw [e1, e2, or_zero hx, if_pos rfl]
  · rw [if_neg h]

abbrev g (l : List Int) (i : Int) : Int := l.getD i.toNat 0

def shiftL : List Int := [0, 1, 62, 28, 27, 36, 44, 6, 55, 20, 3, 10, 43, 25, 39, 41, 45, 15, 21, 8, 18, 2, 61, 56, 14]
theorem shift_ok : ∀ k : Nat, k < 25 → 0 ≤ shiftL.getD k 0 ∧ shiftL.getD k 0 < 64 := by decide

-- the program
def p2 (m : List Int) (k : Nat) (l : List Int) : List Int := l.set ((k : Int) % 5).toNat (xo (g l ((k : Int) % 5)) (g m k))
def p3 (m c : List Int) (k : Nat) (l : List Int) : List Int :=
  l.set ((k : Int) / 5 + 5 * ((2 * ((k : Int) % 5) + 3 * ((k : Int) / 5)) % 5)).toNat (rot (xo (g m k) (xo (g c (((k : Int) % 5 + 4) % 5)) (rot (g c (((k : Int) % 5 + 1) % 5)) 1))) (g shiftL k))
def p4 (b : List Int) (k : Nat) (l : List Int) : List Int :=
  l.set k (xo (g b k) (andn64 .u64 (g b ((k : Int) - (k : Int) % 5 + ((k : Int) % 5 + 2) % 5)) (g b ((k : Int) - (k : Int) % 5 + ((k : Int) % 5 + 1) % 5))))
-- the reference
def q2 (m : List Int) (k : Nat) (l : List Int) : List Int := l.set k (xo (xo (xo (xo (g m k) (g m ((k : Int) + 5))) (g m ((k : Int) + 10))) (g m ((k : Int) + 15))) (g m ((k : Int) + 20)))
def q3 (c : List Int) (k : Nat) (l : List Int) : List Int := l.set k (xo (g l k) (xo (g c (((k : Int) + 4) % 5)) (rot (g c (((k : Int) + 1) % 5)) 1)))
def q5 (m : List Int) (x : Int) (y : Nat) (l : List Int) : List Int := l.set ((y : Int) + 5 * ((2 * x + 3 * (y : Int)) % 5)).toNat (rot (g m (x + 5 * (y : Int))) (g shiftL (x + 5 * (y : Int))))
def q4 (m : List Int) (x : Nat) (l : List Int) : List Int := iU (q5 m x) 5 l
def q7 (b : List Int) (x : Int) (y : Nat) (l : List Int) : List Int := l.set (x + 5 * (y : Int)).toNat (xo (g b (x + 5 * (y : Int))) (and64 .u64 (not64 .u64 (g b ((x + 1) % 5 + 5 * (y : Int)))) (g b ((x + 2) % 5 + 5 * (y : Int)))))
def q6 (b : List Int) (x : Nat) (l : List Int) : List Int := iU (q7 b x) 5 l

theorem p2_len (m : List Int) (k : Nat) (l : List Int) : (iU (p2 m) k l).length = l.length := iU_len (fun _ _ => List.length_set) k l
theorem p3_len (m c : List Int) (k : Nat) (l : List Int) : (iU (p3 m c) k l).length = l.length := iU_len (fun _ _ => List.length_set) k l
theorem p4_len (b : List Int) (k : Nat) (l : List Int) : (iU (p4 b) k l).length = l.length := iU_len (fun _ _ => List.length_set) k l
theorem q2_len (m : List Int) (k : Nat) (l : List Int) : (iU (q2 m) k l).length = l.length := iU_len (fun _ _ => List.length_set) k l
theorem q3_len (c : List Int) (k : Nat) (l : List Int) : (iU (q3 c) k l).length = l.length := iU_len (fun _ _ => List.length_set) k l
theorem q5_len (m : List Int) (x : Int) (k : Nat) (l : List Int) : (iU (q5 m x) k l).length = l.length := iU_len (fun _ _ => List.length_set) k l
theorem q7_len (m : List Int) (x : Int) (k : Nat) (l : List Int) : (iU (q7 m x) k l).length = l.length := iU_len (fun _ _ => List.length_set) k l
theorem q4_len (m : List Int) (k : Nat) (l : List Int) : (iU (q4 m) k l).length = l.length := iU_len (fun x l => q5_len m x 5 l) k l
theorem q6_len (m : List Int) (k : Nat) (l : List Int) : (iU (q6 m) k l).length = l.length := iU_len (fun x l => q7_len m x 5 l) k l

theorem loop_p2 {m5 m6 m7 m9 t4 : List Int} {t3 t5 : Int} (h : m5.length = 25) : Loop (i_lanes_permute_2_s m5 m6 m7 m9 t3 t4 t5) (nZ 5, 0) = some (iU (p2 m5) 25 (nZ 5), 25, false) :=
  Loop_for (fun k => (iU (p2 m5) k (nZ 5), (k : Int))) 25 (fun k hk => by
    have hl := p2_len m5 k (nZ 5)
    rw [nZ_len] at hl
    simp only [i_lanes_permute_2_s]
    simp (disch := omega) only [brd, tmod_nn, brdd, get_bind, wrap_i64]
    simp only [iU, p2, Int.toNat_natCast, cast_succ]
    rfl) (by
    simp (disch := omega) only [i_lanes_permute_2_s, brn]; rfl)

theorem loop_q2 {m5 m6 m7 m8 : List Int} {t2 : Int} (h : m5.length = 25) : Loop (s_l03Permute_2_s m5 m6 m7 m8 t2) (nZ 5, 0) = some (iU (q2 m5) 5 (nZ 5), 5, false) :=
  Loop_for (fun k => (iU (q2 m5) k (nZ 5), (k : Int))) 5 (fun k hk => by
    have hl := q2_len m5 k (nZ 5)
    rw [nZ_len] at hl
    simp only [s_l03Permute_2_s]
    simp (disch := omega) only [brd, tmod_nn, brdd, get_bind, wrap_i64]
    simp only [iU, q2, Int.toNat_natCast, cast_succ]
    rfl) (by
    simp (disch := omega) only [s_l03Permute_2_s, brn]; rfl)

theorem shift_at (k : Nat) (hk : k < 25) : 0 ≤ shiftL.getD k 0 ∧ shiftL.getD k 0 < 64 := shift_ok k hk
theorem shift_len : shiftL.length = 25 := rfl
theorem loop_p3 {m10 m12 c t8 : List Int} {t7 t9 : Int} (h : m10.length = 25) (hc : c.length = 5) : Loop (i_lanes_permute_3_s m10 shiftL m12 c t7 t8 t9) (nZ 25, 0) = some (iU (p3 m10 c) 25 (nZ 25), 25, false) :=
  Loop_for (fun k => (iU (p3 m10 c) k (nZ 25), (k : Int))) 25 (fun k hk => by
    have hl := p3_len m10 c k (nZ 25)
    rw [nZ_len] at hl
    have hs := shift_at k hk
    have hs1 := shift_len
    simp only [i_lanes_permute_3_s]
    simp (disch := omega) only [brd, tmod_nn, tdiv_nn, brdd, get_bind, wrap_i64]
    rw [rotl_eq ⟨by decide, by decide⟩ (.inl (by decide))]
    simp only [Option.bind_some]
    simp only [Int.toNat_natCast]
    rw [rotl_eq hs (.inr (xo_b _ _))]
    simp only [Option.bind_some]
    rfl) (by
    simp (disch := omega) only [i_lanes_permute_3_s, brn]; rfl)
theorem loop_p4 {m16 m17 m18 b t12 : List Int} {t11 t13 : Int} {m : List Int} (h : m.length = 25) (hb : b.length = 25) : Loop (i_lanes_permute_4_s m16 m17 m18 b t11 t12 t13 b) (m, 0) = some (iU (p4 b) 25 m, 25, false) :=
  Loop_for (fun k => (iU (p4 b) k m, (k : Int))) 25 (fun k hk => by
    have hl := p4_len b k m
    simp only [i_lanes_permute_4_s]
    simp (disch := omega) only [brd, tmod_nn, tdiv_nn, brdd, get_bind, wrap_i64]
    rfl) (by
    simp (disch := omega) only [i_lanes_permute_4_s, brn]; rfl)
theorem loop_q3 {m11 m12 m13 c m : List Int} {t4 : Int} (h : m.length = 25) (hc : c.length = 5) : Loop (s_l03Permute_3_s m11 m12 m13 c t4) (m, 0) = some (iU (q3 c) 25 m, 25, false) :=
  Loop_for (fun k => (iU (q3 c) k m, (k : Int))) 25 (fun k hk => by
    have hl := q3_len c k m
    simp only [s_l03Permute_3_s]
    simp (disch := omega) only [brd, tmod_nn, tdiv_nn, brdd, get_bind, wrap_i64]
    rw [turn_eq ⟨by decide, by decide⟩]
    simp only [Option.bind_some]
    rfl) (by
    simp (disch := omega) only [s_l03Permute_3_s, brn]; rfl)
theorem loop_q5 {a m22 m23 m25 m : List Int} {t8 : Int} {x : Nat} (hx : x < 5) (h : m.length = 25) (ha : a.length = 25) : Loop (s_l03Permute_5_s a m22 m23 shiftL m25 t8 x) (m, 0) = some (iU (q5 a x) 5 m, 5, false) :=
  Loop_for (fun k => (iU (q5 a x) k m, (k : Int))) 5 (fun k hk => by
    have hl := q5_len a x k m
    have hs := shift_at ((x : Int) + 5 * (k : Int)).toNat (by omega)
    have hs1 := shift_len
    simp only [s_l03Permute_5_s]
    simp (disch := omega) only [brd, tmod_nn, tdiv_nn, brdd, get_bind, wrap_i64]
    rw [turn_eq hs]
    simp only [Option.bind_some]
    rfl) (by
    simp (disch := omega) only [s_l03Permute_5_s, brn]; rfl)
theorem loop_q4 {a m16 m17 m19 m : List Int} {t6 : Int} (h : m.length = 25) (ha : a.length = 25) : Loop (s_l03Permute_4_s a m16 m17 shiftL m19 t6) (m, 0) = some (iU (q4 a) 5 m, 5, false) :=
  Loop_for (fun k => (iU (q4 a) k m, (k : Int))) 5 (fun k hk => by
    have hl := q4_len a k m
    simp only [s_l03Permute_4_s]
    rw [brd (by omega), loop_q5 hk (by omega) ha, Option.bind_some, wrap_i64 _ (by omega) (by omega)]
    rfl) (by
    simp (disch := omega) only [s_l03Permute_4_s, brn]; rfl)
theorem loop_q7 {m34 m35 m36 m37 b m : List Int} {t13 : Int} {x : Nat} (hx : x < 5) (h : m.length = 25) (hb : b.length = 25) : Loop (s_l03Permute_7_s m34 m35 m36 m37 b t13 x) (m, 0) = some (iU (q7 b x) 5 m, 5, false) :=
  Loop_for (fun k => (iU (q7 b x) k m, (k : Int))) 5 (fun k hk => by
    have hl := q7_len b x k m
    simp only [s_l03Permute_7_s]
    simp (disch := omega) only [brd, tmod_nn, tdiv_nn, brdd, get_bind, wrap_i64]
    rfl) (by
    simp (disch := omega) only [s_l03Permute_7_s, brn]; rfl)
theorem loop_q6 {m28 m29 m30 m31 b m : List Int} {t11 : Int} (h : m.length = 25) (hb : b.length = 25) : Loop (s_l03Permute_6_s m28 m29 m30 m31 b t11) (m, 0) = some (iU (q6 b) 5 m, 5, false) :=
  Loop_for (fun k => (iU (q6 b) k m, (k : Int))) 5 (fun k hk => by
    have hl := q6_len b k m
    simp only [s_l03Permute_6_s]
    rw [brd (by omega), loop_q7 hk (by omega) hb, Option.bind_some, wrap_i64 _ (by omega) (by omega)]
    rfl) (by
    simp (disch := omega) only [s_l03Permute_6_s, brn]; rfl)

/-- One round, as the program and as the reference do it. -/
def roundP (m : List Int) (rc : Int) : List Int :=
  let c := iU (p2 m) 25 (nZ 5)
  let b := iU (p3 m c) 25 (nZ 25)
  let r := iU (p4 b) 25 m
  r.set 0 (xo (r.getD 0 0) rc)
def roundQ (m : List Int) (rc : Int) : List Int :=
  let c := iU (q2 m) 5 (nZ 5)
  let a := iU (q3 c) 25 m
  let b := iU (q4 a) 5 (nZ 25)
  let r := iU (q6 b) 5 a
  r.set 0 (xo (r.getD 0 0) rc)
end Go.AI.Fn

set_option linter.unusedVariables false
set_option linter.unusedSimpArgs false
namespace Go.AI.Fn

theorem len_split {l : List Int} {n : Nat} (h : l.length = n + 1) : ∃ a r, l = a :: r ∧ r.length = n := by
  cases l with
  | nil => simp at h
  | cons a r => exact ⟨a, r, rfl, by simpa using h⟩
theorem len_nil {l : List Int} (h : l.length = 0) : l = [] := List.eq_nil_of_length_eq_zero h

theorem len25 {l : List Int} (h : l.length = 25) : ∃ a0 a1 a2 a3 a4 a5 a6 a7 a8 a9 a10 a11 a12 a13 a14 a15 a16 a17 a18 a19 a20 a21 a22 a23 a24, l = [a0, a1, a2, a3, a4, a5, a6, a7, a8, a9, a10, a11, a12, a13, a14, a15, a16, a17, a18, a19, a20, a21, a22, a23, a24] := by
  obtain ⟨a0, r0, rfl, h0⟩ := len_split h
  obtain ⟨a1, r1, rfl, h1⟩ := len_split h0
  obtain ⟨a2, r2, rfl, h2⟩ := len_split h1
  obtain ⟨a3, r3, rfl, h3⟩ := len_split h2
  obtain ⟨a4, r4, rfl, h4⟩ := len_split h3
  obtain ⟨a5, r5, rfl, h5⟩ := len_split h4
  obtain ⟨a6, r6, rfl, h6⟩ := len_split h5
  obtain ⟨a7, r7, rfl, h7⟩ := len_split h6
  obtain ⟨a8, r8, rfl, h8⟩ := len_split h7
  obtain ⟨a9, r9, rfl, h9⟩ := len_split h8
  obtain ⟨a10, r10, rfl, h10⟩ := len_split h9
  obtain ⟨a11, r11, rfl, h11⟩ := len_split h10
  obtain ⟨a12, r12, rfl, h12⟩ := len_split h11
  obtain ⟨a13, r13, rfl, h13⟩ := len_split h12
  obtain ⟨a14, r14, rfl, h14⟩ := len_split h13
  obtain ⟨a15, r15, rfl, h15⟩ := len_split h14
  obtain ⟨a16, r16, rfl, h16⟩ := len_split h15
  obtain ⟨a17, r17, rfl, h17⟩ := len_split h16
  obtain ⟨a18, r18, rfl, h18⟩ := len_split h17
  obtain ⟨a19, r19, rfl, h19⟩ := len_split h18
  obtain ⟨a20, r20, rfl, h20⟩ := len_split h19
  obtain ⟨a21, r21, rfl, h21⟩ := len_split h20
  obtain ⟨a22, r22, rfl, h22⟩ := len_split h21
  obtain ⟨a23, r23, rfl, h23⟩ := len_split h22
  obtain ⟨a24, r24, rfl, h24⟩ := len_split h23
  obtain rfl := len_nil h24
  exact ⟨_, _, _, _, _, _, _, _, _, _, _, _, _, _, _, _, _, _, _, _, _, _, _, _, _, rfl⟩

/-- 25 lanes. -/
def okLanes (m : List Int) : Prop := m.length = 25 ∧ ∀ x ∈ m, u64b x

/-- The five sums. -/
def cs (m : List Int) : List Int := iU (q2 m) 5 (nZ 5)
theorem sums_eq {m : List Int} (h : okLanes m) : iU (p2 m) 25 (nZ 5) = cs m := by
  obtain ⟨hl, hb⟩ := h
  obtain ⟨a0, a1, a2, a3, a4, a5, a6, a7, a8, a9, a10, a11, a12, a13, a14, a15, a16, a17, a18, a19, a20, a21, a22, a23, a24, rfl⟩ := len25 hl
  have e0 := xo_zero (hb a0 (by simp))
  have e1 := xo_zero (hb a1 (by simp))
  have e2 := xo_zero (hb a2 (by simp))
  have e3 := xo_zero (hb a3 (by simp))
  have e4 := xo_zero (hb a4 (by simp))
  have k : iU (p2 [a0, a1, a2, a3, a4, a5, a6, a7, a8, a9, a10, a11, a12, a13, a14, a15, a16, a17, a18, a19, a20, a21, a22, a23, a24]) 25 (nZ 5) = [xo (xo (xo (xo (xo 0 a0) a5) a10) a15) a20, xo (xo (xo (xo (xo 0 a1) a6) a11) a16) a21, xo (xo (xo (xo (xo 0 a2) a7) a12) a17) a22, xo (xo (xo (xo (xo 0 a3) a8) a13) a18) a23, xo (xo (xo (xo (xo 0 a4) a9) a14) a19) a24] := by kernel_rfl
  have k2 : cs [a0, a1, a2, a3, a4, a5, a6, a7, a8, a9, a10, a11, a12, a13, a14, a15, a16, a17, a18, a19, a20, a21, a22, a23, a24] =
    [xo (xo (xo (xo a0 a5) a10) a15) a20, xo (xo (xo (xo a1 a6) a11) a16) a21, xo (xo (xo (xo a2 a7) a12) a17) a22, xo (xo (xo (xo a3 a8) a13) a18) a23, xo (xo (xo (xo a4 a9) a14) a19) a24] := by kernel_rfl
  rw [k, k2, e0, e1, e2, e3, e4]

theorem p3_form {c : List Int} (a0 a1 a2 a3 a4 a5 a6 a7 a8 a9 a10 a11 a12 a13 a14 a15 a16 a17 a18 a19 a20 a21 a22 a23 a24 : Int) : iU (p3 [a0, a1, a2, a3, a4, a5, a6, a7, a8, a9, a10, a11, a12, a13, a14, a15, a16, a17, a18, a19, a20, a21, a22, a23, a24] c) 25 (nZ 25) = [rot (xo a0 (xo (g c 4) (rot (g c 1) 1))) 0, rot (xo a6 (xo (g c 0) (rot (g c 2) 1))) 44, rot (xo a12 (xo (g c 1) (rot (g c 3) 1))) 43, rot (xo a18 (xo (g c 2) (rot (g c 4) 1))) 21, rot (xo a24 (xo (g c 3) (rot (g c 0) 1))) 14, rot (xo a3 (xo (g c 2) (rot (g c 4) 1))) 28, rot (xo a9 (xo (g c 3) (rot (g c 0) 1))) 20, rot (xo a10 (xo (g c 4) (rot (g c 1) 1))) 3, rot (xo a16 (xo (g c 0) (rot (g c 2) 1))) 45, rot (xo a22 (xo (g c 1) (rot (g c 3) 1))) 61, rot (xo a1 (xo (g c 0) (rot (g c 2) 1))) 1, rot (xo a7 (xo (g c 1) (rot (g c 3) 1))) 6, rot (xo a13 (xo (g c 2) (rot (g c 4) 1))) 25, rot (xo a19 (xo (g c 3) (rot (g c 0) 1))) 8, rot (xo a20 (xo (g c 4) (rot (g c 1) 1))) 18, rot (xo a4 (xo (g c 3) (rot (g c 0) 1))) 27, rot (xo a5 (xo (g c 4) (rot (g c 1) 1))) 36, rot (xo a11 (xo (g c 0) (rot (g c 2) 1))) 10, rot (xo a17 (xo (g c 1) (rot (g c 3) 1))) 15, rot (xo a23 (xo (g c 2) (rot (g c 4) 1))) 56, rot (xo a2 (xo (g c 1) (rot (g c 3) 1))) 62, rot (xo a8 (xo (g c 2) (rot (g c 4) 1))) 55, rot (xo a14 (xo (g c 3) (rot (g c 0) 1))) 39, rot (xo a15 (xo (g c 4) (rot (g c 1) 1))) 41, rot (xo a21 (xo (g c 0) (rot (g c 2) 1))) 2] := by kernel_rfl
theorem q3_form {c : List Int} (a0 a1 a2 a3 a4 a5 a6 a7 a8 a9 a10 a11 a12 a13 a14 a15 a16 a17 a18 a19 a20 a21 a22 a23 a24 : Int) : iU (q3 c) 25 [a0, a1, a2, a3, a4, a5, a6, a7, a8, a9, a10, a11, a12, a13, a14, a15, a16, a17, a18, a19, a20, a21, a22, a23, a24] = [xo a0 (xo (g c 4) (rot (g c 1) 1)), xo a1 (xo (g c 0) (rot (g c 2) 1)), xo a2 (xo (g c 1) (rot (g c 3) 1)), xo a3 (xo (g c 2) (rot (g c 4) 1)), xo a4 (xo (g c 3) (rot (g c 0) 1)), xo a5 (xo (g c 4) (rot (g c 1) 1)), xo a6 (xo (g c 0) (rot (g c 2) 1)), xo a7 (xo (g c 1) (rot (g c 3) 1)), xo a8 (xo (g c 2) (rot (g c 4) 1)), xo a9 (xo (g c 3) (rot (g c 0) 1)), xo a10 (xo (g c 4) (rot (g c 1) 1)), xo a11 (xo (g c 0) (rot (g c 2) 1)), xo a12 (xo (g c 1) (rot (g c 3) 1)), xo a13 (xo (g c 2) (rot (g c 4) 1)), xo a14 (xo (g c 3) (rot (g c 0) 1)), xo a15 (xo (g c 4) (rot (g c 1) 1)), xo a16 (xo (g c 0) (rot (g c 2) 1)), xo a17 (xo (g c 1) (rot (g c 3) 1)), xo a18 (xo (g c 2) (rot (g c 4) 1)), xo a19 (xo (g c 3) (rot (g c 0) 1)), xo a20 (xo (g c 4) (rot (g c 1) 1)), xo a21 (xo (g c 0) (rot (g c 2) 1)), xo a22 (xo (g c 1) (rot (g c 3) 1)), xo a23 (xo (g c 2) (rot (g c 4) 1)), xo a24 (xo (g c 3) (rot (g c 0) 1))] := by kernel_rfl
theorem q4_form (a0 a1 a2 a3 a4 a5 a6 a7 a8 a9 a10 a11 a12 a13 a14 a15 a16 a17 a18 a19 a20 a21 a22 a23 a24 : Int) : iU (q4 [a0, a1, a2, a3, a4, a5, a6, a7, a8, a9, a10, a11, a12, a13, a14, a15, a16, a17, a18, a19, a20, a21, a22, a23, a24]) 5 (nZ 25) = [rot a0 0, rot a6 44, rot a12 43, rot a18 21, rot a24 14, rot a3 28, rot a9 20, rot a10 3, rot a16 45, rot a22 61, rot a1 1, rot a7 6, rot a13 25, rot a19 8, rot a20 18, rot a4 27, rot a5 36, rot a11 10, rot a17 15, rot a23 56, rot a2 62, rot a8 55, rot a14 39, rot a15 41, rot a21 2] := by kernel_rfl
theorem moved_eq {m c : List Int} (hm : m.length = 25) : iU (p3 m c) 25 (nZ 25) = iU (q4 (iU (q3 c) 25 m)) 5 (nZ 25) := by
  obtain ⟨a0, a1, a2, a3, a4, a5, a6, a7, a8, a9, a10, a11, a12, a13, a14, a15, a16, a17, a18, a19, a20, a21, a22, a23, a24, rfl⟩ := len25 hm
  rw [p3_form, q3_form, q4_form]

def p4' (b : List Int) (k : Nat) (l : List Int) : List Int := l.set k (xo (g b k) (and64 .u64 (not64 .u64 (g b ((k : Int) - (k : Int) % 5 + ((k : Int) % 5 + 1) % 5))) (g b ((k : Int) - (k : Int) % 5 + ((k : Int) % 5 + 2) % 5))))
theorem p4_eq (b : List Int) : p4 b = p4' b := by funext k l; unfold p4 p4'; rw [andn_eq]
theorem p4_form (a0 a1 a2 a3 a4 a5 a6 a7 a8 a9 a10 a11 a12 a13 a14 a15 a16 a17 a18 a19 a20 a21 a22 a23 a24 : Int) (b0 b1 b2 b3 b4 b5 b6 b7 b8 b9 b10 b11 b12 b13 b14 b15 b16 b17 b18 b19 b20 b21 b22 b23 b24 : Int) : iU (p4' [a0, a1, a2, a3, a4, a5, a6, a7, a8, a9, a10, a11, a12, a13, a14, a15, a16, a17, a18, a19, a20, a21, a22, a23, a24]) 25 [b0, b1, b2, b3, b4, b5, b6, b7, b8, b9, b10, b11, b12, b13, b14, b15, b16, b17, b18, b19, b20, b21, b22, b23, b24] = [xo a0 (and64 .u64 (not64 .u64 a1) a2), xo a1 (and64 .u64 (not64 .u64 a2) a3), xo a2 (and64 .u64 (not64 .u64 a3) a4), xo a3 (and64 .u64 (not64 .u64 a4) a0), xo a4 (and64 .u64 (not64 .u64 a0) a1), xo a5 (and64 .u64 (not64 .u64 a6) a7), xo a6 (and64 .u64 (not64 .u64 a7) a8), xo a7 (and64 .u64 (not64 .u64 a8) a9), xo a8 (and64 .u64 (not64 .u64 a9) a5), xo a9 (and64 .u64 (not64 .u64 a5) a6), xo a10 (and64 .u64 (not64 .u64 a11) a12), xo a11 (and64 .u64 (not64 .u64 a12) a13), xo a12 (and64 .u64 (not64 .u64 a13) a14), xo a13 (and64 .u64 (not64 .u64 a14) a10), xo a14 (and64 .u64 (not64 .u64 a10) a11), xo a15 (and64 .u64 (not64 .u64 a16) a17), xo a16 (and64 .u64 (not64 .u64 a17) a18), xo a17 (and64 .u64 (not64 .u64 a18) a19), xo a18 (and64 .u64 (not64 .u64 a19) a15), xo a19 (and64 .u64 (not64 .u64 a15) a16), xo a20 (and64 .u64 (not64 .u64 a21) a22), xo a21 (and64 .u64 (not64 .u64 a22) a23), xo a22 (and64 .u64 (not64 .u64 a23) a24), xo a23 (and64 .u64 (not64 .u64 a24) a20), xo a24 (and64 .u64 (not64 .u64 a20) a21)] := by kernel_rfl
theorem q6_form (a0 a1 a2 a3 a4 a5 a6 a7 a8 a9 a10 a11 a12 a13 a14 a15 a16 a17 a18 a19 a20 a21 a22 a23 a24 : Int) (b0 b1 b2 b3 b4 b5 b6 b7 b8 b9 b10 b11 b12 b13 b14 b15 b16 b17 b18 b19 b20 b21 b22 b23 b24 : Int) : iU (q6 [a0, a1, a2, a3, a4, a5, a6, a7, a8, a9, a10, a11, a12, a13, a14, a15, a16, a17, a18, a19, a20, a21, a22, a23, a24]) 5 [b0, b1, b2, b3, b4, b5, b6, b7, b8, b9, b10, b11, b12, b13, b14, b15, b16, b17, b18, b19, b20, b21, b22, b23, b24] = [xo a0 (and64 .u64 (not64 .u64 a1) a2), xo a1 (and64 .u64 (not64 .u64 a2) a3), xo a2 (and64 .u64 (not64 .u64 a3) a4), xo a3 (and64 .u64 (not64 .u64 a4) a0), xo a4 (and64 .u64 (not64 .u64 a0) a1), xo a5 (and64 .u64 (not64 .u64 a6) a7), xo a6 (and64 .u64 (not64 .u64 a7) a8), xo a7 (and64 .u64 (not64 .u64 a8) a9), xo a8 (and64 .u64 (not64 .u64 a9) a5), xo a9 (and64 .u64 (not64 .u64 a5) a6), xo a10 (and64 .u64 (not64 .u64 a11) a12), xo a11 (and64 .u64 (not64 .u64 a12) a13), xo a12 (and64 .u64 (not64 .u64 a13) a14), xo a13 (and64 .u64 (not64 .u64 a14) a10), xo a14 (and64 .u64 (not64 .u64 a10) a11), xo a15 (and64 .u64 (not64 .u64 a16) a17), xo a16 (and64 .u64 (not64 .u64 a17) a18), xo a17 (and64 .u64 (not64 .u64 a18) a19), xo a18 (and64 .u64 (not64 .u64 a19) a15), xo a19 (and64 .u64 (not64 .u64 a15) a16), xo a20 (and64 .u64 (not64 .u64 a21) a22), xo a21 (and64 .u64 (not64 .u64 a22) a23), xo a22 (and64 .u64 (not64 .u64 a23) a24), xo a23 (and64 .u64 (not64 .u64 a24) a20), xo a24 (and64 .u64 (not64 .u64 a20) a21)] := by kernel_rfl
theorem last_eq {b m a : List Int} (hb : b.length = 25) (hm : m.length = 25) (ha : a.length = 25) : iU (p4 b) 25 m = iU (q6 b) 5 a := by
  rw [p4_eq]
  obtain ⟨a0, a1, a2, a3, a4, a5, a6, a7, a8, a9, a10, a11, a12, a13, a14, a15, a16, a17, a18, a19, a20, a21, a22, a23, a24, rfl⟩ := len25 hb
  obtain ⟨b0, b1, b2, b3, b4, b5, b6, b7, b8, b9, b10, b11, b12, b13, b14, b15, b16, b17, b18, b19, b20, b21, b22, b23, b24, rfl⟩ := len25 hm
  obtain ⟨c0, c1, c2, c3, c4, c5, c6, c7, c8, c9, c10, c11, c12, c13, c14, c15, c16, c17, c18, c19, c20, c21, c22, c23, c24, rfl⟩ := len25 ha
  rw [p4_form, q6_form]
theorem round_eq {m : List Int} {rc : Int} (h : okLanes m) : roundP m rc = roundQ m rc := by
  unfold roundP roundQ
  dsimp only
  have h1 := sums_eq h
  unfold cs at h1
  rw [h1]
  have hc : (iU (q2 m) 5 (nZ 5)).length = 5 := by rw [q2_len, nZ_len]
  have ha : (iU (q3 (iU (q2 m) 5 (nZ 5))) 25 m).length = 25 := by rw [q3_len]; exact h.1
  rw [moved_eq h.1]
  rw [last_eq (a := iU (q3 (iU (q2 m) 5 (nZ 5))) 25 m) (by rw [q4_len, nZ_len]) h.1 ha]
theorem round_ok {m : List Int} {rc : Int} (h : okLanes m) : okLanes (roundP m rc) := by
  have hl : (roundP m rc).length = 25 := by
    unfold roundP; dsimp only; rw [List.length_set, p4_len]; exact h.1
  refine ⟨hl, ?_⟩
  unfold roundP
  dsimp only
  have hb : (iU (p3 m (iU (p2 m) 25 (nZ 5))) 25 (nZ 25)).length = 25 := by rw [p3_len, nZ_len]
  generalize iU (p3 m (iU (p2 m) 25 (nZ 5))) 25 (nZ 25) = b at hb
  have key : ∀ k, k ≤ 25 → ∀ i, i < k → ∀ hi : i < (iU (p4 b) k m).length, u64b (iU (p4 b) k m)[i] := by
    intro k
    induction k with
    | zero => intro _ i hi; omega
    | succ k ih =>
      intro hk i hi hlen
      simp only [iU, p4]
      rw [List.getElem_set]
      split
      · exact xo_b _ _
      · exact ih (by omega) i (by omega) (by simpa [iU, p4] using hlen)
  intro x hx
  rcases List.mem_or_eq_of_mem_set hx with h1 | h1
  · obtain ⟨i, hi, rfl⟩ := List.getElem_of_mem h1
    exact key 25 (by omega) i (by rw [p4_len] at hi; have := h.1; omega) hi
  · rw [h1]; exact xo_b _ _
end Go.AI.Fn

set_option linter.unusedVariables false
set_option linter.unusedSimpArgs false
set_option maxRecDepth 10000
namespace Go.AI.Fn

def rcL : List Int := [1, 32898, 9223372036854808714, 9223372039002292224, 32907, 2147483649, 9223372039002292353, 9223372036854808585, 138, 136, 2147516425, 2147483658, 2147516555, 9223372036854775947, 9223372036854808713, 9223372036854808579, 9223372036854808578, 9223372036854775936, 32778, 9223372039002259466, 9223372039002292353, 9223372036854808704, 2147483649, 9223372039002292232]
theorem rcL_eq : [1, 32898, 9223372036854808714, 9223372039002292224, 32907, 2147483649, 9223372039002292353, 9223372036854808585, 138, 136, 2147516425, 2147483658, 2147516555, 9223372036854775947, 9223372036854808713, 9223372036854808579, 9223372036854808578, 9223372036854775936, 32778, 9223372039002259466, 9223372039002292353, 9223372036854808704, 2147483649, 9223372039002292232] = rcL := rfl
theorem shiftL_eq : [0, 1, 62, 28, 27, 36, 44, 6, 55, 20, 3, 10, 43, 25, 39, 41, 45, 15, 21, 8, 18, 2, 61, 56, 14] = shiftL := rfl
theorem rcL_len : rcL.length = 24 := rfl
def rdP (k : Nat) (m : List Int) : List Int := roundP m (rcL.getD k 0)
/-- The permutation. -/
def permM (m : List Int) : List Int := iU rdP 24 m
theorem rd_succ (k : Nat) (m : List Int) : iU rdP (k + 1) m = roundP (iU rdP k m) (rcL.getD k 0) := by rw [iU, rdP]
theorem rd_ok {m : List Int} (h : okLanes m) : ∀ k, okLanes (iU rdP k m)
  | 0 => h
  | k + 1 => by rw [rd_succ]; exact round_ok (rd_ok h k)
theorem perm_ok {m : List Int} (h : okLanes m) : okLanes (permM m) := rd_ok h 24
theorem i_permute_eq {m : List Int} (h : okLanes m) : i_lanes_permute m = some (permM m) := by
  unfold i_lanes_permute
  have key : Loop (i_lanes_permute_1_s shiftL rcL rcL) (m, 0) = some (permM m, 24, false) :=
    Loop_for (fun k => (iU rdP k m, (k : Int))) 24 (fun k hk => by
      have h1 := rd_ok h k
      have hl1 := h1.1
      have hr := rcL_len
      simp only [i_lanes_permute_1_s]
      simp (disch := omega) only [brd, brdd, get_bind, wrap_i64]
      rw [loop_p2 h1.1, Option.bind_some, loop_p3 h1.1 (by rw [p2_len, nZ_len]), Option.bind_some, brd (by rw [p3_len, nZ_len]), loop_p4 h1.1 (by rw [p3_len, nZ_len]), Option.bind_some]
      have hl := p4_len (iU (p3 (iU rdP k m) (iU (p2 (iU rdP k m)) 25 (nZ 5))) 25 (nZ 25)) 25 (iU rdP k m)
      simp (disch := omega) only [get_bind, brd]
      rw [rd_succ]
      unfold roundP
      simp only [cast_succ, Int.toNat_natCast]) (by simp (disch := omega) only [i_lanes_permute_1_s, brn]; rfl)
  rw [rcL_eq, shiftL_eq, key, Option.bind_some]
theorem s_permute_eq {m : List Int} (h : okLanes m) : s_l03Permute m = some (permM m) := by
  unfold s_l03Permute
  have key : Loop (s_l03Permute_1_s (nZ 25) rcL shiftL) (m, 0) = some (permM m, 24, false) :=
    Loop_for (fun k => (iU rdP k m, (k : Int))) 24 (fun k hk => by
      have h1 := rd_ok h k
      have hl1 := h1.1
      have hr := rcL_len
      simp only [s_l03Permute_1_s]
      rw [brd (by omega), loop_q2 h1.1, Option.bind_some, loop_q3 h1.1 (by rw [q2_len, nZ_len]), Option.bind_some, loop_q4 (nZ_len 25) (by rw [q3_len]; exact h1.1), Option.bind_some,
        loop_q6 (by rw [q3_len]; exact h1.1) (by rw [q4_len, nZ_len]), Option.bind_some]
      have hl := q6_len (iU (q4 (iU (q3 (iU (q2 (iU rdP k m)) 5 (nZ 5))) 25 (iU rdP k m))) 5 (nZ 25)) 5 (iU (q3 (iU (q2 (iU rdP k m)) 5 (nZ 5))) 25 (iU rdP k m))
      rw [q3_len] at hl
      simp (disch := omega) only [get_bind, brd, brdd, wrap_i64]
      rw [rd_succ, round_eq h1]
      unfold roundQ
      simp only [cast_succ, Int.toNat_natCast]) (by simp (disch := omega) only [s_l03Permute_1_s, brn]; rfl)
  have hp := (perm_ok h).1
  rw [brd h.1]
  show (some rcL).bind _ = _
  rw [Option.bind_some, brd rcL_len]
  show (some shiftL).bind _ = _
  rw [Option.bind_some, brd shift_len, key, Option.bind_some, brd hp, brd hp, brd hp]

theorem atL_u8 {l : List UInt8} {k : Nat} (h : k < l.length) : atL l (k : Int) = some (l.getD k 0) := by simp [atL, h]
def lnS (t : List UInt8) (k : Nat) (l : List Int) : List Int := l.set ((k : Int) / 8).toNat (or64 .u64 (g l ((k : Int) / 8)) (shl64 .u64 (IntKind.wrap .u64 ((t.getD k 0).toNat : Int)) (8 * ((k : Int) % 8))))
/-- The lanes that bytes are. -/
def lanesM (t : List UInt8) : List Int := iU (lnS t) t.length (nZ 25)
theorem lnS_len (t : List UInt8) (k : Nat) (l : List Int) : (iU (lnS t) k l).length = l.length := iU_len (fun _ _ => List.length_set) k l
theorem lanes_ok (t : List UInt8) : okLanes (lanesM t) := by
  refine ⟨by rw [lanesM, lnS_len, nZ_len], ?_⟩
  have key : ∀ k, ∀ x ∈ iU (lnS t) k (nZ 25), u64b x := by
    intro k
    induction k with
    | zero => intro x hx; simp only [iU, nZ, List.mem_replicate] at hx; rw [hx.2]; exact ⟨by decide, by decide⟩
    | succ k ih =>
      intro x hx
      rcases List.mem_or_eq_of_mem_set hx with h1 | h1
      · exact ih x h1
      · rw [h1]; exact wrapu_b _
  exact key _
theorem i_lanesOf_eq {t : List UInt8} (h : t.length ≤ 200) : i_lanesOf t = some (lanesM t) := by
  unfold i_lanesOf
  have key : Loop (i_lanesOf_1_s (nZ 25) t ((t.length : Nat) : Int)) (nZ 25, 0) = some (lanesM t, (t.length : Int), false) :=
    Loop_for (fun k => (iU (lnS t) k (nZ 25), (k : Int))) t.length (fun k hk => by
      have hl := lnS_len t k (nZ 25)
      rw [nZ_len] at hl
      simp only [i_lanesOf_1_s]
      simp (disch := omega) only [brd, tmod_nn, tdiv_nn, brdd, get_bind, wrap_i64, atL_u8, Option.bind_some]
      rfl) (by simp (disch := omega) only [i_lanesOf_1_s, brn]; simp; rfl)
  have hl := (lanes_ok t).1
  rw [key, Option.bind_some, brd hl, brd hl, brd hl]
theorem s_lanes_eq {t : List UInt8} (h : t.length ≤ 200) : s_l03Lanes t = some (lanesM t) := by
  unfold s_l03Lanes
  have key : Loop (s_l03Lanes_1_s (nZ 25) t) (nZ 25, 0) = some (lanesM t, (t.length : Int), false) :=
    Loop_for (fun k => (iU (lnS t) k (nZ 25), (k : Int))) t.length (fun k hk => by
      have hl := lnS_len t k (nZ 25)
      rw [nZ_len] at hl
      simp only [s_l03Lanes_1_s]
      simp (disch := omega) only [brd, tmod_nn, tdiv_nn, brdd, get_bind, wrap_i64, wrap_u64, atL_u8, Option.bind_some]
      rfl) (by simp (disch := omega) only [s_l03Lanes_1_s, brn]; simp; rfl)
  have hl := (lanes_ok t).1
  rw [key, Option.bind_some, brd hl, brd hl, brd hl]

def txB (m : List Int) (i : Nat) : UInt8 := UInt8.ofInt (shr64 .u64 (g m ((i : Int) / 8)) (8 * ((i : Int) % 8)))
def textM (m : List Int) (n : Nat) : List UInt8 := (List.range n).map (txB m)
theorem textM_len (m : List Int) (n : Nat) : (textM m n).length = n := by simp [textM]
theorem textM_succ (m : List Int) (n : Nat) : textM m (n + 1) = textM m n ++ [txB m n] := by simp [textM, List.range_succ]
theorem i_text_eq {m : List Int} (h : m.length = 25) : i_lanes_text m = some (textM m 200, m) := by
  unfold i_lanes_text
  have key : Loop (i_lanes_text_1_s m) ([], 0) = some (textM m 200, 200, false) :=
    Loop_for (fun k => (textM m k, (k : Int))) 200 (fun k hk => by
      have hl := textM_len m k
      simp only [i_lanes_text_1_s]
      simp (disch := omega) only [brd, tmod_nn, tdiv_nn, brdd, get_bind, wrap_i64]
      rw [br_fits (by simp only [List.length_append, List.length_cons, List.length_nil]; omega), textM_succ]
      rfl) (by simp (disch := omega) only [i_lanes_text_1_s, brn]; rfl)
  rw [key]; rfl
theorem s_text_eq {m : List Int} (h : m.length = 25) {n : Nat} (hn : n ≤ 200) : s_l03Text m n = some (textM m n) := by
  unfold s_l03Text
  have key : Loop (s_l03Text_1_s m n) ([], 0) = some (textM m n, (n : Int), false) :=
    Loop_for (fun k => (textM m k, (k : Int))) n (fun k hk => by
      have hl := textM_len m k
      simp only [s_l03Text_1_s]
      simp (disch := omega) only [brd, tmod_nn, tdiv_nn, brdd, get_bind, wrap_i64, wrap_u64]
      rw [br_fits (by simp only [List.length_append, List.length_cons, List.length_nil]; omega), textM_succ]
      rfl) (by simp (disch := omega) only [s_l03Text_1_s, brn]; simp)
  rw [brd h, key]; rfl
end Go.AI.Fn

set_option linter.unusedVariables false
set_option linter.unusedSimpArgs false
namespace Go.AI.Fn

def xoS (t : List Int) (k : Nat) (l : List Int) : List Int := l.set k (xo (g l k) (g t k))
def xorM (t m : List Int) : List Int := iU (xoS t) 25 m
theorem xoS_len (t : List Int) (k : Nat) (l : List Int) : (iU (xoS t) k l).length = l.length := iU_len (fun _ _ => List.length_set) k l
theorem xor_ok {t m : List Int} (h : okLanes m) : okLanes (xorM t m) := by
  refine ⟨by rw [xorM, xoS_len]; exact h.1, ?_⟩
  have key : ∀ k, ∀ x ∈ iU (xoS t) k m, u64b x := by
    intro k
    induction k with
    | zero => exact h.2
    | succ k ih =>
      intro x hx
      rcases List.mem_or_eq_of_mem_set hx with h1 | h1
      · exact ih x h1
      · rw [h1]; exact wrapu_b _
  exact key _
theorem i_xor_eq {l5 a : List UInt8} {t m : List Int} (ht : t.length = 25) (h : m.length = 25) : Loop (i_keccak_4_s l5 a t) (m, 0) = some (xorM t m, 25, false) :=
  Loop_for (fun k => (iU (xoS t) k m, (k : Int))) 25 (fun k hk => by
    have hl := xoS_len t k m
    simp only [i_keccak_4_s]
    simp (disch := omega) only [brd, brdd, get_bind, wrap_i64]
    rfl) (by simp (disch := omega) only [i_keccak_4_s, brn]; rfl)
theorem s_xor_eq {l5 a : List UInt8} {p : Int} {t m : List Int} (ht : t.length = 25) (h : m.length = 25) : Loop (s_l03Hash_3_s l5 t a p) (m, 0) = some (xorM t m, 25, false) :=
  Loop_for (fun k => (iU (xoS t) k m, (k : Int))) 25 (fun k hk => by
    have hl := xoS_len t k m
    simp only [s_l03Hash_3_s]
    simp (disch := omega) only [brd, brdd, get_bind, wrap_i64]
    rfl) (by simp (disch := omega) only [s_l03Hash_3_s, brn]; rfl)

/-- One block taken in. -/
def absB (a : List UInt8) (k : Nat) (m : List Int) : List Int := permM (xorM (lanesM ((a.drop (136 * k)).take 136)) m)
def absM (a : List UInt8) (n : Nat) : List Int := iU (absB a) n (nZ 25)
theorem nZ_ok : okLanes (nZ 25) := ⟨nZ_len 25, fun x hx => by simp only [nZ, List.mem_replicate] at hx; rw [hx.2]; exact ⟨by decide, by decide⟩⟩
theorem abs_succ (a : List UInt8) (n : Nat) : absM a (n + 1) = permM (xorM (lanesM ((a.drop (136 * n)).take 136)) (absM a n)) := by
  unfold absM; rw [iU, absB]
theorem abs_ok (a : List UInt8) : ∀ n, okLanes (absM a n)
  | 0 => nZ_ok
  | n + 1 => by rw [abs_succ]; exact perm_ok (xor_ok (abs_ok a n))

theorem i_abs_eq {l4 a : List UInt8} {n : Nat} (h : a.length = 136 * n) (hn : n ≤ 1000000000) : Loop (i_keccak_3_s l4) (nZ 25, a) = some (absM a n, [], false) :=
  Loop_for (fun k => (absM a k, a.drop (136 * k))) n (fun k hk => by
    have h1 := abs_ok a k
    have hx := xor_ok (t := lanesM ((a.drop (136 * k)).take 136)) h1
    simp only [i_keccak_3_s]
    rw [brd (by rw [List.length_drop]; omega), subL_of (by omega) (by omega) (by rw [List.length_drop]; omega), Option.bind_some, subL_of (by omega) (by rw [List.length_drop]; omega) (by omega)]
    have e1 : (List.drop (Int.toNat 0) (List.drop (136 * k) a)).take (Int.toNat 136 - Int.toNat 0) = (a.drop (136 * k)).take 136 := rfl
    have e2 : (List.drop (Int.toNat 136) (List.drop (136 * k) a)).take ((((List.drop (136 * k) a).length : Nat) : Int).toNat - Int.toNat 136) = a.drop (136 * (k + 1)) := by
      rw [List.drop_drop, List.take_of_length_le (by rw [List.length_drop, List.length_drop]; simp; omega)]
      congr 1
    rw [e1, e2, i_lanesOf_eq (by rw [List.length_take]; omega), Option.bind_some, i_xor_eq (lanes_ok _).1 h1.1, Option.bind_some, i_permute_eq hx, Option.bind_some, Option.bind_some, abs_succ]) (by
    simp only [i_keccak_3_s]
    rw [brn (by rw [List.length_drop]; omega), List.drop_eq_nil_of_le (by omega)]
    rfl)
theorem s_abs_eq {l3 a : List UInt8} {n : Nat} (h : a.length = 136 * n) (hn : n ≤ 1000000000) : ∃ p, Loop (s_l03Hash_2_s l3 a) (nZ 25, 0) = some (absM a n, p) :=
  ⟨_, Loop_for (fun k => (absM a k, ((136 * k : Nat) : Int))) n (fun k hk => by
    have h1 := abs_ok a k
    have hx := xor_ok (t := lanesM ((a.drop (136 * k)).take 136)) h1
    simp only [s_l03Hash_2_s]
    rw [brd (by omega), wrap_i64 _ (by omega) (by omega), subL_of (by omega) (by omega) (by omega), Option.bind_some]
    have e1 : (List.drop (((136 * k : Nat) : Int)).toNat a).take (((((136 * k : Nat) : Int)) + 136).toNat - (((136 * k : Nat) : Int)).toNat) = (a.drop (136 * k)).take 136 := by
      congr 1
      omega
    rw [e1, s_lanes_eq (by rw [List.length_take]; omega), Option.bind_some, brd (lanes_ok _).1, s_xor_eq (lanes_ok _).1 h1.1, Option.bind_some, brd hx.1, s_permute_eq hx, Option.bind_some, brdd (perm_ok hx).1 hx.1, abs_succ]
    have e2 : (((136 * k : Nat) : Int)) + 136 = ((136 * (k + 1) : Nat) : Int) := by omega
    rw [e2]) (by
    simp only [s_l03Hash_2_s]
    rw [brn (by omega)])⟩

/-- Noughts behind a text, up to a whole number of blocks. -/
def padZ (l : List UInt8) : List UInt8 := l ++ List.replicate ((136 - l.length % 136) % 136) 0
theorem padZ_len (l : List UInt8) : (padZ l).length = 136 * ((l.length + 135) / 136) := by
  rw [padZ, List.length_append, List.length_replicate]; omega
theorem rep_snoc {α : Type} (n : Nat) (x : α) : List.replicate (n + 1) x = List.replicate n x ++ [x] := by
  rw [List.replicate_succ']
theorem i_pad_eq {c l : List UInt8} (h : l.length ≤ 1000000000) : Loop (i_keccak_2_s c) l = some (padZ l, false) := by
  have key := Loop_for (step := i_keccak_2_s c) (e := (padZ l, false)) (fun k => l ++ List.replicate k 0) ((136 - l.length % 136) % 136) (fun k hk => by
    simp only [i_keccak_2_s]
    rw [tmod_nn _ _ (by omega), brb (by rw [List.length_append, List.length_replicate]; omega), br_fits (by simp only [List.length_append, List.length_replicate, List.length_cons, List.length_nil]; omega), rep_snoc, List.append_assoc]) (by
    simp only [i_keccak_2_s]
    have e : ((((l ++ List.replicate ((136 - l.length % 136) % 136) (0 : UInt8)).length : Nat) : Int).tmod 136) = 0 := by
      rw [tmod_nn _ _ (by omega), List.length_append, List.length_replicate]; omega
    rw [e, brbe rfl]; rfl)
  rwa [List.replicate_zero, List.append_nil] at key
theorem s_pad_eq {c l : List UInt8} (h : l.length ≤ 1000000000) : Loop (s_l03Hash_1_s c) l = some (padZ l, false) := by
  have key := Loop_for (step := s_l03Hash_1_s c) (e := (padZ l, false)) (fun k => l ++ List.replicate k 0) ((136 - l.length % 136) % 136) (fun k hk => by
    simp only [s_l03Hash_1_s]
    rw [tmod_nn _ _ (by omega), brb (by rw [List.length_append, List.length_replicate]; omega), br_fits (by simp only [List.length_append, List.length_replicate, List.length_cons, List.length_nil]; omega), rep_snoc, List.append_assoc]) (by
    simp only [s_l03Hash_1_s]
    have e : ((((l ++ List.replicate ((136 - l.length % 136) % 136) (0 : UInt8)).length : Nat) : Int).tmod 136) = 0 := by
      rw [tmod_nn _ _ (by omega), List.length_append, List.length_replicate]; omega
    rw [e, brbe rfl]; rfl)
  rwa [List.replicate_zero, List.append_nil] at key

/-- The last byte's highest bit, set too. -/
def padM (b : List UInt8) : List UInt8 := (padZ (b ++ [1])).set ((padZ (b ++ [1])).length - 1) (UInt8.ofInt (or64 .u8 (((padZ (b ++ [1])).getD ((padZ (b ++ [1])).length - 1) 0).toNat : Int) 128))
/-- The hash. -/
def H (b : List UInt8) : List UInt8 := textM (absM (padM b) ((b.length + 136) / 136)) 32
theorem H_len (b : List UInt8) : (H b).length = 32 := textM_len _ _
theorem padM_len (b : List UInt8) : (padM b).length = 136 * ((b.length + 136) / 136) := by
  rw [padM, List.length_set, padZ_len, List.length_append, List.length_singleton]
theorem get_u8 {β : Type} {l : List UInt8} {i : Nat} {f : UInt8 → Option β} (h : i < l.length) : (l[i]?).bind f = f (l.getD i 0) := by simp [h]
theorem textM_take (m : List Int) : (textM m 200).take 32 = textM m 32 := by
  rw [textM, ← List.map_take, List.take_range]; rfl

theorem s_hash_eq {b : List UInt8} (h : b.length ≤ 100000000) : s_l03Hash b = some (H b) := by
  unfold s_l03Hash
  have hl := padZ_len (b ++ [1])
  rw [List.length_append, List.length_singleton] at hl
  have hpl := padM_len b
  rw [br_fits (by omega), br_fits (by rw [List.length_append, List.length_singleton]; omega), s_pad_eq (by rw [List.length_append, List.length_singleton]; omega), Option.bind_some]
  dsimp only
  rw [wrap_i64 _ (by omega) (by omega)]
  have ei : (((padZ (b ++ [1])).length : Int) - 1).toNat = (padZ (b ++ [1])).length - 1 := by omega
  rw [ei]
  simp (disch := omega) only [brd, get_u8]
  obtain ⟨p, hp⟩ := s_abs_eq (l3 := [1]) hpl (by omega)
  unfold padM at hp
  rw [hp, Option.bind_some]
  dsimp only
  have ok := abs_ok (padM b) ((b.length + 136) / 136)
  unfold padM at ok
  rw [brd ok.1]
  have ht := s_text_eq (n := 32) ok.1 (by omega)
  rw [show ((32 : Nat) : Int) = 32 from rfl] at ht
  rw [ht, Option.bind_some, H, padM]

theorem flat_pieces {l : List (List UInt8)} (h : l.flatten.length ≤ 1000000000) (hn : l.length ≤ 1000000) : Loop (i_keccak_1_s l ((l.length : Nat) : Int)) ([], 0) = some (l.flatten, (l.length : Int), false) :=
  Loop_for (fun k => ((l.take k).flatten, (k : Int))) l.length (fun k hk => by
    simp only [i_keccak_1_s]
    have h1 : ((l.take k).flatten ++ l[k]).length ≤ l.flatten.length := by
      have e : l.flatten = (l.take (k + 1)).flatten ++ (l.drop (k + 1)).flatten := by rw [← List.flatten_append, List.take_append_drop]
      rw [take_succ hk, List.flatten_append, List.flatten_singleton] at e
      have e2 := congrArg List.length e
      simp only [List.length_append] at e2 ⊢
      omega
    rw [brd (by omega), atL_nat hk, Option.bind_some, br_fits (by omega), wrap_i64 _ (by omega) (by omega), take_succ hk, List.flatten_append, List.flatten_singleton]
    rfl) (by
    simp only [i_keccak_1_s]
    rw [brn (by omega), List.take_length]; simp)
theorem i_keccak_eq {l : List (List UInt8)} (h : l.flatten.length ≤ 100000000) (hn : l.length ≤ 1000000) : i_keccak l = some (H l.flatten) := by
  unfold i_keccak
  rw [flat_pieces (by omega) hn, Option.bind_some]
  dsimp only
  generalize l.flatten = b at h
  have hl := padZ_len (b ++ [1])
  rw [List.length_append, List.length_singleton] at hl
  have hpl := padM_len b
  rw [br_fits (by rw [List.length_append, List.length_singleton]; omega), i_pad_eq (by rw [List.length_append, List.length_singleton]; omega), Option.bind_some]
  dsimp only
  rw [wrap_i64 _ (by omega) (by omega)]
  have ei : (((padZ (b ++ [1])).length : Int) - 1).toNat = (padZ (b ++ [1])).length - 1 := by omega
  rw [ei]
  simp (disch := omega) only [brd, get_u8]
  have hp := i_abs_eq (l4 := [1]) hpl (by omega)
  unfold padM at hp
  rw [hp, Option.bind_some]
  dsimp only
  have ok := abs_ok (padM b) ((b.length + 136) / 136)
  unfold padM at ok
  rw [i_text_eq ok.1, Option.bind_some, subL_of (by omega) (by omega) (by rw [textM_len]; omega), Option.bind_some, H, padM, ← textM_take]
  rfl
end Go.AI.Fn

set_option linter.unusedVariables false
namespace Go.AI.Fn

theorem at_ok {a : List UInt8} {i n : Int} (hl : a.length ≤ 1048576) (hi0 : 0 ≤ i) (hi1 : i ≤ 1099511627776) (hn : 1 < n) : ∃ x, w_at a i n = some x ∧ 0 ≤ x ∧ x < n := by
  unfold w_at
  rw [brn (by omega)]
  by_cases c : ((a.length : Nat) : Int) = 0
  · rw [bre c, brd (by omega), wrap_i64 _ (by omega) (by omega), tmod_nn _ _ (by omega)]
    exact ⟨_, rfl, Int.emod_nonneg _ (by omega), Int.emod_lt_of_pos _ (by omega)⟩
  · rw [brne c, brd c, tmod_nn _ _ hi0]
    have h1 := Int.emod_nonneg i c
    have h2 := Int.emod_lt_of_pos i (b := (a.length : Int)) (by omega)
    obtain ⟨x, hx, _, _⟩ := atL_of (l := a) h1 h2
    have h3 := Int.emod_nonneg (i + 1) c
    have h4 := Int.emod_lt_of_pos (i + 1) (b := (a.length : Int)) (by omega)
    obtain ⟨y, hy, _, _⟩ := atL_of (l := a) h3 h4
    have bx := u8_lt x
    have bz := u8_lt y
    have h5 : 0 ≤ i / (a.length : Int) := Int.ediv_nonneg hi0 (by omega)
    have h6 : i / (a.length : Int) ≤ i := Int.ediv_le_self _ hi0
    rw [hx]
    simp only [Option.bind_some]
    rw [brd c, wrap_i64 (i + 1) (by omega) (by omega), tmod_nn _ _ (by omega), hy]
    simp only [Option.bind_some]
    rw [brd c, brd (by omega), tdiv_nn _ _ hi0]
    generalize i / ((a.length : Nat) : Int) = q at h5 h6 ⊢
    rw [wrap_i64 q (by omega) (by omega), wrap_i64 (x.toNat : Int) (by omega) (by omega), wrap_i64 (y.toNat : Int) (by omega) (by omega), wrap_i64 ((x.toNat : Int) * 31) (by omega) (by omega), wrap_i64 ((x.toNat : Int) * 31 + (y.toNat : Int)) (by omega) (by omega), wrap_i64 _ (by omega) (by omega), tmod_nn _ _ (by omega)]
    exact ⟨_, rfl, Int.emod_nonneg _ (by omega), Int.emod_lt_of_pos _ (by omega)⟩

def four (n : Int) : List UInt8 := [UInt8.ofInt (shr64 .i64 n 24), UInt8.ofInt (shr64 .i64 n 16), UInt8.ofInt (shr64 .i64 n 8), UInt8.ofInt n]
def e8 (x : Ext) : List UInt8 := four x.A ++ four x.B
theorem four_len (n : Int) : (four n).length = 4 := rfl
theorem e8_len (x : Ext) : (e8 x).length = 8 := rfl
theorem i_fouro_eq {n : Int} {l : List UInt8} (h : l.length ≤ 1099511627770) : i_four_o n l = some (l ++ four n) := by
  unfold i_four_o
  rw [br_of (fits_of (by simp only [List.length_append, List.length_cons, List.length_nil]; omega))]; rfl
theorem shr0 (n : Int) : shr64 .i64 n 0 = n := by simp [shr64]
theorem number4 (n : Int) : s_l02Number n 4 = some (four n) := by
  unfold s_l02Number
  rw [show IntKind.wrap .i64 (4 - 1) = 3 by decide,
    Loop_inl (s' := ([UInt8.ofInt (shr64 .i64 n 24)], 2)) (by kernel_rfl),
    Loop_inl (s' := ([UInt8.ofInt (shr64 .i64 n 24), UInt8.ofInt (shr64 .i64 n 16)], 1)) (by kernel_rfl),
    Loop_inl (s' := ([UInt8.ofInt (shr64 .i64 n 24), UInt8.ofInt (shr64 .i64 n 16), UInt8.ofInt (shr64 .i64 n 8)], 0)) (by kernel_rfl),
    Loop_inl (s' := ([UInt8.ofInt (shr64 .i64 n 24), UInt8.ofInt (shr64 .i64 n 16), UInt8.ofInt (shr64 .i64 n 8), UInt8.ofInt (shr64 .i64 n 0)], -1)) (by kernel_rfl),
    Loop_inr (e := ([UInt8.ofInt (shr64 .i64 n 24), UInt8.ofInt (shr64 .i64 n 16), UInt8.ofInt (shr64 .i64 n 8), UInt8.ofInt (shr64 .i64 n 0)], -1, false)) (by kernel_rfl), shr0]
  rfl

theorem i_extBytes_eq {l : List Ext} (hl : l.length ≤ 4194304) : i_extBytes l = some (l.flatMap e8) := by
  unfold i_extBytes
  have key := Loop_inv (step := i_extBytes_1_s l ((l.length : Nat) : Int))
    (fun s => 0 ≤ s.2 ∧ s.2 ≤ l.length ∧ (s.1.length : Int) = 8 * s.2 ∧ s.1 ++ (l.drop s.2.toNat).flatMap e8 = l.flatMap e8) (fun s => (l.length - s.2).toNat)
    (fun e => e.1 = l.flatMap e8) ?_ ([], 0) ⟨by first | omega | (dsimp only; omega), by first | omega | (dsimp only; omega), by simp, rfl⟩
  · obtain ⟨e, he, h⟩ := key
    rw [he]; simp only [Option.bind_some, h]
  · rintro ⟨o, t⟩ ⟨h0, h1, h3, h2⟩
    dsimp only at h0 h1 h2 h3
    by_cases c : t < (l.length : Int)
    · left
      obtain ⟨x, r, e1, e2, e3⟩ := drop_cons (l := l) (i := t.toNat) (by omega)
      simp only [i_extBytes_1_s]
      rw [brd c, atL_drop h0 e1]
      simp only [Option.bind_some]
      rw [i_fouro_eq (by omega)]
      simp only [Option.bind_some]
      rw [i_fouro_eq (by simp only [List.length_append, four_len]; omega), wrap_i64 (t + 1) (by omega) (by omega)]
      refine ⟨_, rfl, ⟨by first | omega | (dsimp only; omega), by first | omega | (dsimp only; omega), ?_, ?_⟩, by first | omega | (dsimp only; omega)⟩
      · simp only [List.length_append, four_len]; omega
      · dsimp only
        rw [show (t + 1).toNat = t.toNat + 1 by omega, e2]
        rw [e1, List.flatMap_cons] at h2
        simpa [e8] using h2
    · right
      simp only [i_extBytes_1_s]
      rw [brn c]
      refine ⟨_, rfl, ?_⟩
      rw [List.drop_eq_nil_of_le (by omega)] at h2
      simpa using h2

theorem s_bytes_eq {l : List Ext} (hl : l.length ≤ 4194304) : s_l02Bytes l = some (l.flatMap e8) := by
  unfold s_l02Bytes
  have key := Loop_inv (step := s_l02Bytes_1_s l)
    (fun s => 0 ≤ s.2 ∧ s.2 ≤ l.length ∧ (s.1.length : Int) = 8 * s.2 ∧ s.1 ++ (l.drop s.2.toNat).flatMap e8 = l.flatMap e8) (fun s => (l.length - s.2).toNat)
    (fun e => e.1 = l.flatMap e8) ?_ ([], 0) ⟨by first | omega | (dsimp only; omega), by first | omega | (dsimp only; omega), by simp, rfl⟩
  · obtain ⟨e, he, h⟩ := key
    rw [he]; simp only [Option.bind_some, h]
  · rintro ⟨o, t⟩ ⟨h0, h1, h3, h2⟩
    dsimp only at h0 h1 h2 h3
    by_cases c : t < (l.length : Int)
    · left
      obtain ⟨x, r, e1, e2, e3⟩ := drop_cons (l := l) (i := t.toNat) (by omega)
      simp only [s_l02Bytes_1_s]
      rw [brd c, atL_drop h0 e1]
      simp only [Option.bind_some, number4]
      rw [br_of (fits_of (by simp only [List.length_append, four_len]; omega)), br_of (fits_of (by simp only [List.length_append, four_len]; omega)), wrap_i64 (t + 1) (by omega) (by omega)]
      refine ⟨_, rfl, ⟨by first | omega | (dsimp only; omega), by first | omega | (dsimp only; omega), ?_, ?_⟩, by first | omega | (dsimp only; omega)⟩
      · simp only [List.length_append, four_len]; omega
      · dsimp only
        rw [show (t + 1).toNat = t.toNat + 1 by omega, e2]
        rw [e1, List.flatMap_cons] at h2
        simpa [e8] using h2
    · right
      simp only [s_l02Bytes_1_s]
      rw [brn c]
      refine ⟨_, rfl, ?_⟩
      rw [List.drop_eq_nil_of_le (by omega)] at h2
      simpa using h2

end Go.AI.Fn

set_option linter.unusedVariables false
namespace Go.AI.Fn

theorem long {l : List UInt8} (h : 8 ≤ l.length) : ∃ a b c d e f g k r, l = a :: b :: c :: d :: e :: f :: g :: k :: r := by
  match l, h with
  | a :: b :: c :: d :: e :: f :: g :: k :: r, _ => exact ⟨a, b, c, d, e, f, g, k, r, rfl⟩
end Go.AI.Fn

set_option linter.unusedVariables false
set_option linter.unusedSimpArgs false
namespace Go.AI.Fn

def tagA : List UInt8 := [97, 98, 115, 111, 114, 98]
def tagD : List UInt8 := [100, 114, 97, 119]
def tagS : List UInt8 := [115, 111, 117, 114, 99, 101]
def srcB (s : Source) : Bool := decide (s.Script.length ≤ 64) && (s.Script.all okEb && (decide (s.State.length = 32) && ((decide (0 ≤ s.At) && decide (s.At ≤ 1000000)) && (decide (0 ≤ s.Count) && decide (s.Count ≤ 1000000)))))
structure OkSrc (s : Source) : Prop where
  len : s.Script.length ≤ 64
  scr : OkEs s.Script
  st : s.State.length = 32
  a0 : 0 ≤ s.At
  a1 : s.At ≤ 1000000
  c0 : 0 ≤ s.Count
  c1 : s.Count ≤ 1000000
theorem srcB_iff {s : Source} : srcB s = true ↔ OkSrc s := by
  unfold srcB
  simp only [Bool.and_eq_true, decide_eq_true_eq, allE]
  exact ⟨fun ⟨h1, h2, h3, ⟨h4, h5⟩, h6, h7⟩ => ⟨h1, h2, h3, h4, h5, h6, h7⟩, fun h => ⟨h.1, h.2, h.3, ⟨h.4, h.5⟩, h.6, h.7⟩⟩
theorem i_isHash_eq (h : List UInt8) : i_isHash h = some (decide (h.length = 32)) := by
  unfold i_isHash
  congr 1
  by_cases c : h.length = 32
  · rw [decide_eq_true c, c]; rfl
  · rw [decide_eq_false c]; simp; omega
theorem i_SourceOK_eq {s : Source} (hl : s.Script.length ≤ 1099511627776) : i_SourceOK s = some (srcB s) := by
  unfold i_SourceOK srcB
  rw [i_areE_eq hl]
  by_cases h1 : s.Script.length ≤ 64
  · rw [brd (by omega), decide_eq_true h1, Option.bind_some, i_isHash_eq, i_in_eq, i_in_eq]
    cases s.Script.all okEb
    · rfl
    · simp only [br_true, Option.bind_some, Bool.true_and]
      cases decide (s.State.length = 32)
      · rfl
      · simp only [br_true, Bool.true_and]
        cases (decide (0 ≤ s.At) && decide (s.At ≤ 1000000)) <;> rfl
  · rw [brn (by omega), decide_eq_false h1]; rfl
theorem s_SourceOK_eq {s : Source} (hl : s.Script.length ≤ 1099511627776) : s_SourceOK s = some (srcB s) := by
  unfold s_SourceOK srcB
  rw [s_listE_eq hl]
  have e : (((s.State.length : Nat) : Int) == 32) = decide (s.State.length = 32) := by
    by_cases c : s.State.length = 32
    · rw [decide_eq_true c, c]; rfl
    · rw [decide_eq_false c]; simp; omega
  by_cases h1 : s.Script.length ≤ 64
  · rw [brd (by omega), decide_eq_true h1, Option.bind_some, s_in_eq, s_in_eq, e]
    cases s.Script.all okEb
    · rfl
    · simp only [br_true, Option.bind_some, Bool.true_and]
      cases (decide (0 ≤ s.At) && decide (s.At ≤ 1000000))
      · simp [br]
      · simp only [br_true, Bool.true_and]
        cases decide (s.State.length = 32) <;> rfl
  · rw [brn (by omega), decide_eq_false h1]; rfl

/-! ### grinding -/
theorem i_four_eq (n : Int) : i_four n = some (four n) := by
  unfold i_four; rw [br_fits (by simp only [List.length_cons, List.length_nil]; omega)]; rfl
end Go.AI.Fn

set_option linter.unusedVariables false
set_option linter.unusedSimpArgs false
namespace Go.AI.Fn

/-- A text taken in. -/
def tkM (s : Source) (t : List UInt8) : Source := ⟨s.Script, s.At, H (s.State ++ (tagA ++ (four t.length ++ t))), 0⟩
theorem tkM_ok {s : Source} (t : List UInt8) (h : OkSrc s) : OkSrc (tkM s t) := ⟨h.1, h.2, H_len _, h.4, h.5, by simp [tkM], by simp [tkM]⟩
def beN (l : List UInt8) : Int := l.foldl (fun n c => n * 256 + (c.toNat : Int)) 0
def fldM (l : List UInt8) : Int := beN l % 2130706433
/-- An element drawn. -/
def drawM (s : Source) : Source × Ext :=
  if s.Script.length = 0 then (⟨s.Script, s.At, s.State, s.Count + 1⟩, ⟨fldM ((H (s.State ++ (tagD ++ four s.Count))).take 8), fldM (((H (s.State ++ (tagD ++ four s.Count))).drop 8).take 8)⟩)
  else (⟨s.Script, s.At + 1, s.State, s.Count⟩, s.Script.getD (s.At % (s.Script.length : Int)).toNat e0)
theorem fldM_ok (l : List UInt8) : okF (fldM l) := okF_mod _
theorem drawM_ok {s : Source} (h : OkSrc s) : okE (drawM s).2 := by
  unfold drawM
  split
  · exact ⟨fldM_ok _, fldM_ok _⟩
  · exact h.scr.getD _
theorem drawM_src {s : Source} (h : OkSrc s) (ha : s.At < 1000000) (hc : s.Count < 1000000) : OkSrc (drawM s).1 := by
  unfold drawM
  split
  · exact ⟨h.1, h.2, h.3, h.4, h.5, by have := h.6; simp; omega, by simp; omega⟩
  · exact ⟨h.1, h.2, h.3, by have := h.4; simp; omega, by simp; omega, h.6, h.7⟩

theorem s_absorb_eq {s : Source} {t : List UInt8} (hs : s.State.length = 32) (ht : t.length ≤ 1000000) : s_l05Absorb s t = some (tkM s t) := by
  unfold s_l05Absorb
  have h4 := four_len ((t.length : Nat) : Int)
  rw [br_fits (by simp only [List.length_cons, List.length_nil]; omega), number4, Option.bind_some, br_fits (by simp only [List.length_append, List.length_cons, List.length_nil]; omega),
    br_fits (by simp only [List.length_append, List.length_cons, List.length_nil]; omega), s_hash_eq (by simp only [List.length_append, List.length_cons, List.length_nil]; omega), Option.bind_some, tkM]
  simp [tagA]
theorem beN_snoc (l : List UInt8) (c : UInt8) : beN (l ++ [c]) = beN l * 256 + (c.toNat : Int) := by simp [beN, List.foldl_append]
theorem s_field_eq {t : List UInt8} (h : t.length = 8) : s_l05Field t = some (fldM t) := by
  unfold s_l05Field
  have key : Loop (s_l05Field_1_s t) (0, 0) = some (fldM t, 8, false) :=
    Loop_for (fun k => (beN (t.take k) % 2130706433, (k : Int))) 8 (fun k hk => by
      have hk' : k < t.length := by omega
      have hb := u8_lt t[k]
      have hm : 0 ≤ beN (t.take k) % 2130706433 ∧ beN (t.take k) % 2130706433 < 2130706433 := by omega
      simp only [s_l05Field_1_s]
      rw [brd (by omega), atL_nat hk', Option.bind_some]
      simp (disch := omega) only [wrap_i64, tmod_nn]
      rw [take_succ hk', beN_snoc, mX1]; rfl) (by
      simp only [s_l05Field_1_s]
      rw [brn (by decide), List.take_of_length_le (by omega)]; rfl)
  rw [key]; rfl
theorem s_draw_eq {s : Source} (h : OkSrc s) : s_l05Draw s = some (drawM s) := by
  have h1 := h.1
  have h3 := h.3
  have h4 := h.4
  have h5 := h.5
  have h6 := h.6
  have h7 := h.7
  unfold s_l05Draw drawM
  by_cases hl : s.Script.length = 0
  · have hf := four_len s.Count
    rw [brn (by omega), if_pos hl, br_fits (by simp only [List.length_cons, List.length_nil]; omega), number4, Option.bind_some, br_fits (by simp only [List.length_append, List.length_cons, List.length_nil]; omega), s_hash_eq (by simp only [List.length_append, List.length_cons, List.length_nil]; omega), Option.bind_some]
    have e : s.State ++ [100, 114, 97, 119] ++ four s.Count = s.State ++ (tagD ++ four s.Count) := by simp [tagD]
    rw [e]
    have hh := H_len (s.State ++ (tagD ++ four s.Count))
    rw [subL_of (by omega) (by omega) (by omega), Option.bind_some, s_field_eq (by simp; omega), Option.bind_some, subL_of (by omega) (by omega) (by omega), Option.bind_some, s_field_eq (by simp; omega), Option.bind_some, wrap_i64 _ (by omega) (by omega)]
    rfl
  · have hr := Int.emod_nonneg s.At (b := (s.Script.length : Int)) (by omega)
    have hr2 := Int.emod_lt_of_pos s.At (b := (s.Script.length : Int)) (by omega)
    rw [brd (by omega), if_neg hl, brd (by omega), tmod_nn _ _ h4, wrap_i64 _ (by omega) (by omega)]
    have e : atL s.Script (s.At % (s.Script.length : Int)) = some (s.Script.getD (s.At % (s.Script.length : Int)).toNat e0) := by
      have := atL_e (l := s.Script) (k := (s.At % (s.Script.length : Int)).toNat) (by omega)
      rwa [Int.toNat_of_nonneg hr] at this
    rw [e]; rfl
theorem s_own_eq {s : Source} (h : s.Script.length ≤ 1000000) : s_l05Own s = some s := by
  unfold s_l05Own; rw [br_fits (by simp; omega)]; simp
theorem s_new_eq {l : List UInt8} {scr : List Ext} (h : l.length ≤ 1000000) : s_l05New l scr = some ⟨scr, 0, H (tagS ++ l), 0⟩ := by
  unfold s_l05New
  rw [br_fits (by simp only [List.length_cons, List.length_nil]; omega), s_hash_eq (by simp only [List.length_append, List.length_cons, List.length_nil]; omega), Option.bind_some]; rfl
theorem new_ok {l : List UInt8} {scr : List Ext} (h : scr.length ≤ 64) (hs : OkEs scr) : OkSrc ⟨scr, 0, H (tagS ++ l), 0⟩ := ⟨h, hs, H_len _, by simp, by simp, by simp, by simp⟩
theorem pick_ok {l : List (List UInt8)} {m : l00Src} {B : Int} (h : Src B m) (hB : B + 3 < Big) (h0 : 1 < l.length) (h1 : l.length ≤ 100) : ∃ x m', s_l00Src_pick l m = some (x, m') ∧ x ∈ l ∧ Src (B + 3) m' := by
  unfold s_l00Src_pick
  obtain ⟨x, m1, e1, x0, x1, _, s1⟩ := next_ok (n := (l.length : Int)) h (by omega)
  rw [brne (by omega), e1, Option.bind_some]
  obtain ⟨y, hy, _, hm⟩ := atL_of (l := l) x0 (by have := x1; omega)
  dsimp only
  rw [hy]
  exact ⟨_, _, rfl, hm, s1⟩

/-- A drawn source's bounds: it has drawn little. -/
structure Few (s : Source) (k : Int) : Prop where
  ok : OkSrc s
  a : s.At ≤ k
  c : s.Count ≤ k
theorem Few.mono {s : Source} {j k : Int} (h : Few s j) (hk : j ≤ k) : Few s k := ⟨h.1, by have := h.2; omega, by have := h.3; omega⟩
theorem Few.take {s : Source} {k : Int} (h : Few s k) (t : List UInt8) : Few (tkM s t) (k + 1) := ⟨tkM_ok t h.1, by have := h.2; simp [tkM]; omega, by have := h.3; have := h.1.c0; simp [tkM]; omega⟩
theorem Few.draw {s : Source} {k : Int} (h : Few s k) (hk : k < 1000000) : Few (drawM s).1 (k + 1) := by
  have h2 := h.2
  have h3 := h.3
  refine ⟨drawM_src h.1 (by omega) (by omega), ?_, ?_⟩ <;> (unfold drawM; split <;> dsimp only <;> omega)
theorem s_loop1 {c4 c6 : Int} {c5 : List UInt8} {i B k : Int} {m : l00Src} {s : Source} (h : Src B m) (hs : Few s k) (hi0 : 0 ≤ i) (hi : i ≤ 4) (hk : k ≤ 100) (hB : B + 6 * i < Big) :
    ∃ e, Loop (s_l00Src_source_1_s c4 c5 c6) (i, m.code, m.at_, m.seed, s.Script, s.At, s.State, s.Count) = some e ∧ Src (B + 6 * i) ⟨e.2.2.1, e.2.2.2.1, e.2.2.2.2.1⟩ ∧ Few ⟨e.2.2.2.2.2.1, e.2.2.2.2.2.2.1, e.2.2.2.2.2.2.2.1, e.2.2.2.2.2.2.2.2⟩ (k + i) := by
  refine Loop_inv (step := s_l00Src_source_1_s c4 c5 c6) (fun x => 0 ≤ x.1 ∧ x.1 ≤ i ∧ Src (B + 6 * (i - x.1)) ⟨x.2.1, x.2.2.1, x.2.2.2.1⟩ ∧ Few ⟨x.2.2.2.2.1, x.2.2.2.2.2.1, x.2.2.2.2.2.2.1, x.2.2.2.2.2.2.2⟩ (k + (i - x.1))) (fun x => x.1.toNat) _ ?_ (i, m.code, m.at_, m.seed, s.Script, s.At, s.State, s.Count) ⟨hi0, by dsimp only; omega, h.mono (by dsimp only; omega), hs.mono (by dsimp only; omega)⟩
  rintro ⟨j, c, c2, c3, d, d2, d3, d4⟩ ⟨j0, j1, hsr, hfw⟩
  dsimp only at j0 j1 hsr hfw
  simp only [s_l00Src_source_1_s]
  by_cases hj : j > 0
  · left
    rw [brd hj]
    obtain ⟨b, m1, e1, s1⟩ := chance_ok (n := 2) hsr (by omega)
    rw [e1, Option.bind_some]
    cases b
    · dsimp only
      rw [br_false, s_draw_eq hfw.1, Option.bind_some, wrap_i64 _ (by omega) (by omega)]
      exact ⟨_, rfl, ⟨by dsimp only; omega, by dsimp only; omega, s1.mono (by dsimp only; omega), (hfw.draw (by omega)).mono (by dsimp only; omega)⟩, by dsimp only; omega⟩
    · dsimp only
      obtain ⟨y, m2, e2, _, s2⟩ := pick_ok (l := [[], [116, 101, 120, 116]]) s1 (by omega) (by decide) (by decide)
      have hy : y.length ≤ 1000 := by
        have : y ∈ [[], [116, 101, 120, 116]] := by assumption
        simp only [List.mem_cons, List.mem_nil_iff, or_false] at this
        rcases this with rfl | rfl <;> simp
      rw [br_true, e2, Option.bind_some, s_absorb_eq (t := y) hfw.1.3 (by omega), Option.bind_some, wrap_i64 _ (by omega) (by omega)]
      exact ⟨_, rfl, ⟨by dsimp only; omega, by dsimp only; omega, s2.mono (by dsimp only; omega), (hfw.take y).mono (by dsimp only; omega)⟩, by dsimp only; omega⟩
  · right
    rw [brn hj]
    have : j = 0 := by omega
    subst this
    exact ⟨_, rfl, hsr.mono (by omega), hfw.mono (by omega)⟩
theorem s_loop2 {c4 c6 : Int} {c5 : List UInt8} {i B k : Int} {m : l00Src} {s : Source} (h : Src B m) (hs : Few s k) (hi0 : 0 ≤ i) (hi : i ≤ 4) (hk : k ≤ 100) (hB : B + 6 * i < Big) :
    ∃ e, Loop (s_l00Src_source_2_s c4 c5 c6) (i, m.code, m.at_, m.seed, s.Script, s.At, s.State, s.Count) = some e ∧ Src (B + 6 * i) ⟨e.2.2.1, e.2.2.2.1, e.2.2.2.2.1⟩ ∧ Few ⟨e.2.2.2.2.2.1, e.2.2.2.2.2.2.1, e.2.2.2.2.2.2.2.1, e.2.2.2.2.2.2.2.2⟩ (k + i) :=
  s_loop1 (c4 := c4) (c5 := c5) (c6 := c6) h hs hi0 hi hk hB
theorem SourceOf_ok {code : List UInt8} (h : code.length ≤ 1048576) : ∃ s, s_SourceOf code = some s ∧ Few s 4 := by
  unfold s_SourceOf s_l00Src_source
  obtain ⟨m, e1, s1⟩ := source_ok (show code.length ≤ 1048600 by omega)
  rw [e1, Option.bind_some]
  obtain ⟨y, m2, e2, hy, s2⟩ := pick_ok (l := [[], [97], [108, 97, 98, 101, 108]]) s1 (by decide) (by decide) (by decide)
  have hyl : y.length ≤ 1000 := by
    simp only [List.mem_cons, List.mem_nil_iff, or_false] at hy
    rcases hy with rfl | rfl | rfl <;> simp
  rw [e2, Option.bind_some, s_new_eq (l := y) (by omega), Option.bind_some]
  obtain ⟨b, m3, e3, s3⟩ := chance_ok (n := 3) s2 (by decide)
  dsimp only
  rw [e3, Option.bind_some]
  cases b
  · dsimp only
    obtain ⟨x, m4, e4, x0, x1, _, s4⟩ := next_ok (n := 4) s3 (by decide)
    rw [br_false, e4, Option.bind_some]
    obtain ⟨e, e5, s5, f5⟩ := s_loop2 (c4 := 0) (c5 := []) (c6 := 0) (i := x) (k := 0) s4 (s := ⟨[], 0, H (tagS ++ y), 0⟩) ⟨new_ok (by simp) OkEs.nil, by simp, by simp⟩ x0 (by have := x1 (by decide); omega) (by decide) (by have := x1 (by decide); simp only [Big]; omega)
    dsimp only at e5 ⊢
    rw [e5, Option.bind_some, s_own_eq (by have := f5.1.1; dsimp only at this ⊢; omega), Option.bind_some, Option.bind_some]
    exact ⟨_, rfl, f5.mono (by have := x1 (by decide); omega)⟩
  · dsimp only
    obtain ⟨n, m4, e4, n0, n1, _, s4⟩ := next_ok (n := 5) s3 (by decide)
    have hn := n1 (by decide)
    rw [br_true, e4, Option.bind_some, wrap_i64 _ (by omega) (by omega)]
    obtain ⟨l, m5, e5, l0, l1, s5⟩ := exts_ok (n := 1 + n) s4 (by omega) (by omega) (by simp only [Big]; omega)
    dsimp only
    rw [e5, Option.bind_some]
    obtain ⟨x, m6, e6, x0, x1, _, s6⟩ := next_ok (n := 4) s5 (by simp only [Big]; omega)
    dsimp only
    rw [e6, Option.bind_some]
    obtain ⟨e, e7, s7, f7⟩ := s_loop1 (c4 := 0) (c5 := []) (c6 := 0) (i := x) (k := 0) s6 (s := ⟨l, 0, H (tagS ++ y), 0⟩) ⟨new_ok (by omega) l1, by simp, by simp⟩ x0 (by have := x1 (by decide); omega) (by decide) (by have := x1 (by decide); simp only [Big]; omega)
    dsimp only at e7 ⊢
    rw [e7, Option.bind_some, s_own_eq (by have := f7.1.1; dsimp only at this ⊢; omega), Option.bind_some, Option.bind_some]
    exact ⟨_, rfl, f7.mono (by have := x1 (by decide); omega)⟩
end Go.AI.Fn

set_option linter.unusedVariables false
set_option linter.unusedSimpArgs false
namespace Go.AI.Fn

theorem or_byte64 {n : Int} (x : UInt8) (h0 : 0 ≤ n) (h1 : n < 72057594037927936) : or64 .u64 (shl64 .u64 n 8) (IntKind.wrap .u64 (x.toNat : Int)) = n * 256 + x.toNat := by
  have hx := u8_lt x
  have e1 : shl64 .u64 n 8 = n * 256 := by
    have : n * 2 ^ (min (8 : Int).toNat (IntKind.bits .u64)) = n * 256 := by
      have : (2 : Int) ^ (min (8 : Int).toNat (IntKind.bits .u64)) = 256 := by decide
      rw [this]
    unfold shl64
    rw [this, wrap_u64 _ (by omega) (by omega)]
  rw [e1, wrap_u64 (x.toNat : Int) (by omega) (by omega)]
  unfold or64
  obtain ⟨m, rfl⟩ := Int.eq_ofNat_of_zero_le h0
  have e2 : (BitVec.ofInt (IntKind.bits .u64) ((m : Int) * 256) ||| BitVec.ofInt (IntKind.bits .u64) (x.toNat : Int)).toNat = m * 256 + x.toNat := by
    rw [BitVec.toNat_or, BitVec.toNat_ofInt, BitVec.toNat_ofInt]
    have b1 : (((m : Int) * 256) % ((2 ^ (IntKind.bits .u64) : Nat) : Int)).toNat = m <<< 8 := by
      rw [show ((2 ^ (IntKind.bits .u64) : Nat) : Int) = 18446744073709551616 by decide, Nat.shiftLeft_eq]; omega
    have b2 : ((x.toNat : Int) % ((2 ^ (IntKind.bits .u64) : Nat) : Int)).toNat = x.toNat := by
      rw [show ((2 ^ (IntKind.bits .u64) : Nat) : Int) = 18446744073709551616 by decide]; omega
    rw [b1, b2, ← Nat.shiftLeft_add_eq_or_of_lt (show x.toNat < 2 ^ 8 by omega), Nat.shiftLeft_eq]
  rw [e2, wrap_u64 _ (by omega) (by omega)]
  omega
theorem beN_bd : ∀ (l : List UInt8) (k : Nat), k ≤ 8 → k ≤ l.length → 0 ≤ beN (l.take k) ∧ beN (l.take k) < 256 ^ k
  | l, 0, _, _ => by simp [beN]
  | l, k + 1, h, hl => by
    have ⟨h0, h1⟩ := beN_bd l k (by omega) (by omega)
    have hb := u8_lt l[k]
    rw [take_succ (by omega), beN_snoc]
    have : (256 : Int) ^ (k + 1) = 256 ^ k * 256 := Int.pow_succ _ _
    rw [this]
    generalize (256 : Int) ^ k = p at *
    omega
theorem p256 : ∀ k : Nat, k < 8 → (256 : Int) ^ k ≤ 72057594037927936 := by decide
theorem i_modulo_eq {t : List UInt8} (h : t.length = 8) : i_modulo t = some (fldM t) := by
  unfold i_modulo
  have key : Loop (i_modulo_1_s t ((t.length : Nat) : Int)) (0, 0) = some (beN t, (t.length : Int), false) := by
    have key := Loop_for (step := i_modulo_1_s t ((t.length : Nat) : Int)) (fun k => (beN (t.take k), (k : Int))) t.length (e := (beN t, (t.length : Int), false)) (fun k hk => ?_) ?_
    · exact key
    · have ⟨h0, h1⟩ := beN_bd t k (by omega) (by omega)
      have h2 := p256 k (by omega)
      simp only [i_modulo_1_s]
      rw [brd (by omega), atL_nat hk, Option.bind_some, or_byte64 _ h0 (by omega), wrap_i64 _ (by omega) (by omega), take_succ hk, beN_snoc]; rfl
    · simp only [i_modulo_1_s]
      rw [brn (by omega), decide_eq_false (by omega), List.take_length]
  have ⟨h0, h1⟩ := beN_bd t 8 (by omega) (by omega)
  rw [List.take_of_length_le (by omega)] at h0 h1
  rw [key, Option.bind_some]
  dsimp only
  rw [tmod_nn _ _ h0, wrap_i64 _ (by omega) (by omega)]; rfl
theorem i_absorb_eq {s : Source} {t : List UInt8} (hs : s.State.length = 32) (ht : t.length ≤ 1000000) : i_Source_absorb t s = some (tkM s t) := by
  unfold i_Source_absorb
  have hf : [s.State, [97, 98, 115, 111, 114, 98], four ((t.length : Nat) : Int), t].flatten = s.State ++ (tagA ++ (four t.length ++ t)) := by simp [tagA]
  rw [br_fits (by omega), i_four_eq, Option.bind_some, i_keccak_eq (by rw [hf]; simp only [List.length_append, four_len, tagA, List.length_cons, List.length_nil]; omega) (by simp), Option.bind_some, hf]; rfl
theorem i_draw_eq {s : Source} (h : OkSrc s) : i_Source_draw s = some ((drawM s).2, (drawM s).1) := by
  have h1 := h.1
  have h3 := h.3
  have h4 := h.4
  have h5 := h.5
  have h6 := h.6
  have h7 := h.7
  unfold i_Source_draw drawM
  by_cases hl : s.Script.length = 0
  · have hf := four_len s.Count
    have hh := H_len (s.State ++ (tagD ++ four s.Count))
    have e : [s.State, [100, 114, 97, 119], four s.Count].flatten = s.State ++ (tagD ++ four s.Count) := by simp [tagD]
    rw [brn (by omega), if_pos hl, br_fits (by omega), i_four_eq, Option.bind_some, i_keccak_eq (by rw [e]; simp only [List.length_append, four_len, tagD, List.length_cons, List.length_nil]; omega) (by simp), Option.bind_some, e, br_fits (by omega),
      subL_of (by omega) (by omega) (by omega), Option.bind_some, i_modulo_eq (by simp; omega), Option.bind_some, subL_of (by omega) (by omega) (by omega), Option.bind_some, i_modulo_eq (by simp; omega), Option.bind_some, wrap_i64 _ (by omega) (by omega)]
    rfl
  · have hr := Int.emod_nonneg s.At (b := (s.Script.length : Int)) (by omega)
    have hr2 := Int.emod_lt_of_pos s.At (b := (s.Script.length : Int)) (by omega)
    rw [brd (by omega), if_neg hl, brd (by omega), wrap_i64 (s.At + 1) (by omega) (by omega), wrap_i64 (s.At + 1 - 1) (by omega) (by omega), show s.At + 1 - 1 = s.At by omega, tmod_nn _ _ h4]
    have e : atL s.Script (s.At % (s.Script.length : Int)) = some (s.Script.getD (s.At % (s.Script.length : Int)).toNat e0) := by
      have := atL_e (l := s.Script) (k := (s.At % (s.Script.length : Int)).toNat) (by omega)
      rwa [Int.toNat_of_nonneg hr] at this
    rw [e]; rfl
theorem i_copied_eq {s : Source} (h : s.Script.length ≤ 1000000) : i_Source_copied s = some s := by
  unfold i_Source_copied slices_Clone_Li_Ext_i_Ext
  rw [br_fits (by omega)]; rfl
theorem i_SourceOK_t {s : Source} (h : OkSrc s) : i_SourceOK s = some true := by
  have := h.1
  rw [i_SourceOK_eq (by omega), srcB_iff.2 h]
theorem s_SourceOK_t {s : Source} (h : OkSrc s) : s_SourceOK s = some true := by
  have := h.1
  rw [s_SourceOK_eq (by omega), srcB_iff.2 h]
variable {s : Source} {k : Int}
theorem mx_le {a b c : Int} (h : a ≤ c) (g : b ≤ c) : mx a b ≤ c := by unfold mx; split <;> assumption
theorem spent_no (h : Few s k) (hk : k ≤ 1000) {n : Nat} (hn : n ≤ 100) : s_l05Spent s (n : Int) = some false := by
  have h2 := h.2
  have h3 := h.3
  unfold s_l05Spent
  rw [wrap_i64 _ (by omega) (by omega), brn (by omega), decide_eq_false (by omega)]
end Go.AI.Fn

set_option linter.unusedVariables false
set_option linter.unusedSimpArgs false
namespace Go.AI.Fn

def toK (x : Ext) : K := ⟨⟨x.A % 2130706433, x.B % 2130706433⟩, ⟨okF_mod _, okF_mod _⟩⟩
theorem toK_val {x : Ext} (h : okE x) : (toK x).1 = x := ext_eq (mod_self h.1) (mod_self h.2)
theorem e8s_len (l : List Ext) : (l.flatMap e8).length = 8 * l.length := by
  induction l with
  | nil => rfl
  | cons x l ih => simp only [List.flatMap_cons, List.length_append, ih, e8_len, List.length_cons]; omega
/-- A source behind a round, what it draws, and what it is then. -/
def rsM (s : Source) (g : List K) : Source := tkM s ((kv g).flatMap e8)
def rdM (s : Source) (g : List K) : K := toK (drawM (rsM s g)).2
def nsM (s : Source) (g : List K) : Source := (drawM (rsM s g)).1
theorem ns_few {s : Source} {k : Int} (h : Few s k) (hk : k ≤ 1000) (g : List K) : Few (nsM s g) (k + 2) := by
  have := (h.take ((kv g).flatMap e8)).draw (by omega)
  rw [show k + 1 + 1 = k + 2 by omega] at this; exact this
theorem rd_val {s : Source} {k : Int} (h : Few s k) (g : List K) : (rdM s g).1 = (drawM (rsM s g)).2 := toK_val (drawM_ok (h.take _).1)
theorem i_absE {s : Source} (h : OkSrc s) {g : List K} (hl : g.length ≤ 1000) : i_Source_absorbExts (kv g) s = some (rsM s g) := by
  have e := e8s_len (kv g)
  rw [kv_len] at e
  unfold i_Source_absorbExts
  rw [i_extBytes_eq (by rw [kv_len]; omega), Option.bind_some, i_absorb_eq h.3 (by omega)]; rfl
theorem s_absE {s : Source} (h : OkSrc s) {g : List K} (hl : g.length ≤ 1000) : s_l05Exts s (kv g) = some (rsM s g) := by
  have e := e8s_len (kv g)
  rw [kv_len] at e
  unfold s_l05Exts
  rw [s_bytes_eq (by rw [kv_len]; omega), Option.bind_some, s_absorb_eq h.3 (by omega)]; rfl
theorem i_drK {s : Source} {k : Int} (h : Few s k) (g : List K) : i_Source_draw (rsM s g) = some ((rdM s g).1, nsM s g) := by
  rw [i_draw_eq (s := rsM s g) (h.take _).1, rd_val h]; rfl
theorem s_drK {s : Source} {k : Int} (h : Few s k) (g : List K) : s_l05Draw (rsM s g) = some (nsM s g, (rdM s g).1) := by
  rw [s_draw_eq (s := rsM s g) (h.take _).1, rd_val h]; rfl
/-! ### the prover -/
/-- Rounds, point, last tables and source; 'bh': what is done to the source behind each round, by the point as it is then. -/
def pvM (kind : Nat) (bh : List K → Source → Source) : Nat → List K → List (List K) → Source → List (List K) × List K × List (List K) × Source
  | 0, P, T, s => ([], [], T, s)
  | v + 1, P, T, s => (rdK kind T (2 ^ v) :: (pvM kind bh v (P ++ [rdM s (rdK kind T (2 ^ v))]) (bdK (rdM s (rdK kind T (2 ^ v))) T) (bh (P ++ [rdM s (rdK kind T (2 ^ v))]) (nsM s (rdK kind T (2 ^ v))))).1,
      rdM s (rdK kind T (2 ^ v)) :: (pvM kind bh v (P ++ [rdM s (rdK kind T (2 ^ v))]) (bdK (rdM s (rdK kind T (2 ^ v))) T) (bh (P ++ [rdM s (rdK kind T (2 ^ v))]) (nsM s (rdK kind T (2 ^ v))))).2.1,
      (pvM kind bh v (P ++ [rdM s (rdK kind T (2 ^ v))]) (bdK (rdM s (rdK kind T (2 ^ v))) T) (bh (P ++ [rdM s (rdK kind T (2 ^ v))]) (nsM s (rdK kind T (2 ^ v))))).2.2)
def bh0 : List K → Source → Source := fun _ s => s
variable {kind : Nat} {bh : List K → Source → Source}
theorem two_pow (v : Nat) : 2 ^ (v + 1) = 2 * 2 ^ v := by rw [Nat.pow_succ, Nat.mul_comm]
theorem OkT.up {v : Nat} {T : List (List K)} (h : OkT kind (2 ^ (v + 1)) T) (r : K) : OkT kind (2 ^ v) (bdK r T) := by
  rw [two_pow] at h; exact h.bd r
theorem pv_len : ∀ (v : Nat) (P : List K) (T : List (List K)) (s : Source), (pvM kind bh v P T s).1.length = v ∧ (pvM kind bh v P T s).2.1.length = v
  | 0, P, T, s => ⟨rfl, rfl⟩
  | v + 1, P, T, s => by simp only [pvM, List.length_cons]; exact ⟨by rw [(pv_len v _ _ _).1], by rw [(pv_len v _ _ _).2]⟩
theorem pv_okT : ∀ (v : Nat) (P : List K) (T : List (List K)) (s : Source), OkT kind (2 ^ v) T → OkT kind 1 (pvM kind bh v P T s).2.2.1
  | 0, P, T, s, h => h
  | v + 1, P, T, s, h => pv_okT v _ _ _ (h.up _)
theorem pv_rlen : ∀ (v : Nat) (P : List K) (T : List (List K)) (s : Source), ∀ g ∈ (pvM kind bh v P T s).1, g.length = kind + 2
  | 0, P, T, s, g, hg => by simp [pvM] at hg
  | v + 1, P, T, s, g, hg => by
    simp only [pvM, List.mem_cons] at hg
    rcases hg with rfl | hg
    · exact rdK_len _ _ _
    · exact pv_rlen v _ _ _ g hg
theorem kvv0 {T : List (List K)} (h : 0 < T.length) : atL (kvv T) 0 = some (kv (T.getD 0 [])) := kvv_at (j := 0) h
theorem p2le : ∀ v : Nat, v ≤ 6 → 1 ≤ 2 ^ v ∧ 2 ^ v ≤ 64 := by decide
theorem i_prove_loop : ∀ (v : Nat) (Q : List K) (T : List (List K)) (s : Source) (k : Int) (R : List (List Ext)) (P : List Ext), OkT kind (2 ^ v) T → Few s k → k + 2 * v ≤ 1000 → v ≤ 6 → R.length + v ≤ 1000 → P.length + v ≤ 1000 →
    Loop (i_Source_proveSum_nothing_1_s ([] : List Ext) (kind : Int)) (R, P, kvv T, s.Script, s.At, s.State, s.Count) =
      some (R ++ kvv (pvM kind bh0 v Q T s).1, P ++ kv (pvM kind bh0 v Q T s).2.1, kvv (pvM kind bh0 v Q T s).2.2.1, false, (pvM kind bh0 v Q T s).2.2.2.Script, (pvM kind bh0 v Q T s).2.2.2.At, (pvM kind bh0 v Q T s).2.2.2.State, (pvM kind bh0 v Q T s).2.2.2.Count)
  | 0, Q, T, s, k, R, P, hT, hf, hk, hv, hR, hP => by
    have hl := hT.len
    have hkd := hT.kd
    refine Loop_inr ?_
    simp only [i_Source_proveSum_nothing_1_s]
    rw [kvv0 (by omega), Option.bind_some, kv_len, hT.tab 0 (by omega), brn (by decide), decide_eq_false (by decide)]
    simp [pvM, kvv, kv, bh0]
  | v + 1, Q, T, s, k, R, P, hT, hf, hk, hv, hR, hP => by
    have hl := hT.len
    have hkd := hT.kd
    have hp := p2le v (by omega)
    have hT2 := hT
    rw [two_pow] at hT2
    rw [Loop_inl (s' := (R ++ [kv (rdK kind T (2 ^ v))], P ++ [(rdM s (rdK kind T (2 ^ v))).1], kvv (bdK (rdM s (rdK kind T (2 ^ v))) T), (nsM s (rdK kind T (2 ^ v))).Script, (nsM s (rdK kind T (2 ^ v))).At, (nsM s (rdK kind T (2 ^ v))).State, (nsM s (rdK kind T (2 ^ v))).Count)) ?_]
    · rw [i_prove_loop v (Q ++ [rdM s (rdK kind T (2 ^ v))]) _ _ _ _ _ (hT.up _) (ns_few hf (by omega) _) (by omega) (by omega) (by rw [List.length_append, List.length_singleton]; omega) (by rw [List.length_append, List.length_singleton]; omega)]
      simp [pvM, kvv, kv, bh0]
    · simp only [i_Source_proveSum_nothing_1_s]
      rw [kvv0 (by omega), Option.bind_some, kv_len, hT.tab 0 (by omega), two_pow, brd (by omega), i_roundOf_eq hT2 (by omega), Option.bind_some, show Source.mk s.Script s.At s.State s.Count = s from rfl, i_absE hf.1 (by rw [rdK_len]; omega), Option.bind_some, i_drK hf, Option.bind_some]
      dsimp only
      rw [i_bound_eq hT2 (by omega), Option.bind_some, br_fits (by rw [List.length_append, List.length_singleton]; omega), br_fits (by rw [List.length_append, List.length_singleton]; omega)]; rfl

/-- The tables' last values. -/
def lastM (T : List (List K)) : List K := T.map fun t => t.getD 0 0
theorem last_snoc {T : List (List K)} {j : Nat} (hj : j < T.length) : (lastM T).take (j + 1) = (lastM T).take j ++ [(T.getD j []).getD 0 0] := by
  rw [take_succ (by simpa [lastM] using hj)]; simp [lastM, hj]
theorem lastM_len (T : List (List K)) : (lastM T).length = T.length := by simp [lastM]
theorem kv0 {l : List K} (h : 0 < l.length) : atL (kv l) 0 = some (l.getD 0 0).1 := kv_at (j := 0) h
theorem i_proveSum_eq {v : Nat} (Q : List K) {T : List (List K)} {s : Source} {k : Int} (hT : OkT kind (2 ^ v) T) (hf : Few s k) (hk : k + 2 * v ≤ 1000) (hv : v ≤ 6) :
    i_Source_proveSum_nothing (kind : Int) (kvv T) s = some (kvv (pvM kind bh0 v Q T s).1, kv (pvM kind bh0 v Q T s).2.1, kv (lastM (pvM kind bh0 v Q T s).2.2.1), (pvM kind bh0 v Q T s).2.2.2) := by
  unfold i_Source_proveSum_nothing
  rw [i_prove_loop v Q T s k [] [] hT hf hk hv (by rw [List.length_nil]; omega) (by rw [List.length_nil]; omega), Option.bind_some]
  have ho := pv_okT (bh := bh0) v Q T s hT
  have hl := ho.len
  have hkd := ho.kd
  generalize pvM kind bh0 v Q T s = q at *
  obtain ⟨q1, q2, q3, q4⟩ := q
  dsimp only at *
  have key := Loop_for (step := i_Source_proveSum_nothing_2_s ([] ++ kvv q1) ([] ++ kv q2) (kvv q3) (((kvv q3).length : Nat) : Int) q4.Script q4.At q4.State q4.Count) (fun j => (kv ((lastM q3).take j), (j : Int))) q3.length (e := (kv (lastM q3), (q3.length : Int), false)) (fun j hj => ?_) ?_
  · have key' : Loop (i_Source_proveSum_nothing_2_s ([] ++ kvv q1) ([] ++ kv q2) (kvv q3) (((kvv q3).length : Nat) : Int) q4.Script q4.At q4.State q4.Count) ([], 0) = _ := key
    rw [key']; rfl
  · simp only [i_Source_proveSum_nothing_2_s, kvv_len]
    rw [brd (by omega), kvv_at hj, Option.bind_some, kv0 (by rw [ho.tab j hj]; omega), Option.bind_some, br_fits (by rw [List.length_append, kv_len, List.length_take, lastM_len, List.length_singleton]; omega), wrap_i64 _ (by omega) (by omega), last_snoc hj, kvS]; rfl
  · simp only [i_Source_proveSum_nothing_2_s, kvv_len]
    rw [brn (by omega), decide_eq_false (by omega), List.take_of_length_le (by rw [lastM_len]; omega)]
/-! ### the verifier -/
noncomputable instance instDecK : DecidableEq K := fun a b => Classical.propDecidable _
/-- The code, and (where it is 0) the point and the last claim; the source; 'bv': what is done to the source behind the i-th round. -/
noncomputable def vfM (kind : Nat) (bv : Nat → Source → Source) : List (List K) → Nat → K → Source → Int × List K × K × Source
  | [], i, c, s => (0, [], c, s)
  | g :: R, i, c, s => if g.length = kind + 2 then (if g.getD 0 0 + g.getD 1 0 = c then
      ((vfM kind bv R (i + 1) (lnK g (rdM s g)) (bv i (nsM s g))).1, rdM s g :: (vfM kind bv R (i + 1) (lnK g (rdM s g)) (bv i (nsM s g))).2.1, (vfM kind bv R (i + 1) (lnK g (rdM s g)) (bv i (nsM s g))).2.2) else (10, [], c, s)) else (18, [], c, s)
def bv0 : Nat → Source → Source := fun _ s => s
def BvOk (bv : Nat → Source → Source) : Prop := ∀ i s k, Few s k → k ≤ 1000 → Few (bv i s) (k + 1)
theorem bv0_ok : BvOk bv0 := fun i s k h _ => h.mono (by omega)
variable {bv : Nat → Source → Source}
theorem vf_few (hb : BvOk bv) : ∀ (R : List (List K)) (i : Nat) (c : K) (s : Source) (k : Int), Few s k → k + 3 * R.length ≤ 1000 → Few (vfM kind bv R i c s).2.2.2 (k + 3 * R.length)
  | [], i, c, s, k, h, hk => by rw [List.length_nil, show k + 3 * ((0 : Nat) : Int) = k by omega]; exact h
  | g :: R, i, c, s, k, h, hk => by
    rw [List.length_cons] at hk ⊢
    rw [vfM]
    by_cases h1 : g.length = kind + 2
    · by_cases h2 : g.getD 0 0 + g.getD 1 0 = c
      · rw [if_pos h1, if_pos h2]
        have := vf_few hb R (i + 1) (lnK g (rdM s g)) _ _ (hb i _ _ (ns_few h (by omega) g) (by omega)) (by omega)
        rw [show k + 2 + 1 + 3 * (R.length : Int) = k + 3 * ((R.length + 1 : Nat) : Int) by omega] at this
        exact this
      · rw [if_pos h1, if_neg h2]; exact h.mono (by omega)
    · rw [if_neg h1]; exact h.mono (by omega)
theorem beq_K (a b : K) : (a.1.A == b.1.A && a.1.B == b.1.B) = decide (a = b) := by
  by_cases h : a = b
  · subst h; simp
  · rw [decide_eq_false h]
    refine Bool.eq_false_iff.2 fun e => h ?_
    simp only [Bool.and_eq_true, beq_iff_eq] at e
    exact K.ext (ext_eq e.1 e.2)
theorem br_K {α : Type} (a b : K) (x y : α) : br (a.1.A == b.1.A) (br (a.1.B == b.1.B) x y) y = if a = b then x else y := by
  have := beq_K a b
  cases h1 : (a.1.A == b.1.A) <;> cases h2 : (a.1.B == b.1.B) <;> rw [h1, h2] at this <;> simp at this <;> simp [this, br]
theorem atK {l : List K} {j : Nat} {i : Int} (hi : i = (j : Int)) (h : j < l.length) : atL (kv l) i = some (l.getD j 0).1 := by subst hi; exact kv_at h
theorem i_vf_loop {c7 c8 : Int} (hkd : kind = 1 ∨ kind = 2) : ∀ (R pre : List (List K)) (c : K) (s : Source) (k : Int) (P : List Ext), Few s k → k + 3 * R.length ≤ 1000 → P.length + R.length ≤ 1000 → pre.length + R.length ≤ 1000 →
    ((vfM kind bv0 R pre.length c s).1 = 0 → Loop (i_Source_verifySum_nowhere_1_s (kind : Int) (kvv (pre ++ R)) ((pre ++ R).length : Int) c7 c8) (P, (pre.length : Int), s.Script, s.At, s.State, s.Count, c.1.A, c.1.B) =
      some (.inr (P ++ kv (vfM kind bv0 R pre.length c s).2.1, ((pre ++ R).length : Int), false, (vfM kind bv0 R pre.length c s).2.2.2.Script, (vfM kind bv0 R pre.length c s).2.2.2.At, (vfM kind bv0 R pre.length c s).2.2.2.State, (vfM kind bv0 R pre.length c s).2.2.2.Count,
        (vfM kind bv0 R pre.length c s).2.2.1.1.A, (vfM kind bv0 R pre.length c s).2.2.1.1.B))) ∧
    ((vfM kind bv0 R pre.length c s).1 ≠ 0 → ∃ P' A B, Loop (i_Source_verifySum_nowhere_1_s (kind : Int) (kvv (pre ++ R)) ((pre ++ R).length : Int) c7 c8) (P, (pre.length : Int), s.Script, s.At, s.State, s.Count, c.1.A, c.1.B) =
      some (.inl (P', (vfM kind bv0 R pre.length c s).1, (vfM kind bv0 R pre.length c s).2.2.2.Script, (vfM kind bv0 R pre.length c s).2.2.2.At, (vfM kind bv0 R pre.length c s).2.2.2.State, (vfM kind bv0 R pre.length c s).2.2.2.Count, A, B)))
  | [], pre, c, s, k, P, hf, hk, hP, hp => by
    refine ⟨fun _ => Loop_inr ?_, fun h => absurd rfl h⟩
    simp only [i_Source_verifySum_nowhere_1_s, List.append_nil]
    rw [brn (by omega), decide_eq_false (by omega)]
    simp [vfM, kv]
  | g :: R, pre, c, s, k, P, hf, hk, hP, hp => by
    rw [List.length_cons] at hk hP hp
    have hat : atL (kvv (pre ++ g :: R)) (pre.length : Int) = some (kv g) := by rw [kvv_at (by simp)]; simp
    have hlt : (pre.length : Int) < ((pre ++ g :: R).length : Int) := by rw [List.length_append, List.length_cons]; omega
    rw [vfM]
    by_cases h1 : g.length = kind + 2
    · by_cases h2 : g.getD 0 0 + g.getD 1 0 = c
      · rw [if_pos h1, if_pos h2]
        have ih := i_vf_loop (c7 := c7) (c8 := c8) hkd R (pre ++ [g]) (lnK g (rdM s g)) (nsM s g) (k + 2) (P ++ [(rdM s g).1]) (ns_few hf (by omega) g) (by omega) (by rw [List.length_append, List.length_singleton]; omega) (by rw [List.length_append, List.length_singleton]; omega)
        rw [List.append_assoc, List.singleton_append, List.length_append, List.length_singleton] at ih
        have step : i_Source_verifySum_nowhere_1_s (kind : Int) (kvv (pre ++ g :: R)) ((pre ++ g :: R).length : Int) c7 c8 (P, (pre.length : Int), s.Script, s.At, s.State, s.Count, c.1.A, c.1.B) =
            some (.inl (P ++ [(rdM s g).1], ((pre.length + 1 : Nat) : Int), (nsM s g).Script, (nsM s g).At, (nsM s g).State, (nsM s g).Count, (lnK g (rdM s g)).1.A, (lnK g (rdM s g)).1.B)) := by
          simp only [i_Source_verifySum_nowhere_1_s]
          rw [brd hlt, hat, Option.bind_some, i_degree_eq hkd, Option.bind_some, wrap_i64 _ (by omega) (by omega), brbe (by rw [kv_len]; omega), atK (i := 0) (j := 0) rfl (by omega), Option.bind_some, atK (i := 1) (j := 1) rfl (by omega), Option.bind_some, i_plus_eq (Subtype.property _) (Subtype.property _), Option.bind_some]
          rw [show eA (g.getD 0 0).1 (g.getD 1 0).1 = c.1 from congrArg Subtype.val h2, bre rfl, bre rfl, show Source.mk s.Script s.At s.State s.Count = s from rfl, i_absE hf.1 (by omega), Option.bind_some, i_drK hf, Option.bind_some]
          dsimp only
          rw [i_lineAt_eq _ (by omega), Option.bind_some, br_fits (by rw [List.length_append, List.length_singleton]; omega), wrap_i64 _ (by omega) (by omega)]; rfl
        refine ⟨fun h => ?_, fun h => ?_⟩
        · rw [Loop_inl step, ih.1 h]
          simp [kv, bv0]
        · obtain ⟨P', A, B, e⟩ := ih.2 h
          exact ⟨P', A, B, by rw [Loop_inl step, e]; rfl⟩
      · rw [if_pos h1, if_neg h2]
        refine ⟨fun h => absurd (show (10 : Int) = 0 from h) (by decide), fun _ => ⟨P, c.1.A, c.1.B, Loop_inr ?_⟩⟩
        simp only [i_Source_verifySum_nowhere_1_s]
        rw [brd hlt, hat, Option.bind_some, i_degree_eq hkd, Option.bind_some, wrap_i64 _ (by omega) (by omega), brbe (by rw [kv_len]; omega), atK (i := 0) (j := 0) rfl (by omega), Option.bind_some, atK (i := 1) (j := 1) rfl (by omega), Option.bind_some, i_plus_eq (Subtype.property _) (Subtype.property _), Option.bind_some]
        rw [show eA (g.getD 0 0).1 (g.getD 1 0).1 = (g.getD 0 0 + g.getD 1 0).1 from rfl, br_K, if_neg h2]
    · rw [if_neg h1]
      refine ⟨fun h => absurd (show (18 : Int) = 0 from h) (by decide), fun _ => ⟨P, c.1.A, c.1.B, Loop_inr ?_⟩⟩
      simp only [i_Source_verifySum_nowhere_1_s]
      rw [brd hlt, hat, Option.bind_some, i_degree_eq hkd, Option.bind_some, wrap_i64 _ (by omega) (by omega), brb (by rw [kv_len]; omega)]
theorem i_verifySum_eq (hkd : kind = 1 ∨ kind = 2) {R : List (List K)} {c : K} {s : Source} {k : Int} (hf : Few s k) (hk : k + 3 * R.length ≤ 1000) :
    i_Source_verifySum_nowhere (kind : Int) c.1 (kvv R) s = some (if (vfM kind bv0 R 0 c s).1 = 0 then (kv (vfM kind bv0 R 0 c s).2.1, (vfM kind bv0 R 0 c s).2.2.1.1, 0, (vfM kind bv0 R 0 c s).2.2.2) else ([], e0, (vfM kind bv0 R 0 c s).1, (vfM kind bv0 R 0 c s).2.2.2)) := by
  have hk0 : 0 ≤ k := by have := hf.2; have := hf.1.4; omega
  have h := i_vf_loop (c7 := 0) (c8 := 0) hkd R [] c s k [] hf hk (by rw [List.length_nil]; omega) (by rw [List.length_nil]; omega)
  rw [List.nil_append, List.length_nil] at h
  unfold i_Source_verifySum_nowhere
  rw [kvv_len]
  by_cases h0 : (vfM kind bv0 R 0 c s).1 = 0
  · rw [if_pos h0]
    have := h.1 h0
    rw [show (((0 : Nat) : Int)) = 0 from rfl] at this
    rw [this]; rfl
  · rw [if_neg h0]
    obtain ⟨P', A, B, e⟩ := h.2 h0
    rw [show (((0 : Nat) : Int)) = 0 from rfl] at e
    rw [e]; rfl
end Go.AI.Fn

set_option linter.unusedVariables false
set_option linter.unusedSimpArgs false
namespace Go.AI.Fn

/-- What a matrix is that both sides take. -/
structure OkM (l : List Entry) (R C : Int) : Prop where
  len : l.length ≤ 200
  ent : ∀ x ∈ l, inE R C x
  srt : ∀ k (hk : k < l.length), ∀ y ∈ l.take k, ltE y l[k]
/-! ### digests -/
end Go.AI.Fn

set_option linter.unusedVariables false
set_option linter.unusedSimpArgs false
namespace Go.AI.Fn

end Go.AI.Fn

set_option linter.unusedVariables false
set_option linter.unusedSimpArgs false
namespace Go.AI.Fn

/-! ### a table at a point is what is left when all variables are bound -/
variable {kind : Nat} {bh : List K → Source → Source}
/-! ### tables that are drawn -/
theorem tables_ok {B : Int} {m : l00Src} {v : Nat} (hk : kind = 1 ∨ kind = 2) (h : Src B m) (hv : v ≤ 6) (hB : B + 20000 < Big) : ∃ T m', s_l00Src_tables (kind : Int) (v : Int) m = some (kvv T, m') ∧ OkT kind (2 ^ v) T ∧ Src (B + 20000) m' := by
  unfold s_l00Src_tables
  have hp := p2le v hv
  have key := Loop_inv (step := s_l00Src_tables_1_s (kind : Int) (v : Int))
    (fun s => (∃ T : List (List K), s.1 = kvv T ∧ (T.length : Int) = s.2.1 ∧ ∀ i, i < T.length → (T.getD i []).length = 2 ^ v) ∧ s.2.1 ≤ 2 * kind ∧ Src (B + 2560 * s.2.1) ⟨s.2.2.1, s.2.2.2.1, s.2.2.2.2⟩) (fun s => (2 * kind - s.2.1).toNat)
    (fun e => (∃ T : List (List K), e.1 = kvv T ∧ OkT kind (2 ^ v) T) ∧ Src (B + 20000) ⟨e.2.2.2.1, e.2.2.2.2.1, e.2.2.2.2.2⟩) ?_ (([] : List (List Ext)), (0 : Int), m.code, m.at_, m.seed) ⟨⟨[], rfl, rfl, fun i hi => by simp at hi⟩, by dsimp only; omega, h.mono (by dsimp only; omega)⟩
  · obtain ⟨e, he, ⟨T, h1, h2⟩, h3⟩ := key
    rw [he, Option.bind_some, h1]
    exact ⟨T, _, rfl, h2, h3⟩
  · rintro ⟨l, i, c, c2, c3⟩ ⟨⟨T, hl, hi, ht⟩, i1, hs⟩
    dsimp only at hl hi i1 hs
    subst hl
    simp only [s_l00Src_tables_1_s, s_l08Tables]
    rw [Option.bind_some, wrap_i64 (2 * (kind : Int)) (by omega) (by omega), wrap_u64 _ (by omega) (by omega)]
    by_cases hi2 : i < 2 * (kind : Int)
    · left
      obtain ⟨y, m2, e2, y1, y2, s2⟩ := exts_ok (n := ((2 ^ v : Nat) : Int)) hs (by omega) (by omega) (by omega)
      obtain ⟨y, rfl⟩ := kv_lift y2
      rw [kv_len] at y1
      rw [brd hi2, brd (by omega), shl1 (by omega), e2, Option.bind_some, br_fits (by rw [List.length_append, kvv_len, List.length_singleton]; omega), wrap_i64 _ (by omega) (by omega)]
      refine ⟨_, rfl, ⟨⟨T ++ [y], (kvv_snoc _ _).symm, ?_, fun j hj => ?_⟩, ?_, s2.mono ?_⟩, ?_⟩
      · rw [List.length_append, List.length_singleton]; dsimp only; omega
      · rw [List.length_append, List.length_singleton] at hj
        by_cases c : j < T.length
        · have := ht j c
          rw [List.getD_eq_getElem?_getD, List.getElem?_append_left c]; rw [List.getD_eq_getElem?_getD] at this; exact this
        · have : j = T.length := by omega
          subst this
          rw [List.getD_eq_getElem?_getD, List.getElem?_append_right (Nat.le_refl _)]
          simp; omega
      all_goals dsimp only; omega
    · right
      rw [brn hi2]
      refine ⟨_, rfl, ⟨T, rfl, hk, by omega, ht⟩, hs.mono (by omega)⟩
theorem TablesOf_ok {code : List UInt8} {v : Nat} (hk : kind = 1 ∨ kind = 2) (h : code.length ≤ 1048576) (hv : v ≤ 6) : ∃ T, s_TablesOf code (kind : Int) (v : Int) = some (kvv T) ∧ OkT kind (2 ^ v) T := by
  unfold s_TablesOf
  obtain ⟨m, e1, s1⟩ := source_ok (show code.length ≤ 1048600 by omega)
  obtain ⟨T, m2, e2, h1, _⟩ := tables_ok (v := v) hk s1 hv (by simp only [Big]; omega)
  rw [e1, Option.bind_some, e2, Option.bind_some]
  exact ⟨T, rfl, h1⟩
end Go.AI.Fn

set_option linter.unusedVariables false
set_option linter.unusedSimpArgs false
namespace Go.AI.Fn

variable {kind : Nat}
theorem i_TableOK_K {t : List K} {v : Nat} (hv : v ≤ 6) (h : t.length = 2 ^ v) : i_TableOK (kv t) = some true := by
  have hp := p2le v hv
  rw [i_TableOK_eq (by rw [kv_len]; omega), kv_len, h, powB_two (by omega) (by omega), allE.2 (kv_ok t)]; rfl
theorem i_tablesCode_eq {T : List (List K)} {v : Nat} (hT : OkT kind (2 ^ v) T) (hv : v ≤ 6) : i_tablesCode (kind : Int) (kvv T) = some 0 := by
  have hl := hT.len
  have hk := hT.kd
  unfold i_tablesCode i_tablesOf
  have key : Loop (i_tablesCode_1_s (kvv T) (kvv T) (T.length : Int)) 0 = some (.inr ((T.length : Int), false)) :=
    Loop_for (step := i_tablesCode_1_s (kvv T) (kvv T) (T.length : Int)) (fun j => (j : Int)) T.length (fun j hj => by
      simp only [i_tablesCode_1_s]
      rw [brd (by omega), kvv_at hj, Option.bind_some, i_TableOK_K hv (hT.tab j hj), Option.bind_some, Bool.not_true, br_false, kvv0 (by omega), Option.bind_some, brbe (by rw [kv_len, kv_len, hT.tab j hj, hT.tab 0 (by omega)]), wrap_i64 _ (by omega) (by omega)]; rfl) (by
      simp only [i_tablesCode_1_s]
      rw [brn (by omega), decide_eq_false (by omega)])
  rw [kvv_len, brn (by omega), i_degree_eq hk, Option.bind_some, brne (by omega), Option.bind_some, wrap_i64 _ (by omega) (by omega), brbe (by omega), key]; rfl
theorem i_SumOf_eq {T : List (List K)} {v : Nat} (hT : OkT kind (2 ^ v) T) (hv : v ≤ 6) : i_SumOf (kind : Int) (kvv T) = some ((totK kind T (2 ^ v)).1, 0) := by
  have hp := p2le v hv
  unfold i_SumOf
  rw [i_tablesCode_eq hT hv, Option.bind_some, brbe rfl, i_sumOf_eq hT (by omega)]; rfl
theorem left_ok {s : Source} {k : Int} (h : Few s k) (hk : k ≤ 900000) : ∃ n, i_Source_left s = some n ∧ 100000 ≤ n ∧ n ≤ 1000000 := by
  have hmx := mx_le h.2 h.3
  have h0 : 0 ≤ mx s.At s.Count := by have := h.1.4; have := h.1.6; unfold mx; split <;> assumption
  unfold i_Source_left
  rw [wrap_i64 _ (by omega) (by omega)]
  exact ⟨_, rfl, by omega, by omega⟩
theorem i_SumProve_eq {T : List (List K)} {v : Nat} {s : Source} {k : Int} (hT : OkT kind (2 ^ v) T) (hv : v ≤ 6) (hf : Few s k) (hk : k ≤ 900) :
    i_SumProve (kind : Int) (kvv T) s = some (kvv (pvM kind bh0 v [] T s).1, kv (pvM kind bh0 v [] T s).2.1, kv (lastM (pvM kind bh0 v [] T s).2.2.1), (pvM kind bh0 v [] T s).2.2.2, 0) := by
  obtain ⟨n, e, h1, h2⟩ := left_ok hf (by omega)
  have := hf.1.1
  unfold i_SumProve
  rw [i_tablesCode_eq hT hv, Option.bind_some, brbe rfl, i_SourceOK_t hf.1, Option.bind_some, Bool.not_true, br_false, e, Option.bind_some, brn (by omega), brbe rfl, i_copied_eq (by omega), Option.bind_some, i_proveSum_eq [] hT hf (by omega) hv]; rfl
theorem spent_no6 {s : Source} {k : Int} (h : Few s k) (hk : k ≤ 1000) : s_l05Spent s 6 = some false := spent_no h hk (n := 6) (by omega)
/-! ### what is shown -/
def Rds (R : List (List K)) : Prop := ∀ g ∈ R, g.length ≤ 8
theorem kvv_mem {R : List (List K)} (h : Rds R) : ∀ x ∈ kvv R, x.length ≤ 8 ∧ OkEs x := fun x hx => by
  obtain ⟨g, hg, rfl⟩ := List.mem_map.1 hx
  exact ⟨by rw [kv_len]; exact h g hg, kv_ok g⟩
theorem i_roundsBad_eq {R : List (List K)} (h : Rds R) (hl : R.length ≤ 1000) : slices_ContainsFunc_LLi_Ext_Li_Ext_SumVerify_1 (kvv R) = some false := by
  unfold slices_ContainsFunc_LLi_Ext_Li_Ext_SumVerify_1 slices_IndexFunc_LLi_Ext_Li_Ext_SumVerify_1
  rw [contains_gen (step := slices_IndexFunc_LLi_Ext_Li_Ext_SumVerify_1_1_s (kvv R) (((kvv R).length : Nat) : Int)) (p := fun _ => false) (f := i_SumVerify_1) (by rw [kvv_len]; omega) (fun x hx => ?_) (fun t => rfl)]
  · simp
  · have := kvv_mem h x hx
    unfold i_SumVerify_1
    rw [brn (by omega), i_areE_eq (by omega), Option.bind_some, allE.2 this.2]; rfl
theorem s_roundsOK_eq {R : List (List K)} (h : Rds R) (hl : R.length ≤ 1000) : s_l08Rounds (kvv R) = some 0 := by
  unfold s_l08Rounds
  rw [kvv_len, brn (by omega)]
  have key : Loop (s_l08Rounds_1_s (kvv R)) 0 = some (.inr ((R.length : Int), false)) :=
    Loop_for (step := s_l08Rounds_1_s (kvv R)) (fun j => (j : Int)) R.length (fun j hj => by
      have hm : (R.getD j []).length ≤ 8 := by simp [hj]; exact h _ (List.getElem_mem hj)
      simp only [s_l08Rounds_1_s, kvv_len]
      rw [brd (by omega), kvv_at hj, Option.bind_some, brn (by rw [kv_len]; omega), Option.bind_some, s_listE_eq (by rw [kv_len]; omega), Option.bind_some, allE.2 (kv_ok _), Bool.not_true, br_false, wrap_i64 _ (by omega) (by omega)]; rfl) (by
      simp only [s_l08Rounds_1_s, kvv_len]
      rw [brn (by omega), decide_eq_false (by omega)])
  rw [key]; rfl
/-- What a verifier of sums says. -/
noncomputable def svM (kind : Nat) (c : K) (R : List (List K)) (vars : Int) (s : Source) : List Ext × Ext × Source × Int :=
  if (R.length : Int) = vars then (if (vfM kind bv0 R 0 c s).1 = 0 then (kv (vfM kind bv0 R 0 c s).2.1, (vfM kind bv0 R 0 c s).2.2.1.1, (vfM kind bv0 R 0 c s).2.2.2, 0) else ([], e0, ⟨[], 0, [], 0⟩, (vfM kind bv0 R 0 c s).1)) else ([], e0, ⟨[], 0, [], 0⟩, 18)
theorem i_SumVerify_eq (hkd : kind = 1 ∨ kind = 2) {R : List (List K)} {c : K} {s : Source} {k vars : Int} (hf : Few s k) (hk : k ≤ 700) (hR : Rds R) (hl : R.length ≤ 100) (h0 : 0 ≤ vars) (h6 : vars ≤ 6) :
    i_SumVerify (kind : Int) c.1 (kvv R) vars s = some (svM kind c R vars s) := by
  obtain ⟨n, e, h1, h2⟩ := left_ok hf (by omega)
  have := hf.1.1
  unfold i_SumVerify svM
  rw [kvv_len, brn (by omega), i_ExtOK_eq, Option.bind_some, okEb_iff.2 c.2, Bool.not_true, br_false, i_SourceOK_t hf.1, Option.bind_some, Bool.not_true, br_false, i_roundsBad_eq hR (by omega), Option.bind_some, br_false, i_degree_eq hkd, Option.bind_some, brne (by omega), i_in_eq, Option.bind_some, decide_eq_true (by omega), decide_eq_true (by omega), Bool.and_self, Bool.not_true, br_false, e, Option.bind_some, brn (by omega)]
  by_cases hv : (R.length : Int) = vars
  · rw [brbe hv, if_pos hv, i_copied_eq (by omega), Option.bind_some, i_verifySum_eq hkd hf (by omega), Option.bind_some]
    by_cases h3 : (vfM kind bv0 R 0 c s).1 = 0
    · rw [if_pos h3, if_pos h3, brbe rfl]
    · rw [if_neg h3, if_neg h3, brb h3]; rfl
  · rw [brb hv, if_neg hv]; rfl
theorem s_vf_loop {c7 c8 c9 c11 : Int} {c10 : List UInt8} (hkd : kind = 1 ∨ kind = 2) : ∀ (R pre : List (List K)) (c : K) (s : Source) (k : Int) (P : List Ext), Few s k → k + 3 * R.length ≤ 1000 → P.length + R.length ≤ 1000 → pre.length + R.length ≤ 1000 →
    ((vfM kind bv0 R pre.length c s).1 = 0 → Loop (s_l08Verify_1_s (kind : Int) (kvv (pre ++ R)) ((pre ++ R).length : Int) c7 c8 c9 c10 c11) (P, (pre.length : Int), c.1.A, c.1.B, s.Script, s.At, s.State, s.Count) =
      some (.inr (.inr (P ++ kv (vfM kind bv0 R pre.length c s).2.1, ((pre ++ R).length : Int), false, (vfM kind bv0 R pre.length c s).2.2.1.1.A, (vfM kind bv0 R pre.length c s).2.2.1.1.B, (vfM kind bv0 R pre.length c s).2.2.2.Script, (vfM kind bv0 R pre.length c s).2.2.2.At, (vfM kind bv0 R pre.length c s).2.2.2.State, (vfM kind bv0 R pre.length c s).2.2.2.Count)))) ∧
    ((vfM kind bv0 R pre.length c s).1 ≠ 0 → ((vfM kind bv0 R pre.length c s).1 = 18 ∧ ∃ P' A B C D E F S0 S1 S2 S3, Loop (s_l08Verify_1_s (kind : Int) (kvv (pre ++ R)) ((pre ++ R).length : Int) c7 c8 c9 c10 c11) (P, (pre.length : Int), c.1.A, c.1.B, s.Script, s.At, s.State, s.Count) =
      some (.inl (P', [], A, B, C, D, E, F, S0, S1, S2, S3)) ∧ Source.mk S0 S1 S2 S3 = (vfM kind bv0 R pre.length c s).2.2.2) ∨
      ((vfM kind bv0 R pre.length c s).1 = 10 ∧ ∃ P' A B C D E F S0 S1 S2 S3, Loop (s_l08Verify_1_s (kind : Int) (kvv (pre ++ R)) ((pre ++ R).length : Int) c7 c8 c9 c10 c11) (P, (pre.length : Int), c.1.A, c.1.B, s.Script, s.At, s.State, s.Count) =
      some (.inr (.inl (P', [], A, B, C, D, E, F, S0, S1, S2, S3))) ∧ Source.mk S0 S1 S2 S3 = (vfM kind bv0 R pre.length c s).2.2.2))
  | [], pre, c, s, k, P, hf, hk, hP, hp => by
    refine ⟨fun _ => Loop_inr ?_, fun h => absurd rfl h⟩
    simp only [s_l08Verify_1_s, List.append_nil]
    rw [brn (by omega), decide_eq_false (by omega)]
    simp [vfM, kv]
  | g :: R, pre, c, s, k, P, hf, hk, hP, hp => by
    rw [List.length_cons] at hk hP hp
    have hat : atL (kvv (pre ++ g :: R)) (pre.length : Int) = some (kv g) := by rw [kvv_at (by simp)]; simp
    have hlt : (pre.length : Int) < ((pre ++ g :: R).length : Int) := by rw [List.length_append, List.length_cons]; omega
    have hd : s_l08Degree (kind : Int) = some ((kind + 1 : Nat) : Int) := by unfold s_l08Degree; rw [wrap_i64 _ (by omega) (by omega)]; rfl
    rw [vfM]
    by_cases h1 : g.length = kind + 2
    · by_cases h2 : g.getD 0 0 + g.getD 1 0 = c
      · rw [if_pos h1, if_pos h2]
        have ih := s_vf_loop (c7 := c7) (c8 := c8) (c9 := c9) (c10 := c10) (c11 := c11) hkd R (pre ++ [g]) (lnK g (rdM s g)) (nsM s g) (k + 2) (P ++ [(rdM s g).1]) (ns_few hf (by omega) g) (by omega) (by rw [List.length_append, List.length_singleton]; omega) (by rw [List.length_append, List.length_singleton]; omega)
        rw [List.append_assoc, List.singleton_append, List.length_append, List.length_singleton] at ih
        have step : s_l08Verify_1_s (kind : Int) (kvv (pre ++ g :: R)) ((pre ++ g :: R).length : Int) c7 c8 c9 c10 c11 (P, (pre.length : Int), c.1.A, c.1.B, s.Script, s.At, s.State, s.Count) =
            some (.inl (P ++ [(rdM s g).1], ((pre.length + 1 : Nat) : Int), (lnK g (rdM s g)).1.A, (lnK g (rdM s g)).1.B, (nsM s g).Script, (nsM s g).At, (nsM s g).State, (nsM s g).Count)) := by
          simp only [s_l08Verify_1_s]
          rw [brd hlt, hat, Option.bind_some, hd, Option.bind_some, wrap_i64 _ (by omega) (by omega), brbe (by rw [kv_len]; omega), atK (i := 0) (j := 0) rfl (by omega), Option.bind_some, atK (i := 1) (j := 1) rfl (by omega), Option.bind_some, s_eadd_eq (Subtype.property _) (Subtype.property _), Option.bind_some]
          rw [show eA (g.getD 0 0).1 (g.getD 1 0).1 = c.1 from congrArg Subtype.val h2, bre rfl, bre rfl, show Source.mk s.Script s.At s.State s.Count = s from rfl, s_absE hf.1 (by omega), Option.bind_some, s_drK hf, Option.bind_some]
          dsimp only
          rw [s_line_eq _ (by omega), Option.bind_some, br_fits (by rw [List.length_append, List.length_singleton]; omega), wrap_i64 _ (by omega) (by omega)]; rfl
        refine ⟨fun h => ?_, fun h => ?_⟩
        · rw [Loop_inl step, ih.1 h]
          simp [kv, bv0]
        · rcases ih.2 h with ⟨q, P', A, B, C, D, E, F, S0, S1, S2, S3, e, e2⟩ | ⟨q, P', A, B, C, D, E, F, S0, S1, S2, S3, e, e2⟩
          · exact .inl ⟨q, P', A, B, C, D, E, F, S0, S1, S2, S3, by rw [Loop_inl step, e], e2⟩
          · exact .inr ⟨q, P', A, B, C, D, E, F, S0, S1, S2, S3, by rw [Loop_inl step, e], e2⟩
      · rw [if_pos h1, if_neg h2]
        refine ⟨fun h => absurd (show (10 : Int) = 0 from h) (by decide), fun _ => .inr ⟨rfl, P, c.1.A, c.1.B, s.Script, s.At, s.State, s.Count, s.Script, s.At, s.State, s.Count, Loop_inr ?_, rfl⟩⟩
        simp only [s_l08Verify_1_s]
        rw [brd hlt, hat, Option.bind_some, hd, Option.bind_some, wrap_i64 _ (by omega) (by omega), brbe (by rw [kv_len]; omega), atK (i := 0) (j := 0) rfl (by omega), Option.bind_some, atK (i := 1) (j := 1) rfl (by omega), Option.bind_some, s_eadd_eq (Subtype.property _) (Subtype.property _), Option.bind_some]
        rw [show eA (g.getD 0 0).1 (g.getD 1 0).1 = (g.getD 0 0 + g.getD 1 0).1 from rfl, br_K, if_neg h2]
    · rw [if_neg h1]
      refine ⟨fun h => absurd (show (18 : Int) = 0 from h) (by decide), fun _ => .inl ⟨rfl, P, c.1.A, c.1.B, s.Script, s.At, s.State, s.Count, s.Script, s.At, s.State, s.Count, Loop_inr ?_, rfl⟩⟩
      simp only [s_l08Verify_1_s]
      rw [brd hlt, hat, Option.bind_some, hd, Option.bind_some, wrap_i64 _ (by omega) (by omega), brb (by rw [kv_len]; omega)]
theorem s_verify_eq (hkd : kind = 1 ∨ kind = 2) {R : List (List K)} {c : K} {s : Source} {k : Int} (hf : Few s k) (hk : k + 3 * R.length ≤ 1000) :
    s_l08Verify (kind : Int) c.1 (kvv R) (R.length : Int) s = some (if (vfM kind bv0 R 0 c s).1 = 0 then (kv (vfM kind bv0 R 0 c s).2.1, (vfM kind bv0 R 0 c s).2.2.1.1, (vfM kind bv0 R 0 c s).2.2.2, 0) else ([], e0, (vfM kind bv0 R 0 c s).2.2.2, (vfM kind bv0 R 0 c s).1)) := by
  have hk0 : 0 ≤ k := by have := hf.2; have := hf.1.4; omega
  have h := s_vf_loop (c7 := 0) (c8 := 0) (c9 := 0) (c10 := []) (c11 := 0) hkd R [] c s k [] hf hk (by rw [List.length_nil]; omega) (by rw [List.length_nil]; omega)
  rw [List.nil_append, List.length_nil] at h
  unfold s_l08Verify
  rw [kvv_len, brbe rfl]
  by_cases h0 : (vfM kind bv0 R 0 c s).1 = 0
  · rw [if_pos h0]
    have := h.1 h0
    rw [show (((0 : Nat) : Int)) = 0 from rfl] at this
    rw [this]; rfl
  · rw [if_neg h0]
    rcases h.2 h0 with ⟨q, P', A, B, C, D, E, F, S0, S1, S2, S3, e, e2⟩ | ⟨q, P', A, B, C, D, E, F, S0, S1, S2, S3, e, e2⟩
    · rw [show (((0 : Nat) : Int)) = 0 from rfl] at e
      rw [e, q, ← e2]; rfl
    · rw [show (((0 : Nat) : Int)) = 0 from rfl] at e
      rw [e, q, ← e2]; rfl
theorem s_SumVerify_eq (hkd : kind = 1 ∨ kind = 2) {R : List (List K)} {c : K} {s : Source} {k : Int} (hf : Few s k) (hk : k ≤ 700) (hR : Rds R) (hl : R.length ≤ 6) :
    s_SumVerify (kind : Int) c.1 (kvv R) (R.length : Int) s = some (svM kind c R (R.length : Int) s) := by
  have h64 := hf.1.1
  have hkk : s_l08Kind (kind : Int) = some true := by
    unfold s_l08Kind
    rcases hkd with h | h
    · rw [bre (by omega)]
    · rw [brne (by omega), h]; rfl
  unfold s_SumVerify svM
  rw [kvv_len, brn (by omega), s_roundsOK_eq hR (by omega), Option.bind_some, bre rfl, s_ExtOK_eq, Option.bind_some, okEb_iff.2 c.2, Bool.not_true, br_false, s_SourceOK_t hf.1, Option.bind_some, Bool.not_true, br_false, bre rfl, hkk, Option.bind_some, Bool.not_true, br_false, s_in_eq, Option.bind_some, decide_eq_true (by omega), decide_eq_true (by omega), Bool.and_self, Bool.not_true, br_false, bre rfl, spent_no6 hf (by omega), Option.bind_some, br_false, brbe rfl, s_verify_eq hkd hf (by omega), Option.bind_some, if_pos rfl]
  by_cases h3 : (vfM kind bv0 R 0 c s).1 = 0
  · rw [if_pos h3, if_pos h3, brbe rfl]
    dsimp only
    rw [s_own_eq (by have := (vf_few (kind := kind) bv0_ok R 0 c s k hf (by omega)).1.1; omega)]; rfl
  · rw [if_neg h3, if_neg h3, brb h3]; rfl
end Go.AI.Fn

set_option linter.unusedVariables false
set_option linter.unusedSimpArgs false
namespace Go.AI.Fn

theorem small_ne {c : K} {n : Int} (h0 : 1 ≤ n) (h1 : n ≤ 1000) : c + kF n ≠ c := fun e => by
  have : kF n = 0 := by exact kg
  have h := congrArg (fun z : K => z.1.A) this
  have h2 : (kF n).1.A = n % 2130706433 := rfl
  have h3 : (0 : K).1.A = 0 := rfl
  rw [h2, h3] at h
  omega
theorem i_ExtAdd_K (a b : K) : i_ExtAdd a.1 b.1 = some ((a + b).1, 0) := by
  unfold i_ExtAdd i_extTwo_plus
  rw [i_ExtOK_eq, Option.bind_some, okEb_iff.2 a.2, Bool.not_true, br_false, i_ExtOK_eq, Option.bind_some, okEb_iff.2 b.2, Bool.not_true, br_false, i_plus_eq a.2 b.2]; rfl
theorem law_FnSumLies (a b : List UInt8) (ha : bdL bdT a) (hb : bdL bdT b) : w_FnSumLies a b = some true := by
  unfold w_FnSumLies
  by_cases c1 : ((a.length : Nat) : Int) > 1048576
  · rw [brd c1]
  rw [brn c1]
  by_cases c2 : ((b.length : Nat) : Int) > 1048576
  · rw [brd c2]
  rw [brn c2]
  obtain ⟨x, e1, x0, x1⟩ := at_ok (a := b) (i := 0) (n := 2) (by omega) (by omega) (by omega) (by omega)
  obtain ⟨y, e2, y0, y1⟩ := at_ok (a := b) (i := 1) (n := 3) (by omega) (by omega) (by omega) (by omega)
  obtain ⟨z, e5, z0, z1⟩ := at_ok (a := b) (i := 2) (n := 90) (by omega) (by omega) (by omega) (by omega)
  obtain ⟨kind, hkx, hkd⟩ : ∃ kind : Nat, 1 + x = (kind : Int) ∧ (kind = 1 ∨ kind = 2) := ⟨(1 + x).toNat, by omega, by omega⟩
  obtain ⟨v, hvy, hv⟩ : ∃ v : Nat, 1 + y = ((v + 1 : Nat) : Int) ∧ v ≤ 2 := ⟨y.toNat, by omega, by omega⟩
  have hp := p2le (v + 1) (by omega)
  obtain ⟨T, e3, hT⟩ := TablesOf_ok (kind := kind) (code := a) (v := v + 1) hkd (by omega) (by omega)
  obtain ⟨s, e4, hf⟩ := SourceOf_ok (code := b) (by omega)
  have hln := pv_len (kind := kind) (bh := bh0) (v + 1) [] T s
  have hrl := pv_rlen (kind := kind) (bh := bh0) (v + 1) [] T s
  have hprove := i_SumProve_eq (v := v + 1) hT (by omega) hf (by omega)
  have hg0 : ∃ g R', (pvM kind bh0 (v + 1) [] T s).1 = g :: R' ∧ g.getD 0 0 + g.getD 1 0 = totK kind T (2 ^ (v + 1)) := by
    have h2 := hT
    rw [two_pow] at h2
    have hT4 : ∀ i, i < 4 → (T.getD i []).length = 2 * 2 ^ v ∨ T.getD i [] = [] := fun i _ => by
      by_cases c : i < T.length
      · exact .inl (h2.tab i c)
      · exact .inr (by simp [c])
    refine ⟨_, _, rfl, ?_⟩
    have g0 : (rdK kind T (2 ^ v)).getD 0 0 = totK kind (bdK 0 T) (2 ^ v) := by rw [rdK, getD_mr (by omega)]; rfl
    have g1 : (rdK kind T (2 ^ v)).getD 1 0 = totK kind (bdK 1 T) (2 ^ v) := by rw [rdK, getD_mr (by omega)]; rfl
    rw [g0, g1, two_pow, tot_split hT4]
  obtain ⟨g, R', hRg, hgs⟩ := hg0
  generalize hq : pvM kind bh0 (v + 1) [] T s = q at *
  obtain ⟨R, P, Z, s2⟩ := q
  dsimp only at *
  subst hRg
  have hgl := hrl g (by simp)
  have hR : Rds (g :: R') := fun w hw => by have := hrl w hw; omega
  obtain ⟨hl1, _⟩ := hln
  rw [List.length_cons] at hl1
  generalize hw : totK kind T (2 ^ (v + 1)) + kF (1 + z) = w
  have hwn : g.getD 0 0 + g.getD 1 0 ≠ w := by rw [← hw, hgs]; exact fun e => small_ne (by omega) (by omega) e.symm
  have hadd : i_ExtAdd (totK kind T (2 ^ (v + 1))).1 ⟨1 + z, 0⟩ = some (w.1, 0) := by
    have := i_ExtAdd_K (totK kind T (2 ^ (v + 1))) (kF (1 + z))
    rw [kF_val ⟨by omega, by omega⟩, hw] at this; exact this
  have hadd2 : i_ExtAdd (g.getD 0 0).1 ⟨1 + z, 0⟩ = some ((g.getD 0 0 + kF (1 + z)).1, 0) := by
    have := i_ExtAdd_K (g.getD 0 0) (kF (1 + z))
    rw [kF_val ⟨by omega, by omega⟩] at this; exact this
  have hv1 := i_SumVerify_eq hkd (R := g :: R') (c := w) (vars := ((v + 1 : Nat) : Int)) hf (by omega) hR (by rw [List.length_cons]; omega) (by omega) (by omega)
  rw [svM, if_pos (by rw [List.length_cons]; omega), vfM, if_pos hgl, if_neg hwn, if_neg (fun h => absurd (show (10 : Int) = 0 from h) (by decide))] at hv1
  -- the rounds without the last one
  obtain ⟨R2, hR2⟩ : ∃ R2, R2 = (g :: R').take v := ⟨_, rfl⟩
  have hsub : subL (kvv (g :: R')) 0 (v : Int) = some (kvv R2) := by
    rw [subL_of (by omega) (by omega) (by rw [kvv_len, List.length_cons]; omega)]
    simp [hR2, kvv]
  have hR2l : R2.length = v := by rw [hR2, List.length_take, List.length_cons]; omega
  have hv2 := i_SumVerify_eq hkd (R := R2) (c := totK kind T (2 ^ (v + 1))) (vars := ((v + 1 : Nat) : Int)) hf (by omega) (fun w hw => hR w (List.mem_of_mem_take (by rw [← hR2]; exact hw))) (by omega) (by omega) (by omega)
  rw [svM, if_neg (by omega)] at hv2
  -- the first round bent
  have hg3 : ∃ x0 gs, g = x0 :: gs ∧ gs.length = kind + 1 := by
    match g, hgl with
    | x0 :: gs, h => exact ⟨x0, gs, rfl, by simpa using h⟩
  obtain ⟨x0', gs, rfl, hgs2⟩ := hg3
  have hbl : Rds (((x0' + kF (1 + z)) :: gs) :: R') := fun w hw => by
    rcases List.mem_cons.1 hw with rfl | hw
    · rw [List.length_cons]; omega
    · exact hR w (by simp [hw])
  have hv3 := i_SumVerify_eq hkd (R := ((x0' + kF (1 + z)) :: gs) :: R') (c := w) (vars := ((v + 1 : Nat) : Int)) hf (by omega) hbl (by rw [List.length_cons]; omega) (by omega) (by omega)
  have hv4 := s_SumVerify_eq hkd (R := ((x0' + kF (1 + z)) :: gs) :: R') (c := w) hf (by omega) hbl (by rw [List.length_cons]; omega)
  rw [List.length_cons, hl1] at hv4
  have hset : (([] : List (List Ext)) ++ kvv ((x0' :: gs) :: R')).set 0 ([((x0' :: gs).getD 0 0 + kF (1 + z)).1] ++ kv gs) = kvv (((x0' + kF (1 + z)) :: gs) :: R') := by simp [kvv, kv]
  have hx : (([] : List (List Ext)) ++ kvv ((x0' :: gs) :: R'))[0]? = some (kv (x0' :: gs)) := rfl
  have hlen : (([] : List (List Ext)) ++ kvv ((x0' :: gs) :: R')).length = R'.length + 1 := by rw [List.nil_append, kvv_len, List.length_cons]
  have hsb : subL (kv (x0' :: gs)) 1 (((kv (x0' :: gs)).length : Nat) : Int) = some (kv gs) := by
    rw [subL_of (by omega) (by rw [kv_len, List.length_cons]; omega) (by omega)]
    show some ((kv gs).take _) = _
    rw [List.take_of_length_le (by rw [kv_len, kv_len, List.length_cons]; omega)]
  rw [e1, Option.bind_some, e2, Option.bind_some, wrap_i64 (1 + x) (by omega) (by omega), wrap_i64 (1 + y) (by omega) (by omega), hkx, hvy, e3, Option.bind_some, e4, Option.bind_some, i_SumOf_eq hT (by omega), Option.bind_some, e5, Option.bind_some, wrap_i64 (1 + z) (by omega) (by omega)]
  dsimp only
  rw [hadd, Option.bind_some, hprove, Option.bind_some]
  dsimp only
  rw [hv1, Option.bind_some, wrap_i64 _ (by omega) (by omega), show (((v + 1 : Nat) : Int)) - 1 = (v : Int) by omega, hsub, Option.bind_some, hv2, Option.bind_some, br_fits (by rw [hlen]; omega), brd (by rw [hlen]; omega), hx, Option.bind_some, kv0 (by simp), Option.bind_some, Option.bind_some]
  rw [wrap_i64 (1 + z) (by omega) (by omega), hadd2, Option.bind_some, brd (by rw [hlen]; omega), Option.bind_some, hsb, Option.bind_some]
  dsimp only
  rw [br_fits (by rw [List.length_append, List.length_singleton, kv_len]; omega), brd (by rw [hlen]; omega), Option.bind_some, hset, hv3, Option.bind_some, hv4, Option.bind_some, bre rfl, bre rfl, bre rfl, bre rfl, bre rfl, bre rfl]
  simp
end Go.AI.Fn
