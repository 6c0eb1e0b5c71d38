/- Plain laws for printed functions: loops whose states are told in advance; numbers; places. -/
import Derived.Test.YtmhgflhndmcdmaaGreatAiW
import Derived.Test.YtmhgflhndmcdmaaGreatFx1
import Derived.KernelRfl
set_option linter.unusedVariables false
namespace Go.AI

theorem Loop_inl {S E : Type} {step : S → Option (S ⊕ E)} {s s' : S} (h : step s = some (.inl s')) : Loop step s = Loop step s' := by rw [Loop_eq, h]; rfl
theorem Loop_inr {S E : Type} {step : S → Option (S ⊕ E)} {s : S} {e : E} (h : step s = some (.inr e)) : Loop step s = some e := by rw [Loop_eq, h]; rfl
/-- A loop that goes through states that are told. -/
theorem Loop_for {S E : Type} {step : S → Option (S ⊕ E)} (F : Nat → S) (n : Nat) {e : E} (hs : ∀ k, k < n → step (F k) = some (.inl (F (k + 1)))) (he : step (F n) = some (.inr e)) : Loop step (F 0) = some e := by
  have key : ∀ m k, k + m = n → Loop step (F k) = some e := by
    intro m
    induction m with
    | zero => intro k hk; have : k = n := by omega
              subst this; exact Loop_inr he
    | succ m ih => intro k hk; rw [Loop_inl (hs k (by omega))]; exact ih (k + 1) (by omega)
  exact key n 0 (by omega)
/-- The first place where something fails. -/
theorem first_bad (P : Nat → Bool) : ∀ n, (∀ k, k < n → P k = true) ∨ ∃ k, k < n ∧ P k = false ∧ ∀ j, j < k → P j = true
  | 0 => .inl (by omega)
  | n + 1 => by
    rcases first_bad P n with h | ⟨k, hk, h1, h2⟩
    · cases hn : P n
      · exact .inr ⟨n, by omega, hn, h⟩
      · refine .inl fun k hk => ?_
        by_cases e : k = n
        · subst e; exact hn
        · exact h k (by omega)
    · exact .inr ⟨k, by omega, h1, h2⟩
/-- A loop that goes on as long as something holds. -/
theorem Loop_all {S E : Type} {step : S → Option (S ⊕ E)} (F : Nat → S) (n : Nat) (P : Nat → Bool) (x : Nat → E) {e : E} (hs : ∀ k, k < n → P k = true → step (F k) = some (.inl (F (k + 1))))
    (hx : ∀ k, k < n → P k = false → step (F k) = some (.inr (x k))) (he : step (F n) = some (.inr e)) :
    ((∀ k, k < n → P k = true) ∧ Loop step (F 0) = some e) ∨ ∃ k, k < n ∧ P k = false ∧ (∀ j, j < k → P j = true) ∧ Loop step (F 0) = some (x k) := by
  rcases first_bad P n with h | ⟨k, hk, h1, h2⟩
  · exact .inl ⟨h, Loop_for F n (fun k hk => hs k hk (h k hk)) he⟩
  · exact .inr ⟨k, hk, h1, h2, Loop_for F k (fun j hj => hs j (by omega) (h2 j hj)) (hx k hk h1)⟩
/-- A loop with an invariant, a measure, a postcondition. -/
theorem Loop_inv {S E : Type} {step : S → Option (S ⊕ E)} (Inv : S → Prop) (me : S → Nat) (Post : E → Prop)
    (hs : ∀ s, Inv s → (∃ s', step s = some (.inl s') ∧ Inv s' ∧ me s' < me s) ∨ (∃ e, step s = some (.inr e) ∧ Post e)) :
    ∀ s, Inv s → ∃ e, Loop step s = some e ∧ Post e := by
  intro s
  generalize hm : me s = m
  induction m using Nat.strongRecOn generalizing s with
  | _ m ih =>
    intro hi
    rw [Loop_eq]
    rcases hs s hi with ⟨s', h1, h2, h3⟩ | ⟨e, h1, h2⟩
    · rw [h1]; exact ih (me s') (by omega) s' rfl h2
    · rw [h1]; exact ⟨e, rfl, h2⟩

theorem br_of {α : Type} {c : Bool} {x y : α} (h : c = true) : br c x y = x := by subst h; rfl
theorem br_no {α : Type} {c : Bool} {x y : α} (h : c = false) : br c x y = y := by subst h; rfl
theorem brd {α : Type} {p : Prop} [Decidable p] {x y : α} (h : p) : br (decide p) x y = x := br_of (decide_eq_true h)
theorem brn {α : Type} {p : Prop} [Decidable p] {x y : α} (h : ¬p) : br (decide p) x y = y := br_no (decide_eq_false h)
theorem brdd {α : Type} {p q : Prop} [Decidable p] [Decidable q] {x y : α} (h : p) (g : q) : br (decide p && decide q) x y = x := br_of (by simp [h, g])
theorem bre {α : Type} {a b : Int} {x y : α} (h : a = b) : br (a == b) x y = x := br_of (by simp [h])
theorem brne {α : Type} {a b : Int} {x y : α} (h : a ≠ b) : br (a == b) x y = y := br_no (by simp [h])
theorem brb {α : Type} {a b : Int} {x y : α} (h : a ≠ b) : br (a != b) x y = x := br_of (by simp [h])
theorem brbe {α : Type} {a b : Int} {x y : α} (h : a = b) : br (a != b) x y = y := br_no (by simp [h])
theorem tmod_nn (a b : Int) (h : 0 ≤ a) : a.tmod b = a % b := Int.tmod_eq_emod_of_nonneg h
theorem tdiv_nn (a b : Int) (h : 0 ≤ a) : a.tdiv b = a / b := Int.tdiv_eq_ediv_of_nonneg h
theorem u8_lt (x : UInt8) : (x.toNat : Int) < 256 := by have := x.toNat_lt; omega
theorem fits_of {n b : Nat} (h : n * b ≤ 1099511627776) : fits n b = true := by simp [fits, okBound, h]
theorem br_fits {α : Type} {n b : Nat} {x y : α} (h : n * b ≤ 1099511627776) : br (fits n b) x y = x := br_of (fits_of h)
theorem mkOK_of {l c : Int} {b : Nat} (h0 : 0 ≤ l) (h1 : l ≤ c) (h2 : c * b ≤ 1099511627776) : mkOK l c b = true := by simp [mkOK, okBound, h0, h1, h2]
theorem br_mk {α : Type} {l c : Int} {b : Nat} {x y : α} (h0 : 0 ≤ l) (h1 : l ≤ c) (h2 : c * b ≤ 1099511627776) : br (mkOK l c b) x y = x := br_of (mkOK_of h0 h1 h2)

theorem atL_nat {α : Type} {l : List α} {k : Nat} (h : k < l.length) : atL l (k : Int) = some l[k] := by simp [atL, h]
theorem get_bind {β : Type} {l : List Int} {i : Nat} {f : Int → Option β} (h : i < l.length) : (l[i]?).bind f = f (l.getD i 0) := by simp [h]
theorem get_some {α : Type} {l : List α} {i : Nat} (h : i < l.length) : l[i]? = some l[i] := List.getElem?_eq_getElem h
theorem atL_of {α : Type} {l : List α} {i : Int} (h0 : 0 ≤ i) (h1 : i < l.length) : ∃ x, atL l i = some x ∧ l[i.toNat]? = some x ∧ x ∈ l := by
  have h : i.toNat < l.length := by omega
  exact ⟨l[i.toNat], by simp [atL, h0, h], by simp [h], List.getElem_mem h⟩
theorem drop_cons {α : Type} {l : List α} {i : Nat} (h : i < l.length) : ∃ x r, l.drop i = x :: r ∧ l.drop (i + 1) = r ∧ l[i]? = some x :=
  ⟨l[i], l.drop (i + 1), List.drop_eq_getElem_cons h, rfl, by simp [h]⟩
theorem atL_drop {α : Type} {l r : List α} {x : α} {i : Int} (h0 : 0 ≤ i) (h : l.drop i.toNat = x :: r) : atL l i = some x := by
  have : l[i.toNat]? = some x := by rw [← List.head?_drop, h]; rfl
  simp [atL, h0, this]
theorem subL_of {α : Type} {l : List α} {a b : Int} (h0 : 0 ≤ a) (h1 : a ≤ b) (h2 : b ≤ l.length) : subL l a b = some ((l.drop a.toNat).take (b.toNat - a.toNat)) := by
  simp [subL, h0, h1, h2, List.drop_take]
theorem take_succ {α : Type} {l : List α} {k : Nat} (h : k < l.length) : l.take (k + 1) = l.take k ++ [l[k]] := by rw [List.take_succ_eq_append_getElem h]
theorem cast_succ (k : Nat) : ((k + 1 : Nat) : Int) = (k : Int) + 1 := by omega
theorem nZ_len (n : Nat) : (nZ n).length = n := by simp [nZ]
/-- A state that is turned step by step. -/
def iU {α : Type} (f : Nat → α → α) : Nat → α → α
  | 0, l => l
  | k + 1, l => f k (iU f k l)
theorem iU_len {f : Nat → List Int → List Int} (hf : ∀ k l, (f k l).length = l.length) : ∀ (k : Nat) (l : List Int), (iU f k l).length = l.length
  | 0, l => rfl
  | k + 1, l => by rw [iU, hf, iU_len hf k l]
end Go.AI

set_option linter.unusedVariables false
set_option linter.unusedSimpArgs false
namespace Go.AI.Fn

def okF (a : Int) : Prop := 0 ≤ a ∧ a ≤ 2130706432
def okE (x : Ext) : Prop := okF x.A ∧ okF x.B
def okFb (a : Int) : Bool := decide (0 ≤ a) && decide (a ≤ 2130706432)
def okEb (x : Ext) : Bool := okFb x.A && okFb x.B
theorem okFb_iff {a : Int} : okFb a = true ↔ okF a := by simp [okFb, okF]
theorem okEb_iff {x : Ext} : okEb x = true ↔ okE x := by simp [okEb, okE, okFb_iff]

def aF (a b : Int) : Int := (a + b) % 2130706433
def sF (a b : Int) : Int := (a - b) % 2130706433
def mF (a b : Int) : Int := (a * b) % 2130706433
def eA (x y : Ext) : Ext := ⟨(x.A + y.A) % 2130706433, (x.B + y.B) % 2130706433⟩
def eS (x y : Ext) : Ext := ⟨(x.A - y.A) % 2130706433, (x.B - y.B) % 2130706433⟩
def eM (x y : Ext) : Ext := ⟨(x.A * y.A + 3 * (x.B * y.B)) % 2130706433, (x.A * y.B + x.B * y.A) % 2130706433⟩
def e0 : Ext := ⟨0, 0⟩
def e1 : Ext := ⟨1, 0⟩
def eN (n : Int) : Ext := ⟨n, 0⟩

theorem okF3 : okF 3 := ⟨by decide, by decide⟩
theorem okF1 : okF 1 := ⟨by decide, by decide⟩
theorem okF0 : okF 0 := ⟨by decide, by decide⟩
theorem okF_mod (a : Int) : okF (a % 2130706433) := ⟨by omega, by omega⟩
theorem mF_ok (a b : Int) : okF (mF a b) := okF_mod _
theorem eA_ok (x y : Ext) : okE (eA x y) := ⟨okF_mod _, okF_mod _⟩
theorem eS_ok (x y : Ext) : okE (eS x y) := ⟨okF_mod _, okF_mod _⟩
theorem eM_ok (x y : Ext) : okE (eM x y) := ⟨okF_mod _, okF_mod _⟩
theorem e0_ok : okE e0 := ⟨⟨by decide, by decide⟩, ⟨by decide, by decide⟩⟩
theorem e1_ok : okE e1 := ⟨⟨by decide, by decide⟩, ⟨by decide, by decide⟩⟩
theorem eN_ok {n : Int} (h : okF n) : okE (eN n) := ⟨h, okF0⟩

theorem mul_bd {a b : Int} (ha : okF a) (hb : okF b) : 0 ≤ a * b ∧ a * b ≤ 4539909900063178624 :=
  ⟨Int.mul_nonneg ha.1 hb.1, Int.le_trans (Int.mul_le_mul ha.2 hb.2 hb.1 (by decide)) (by decide)⟩
theorem mod_self {a : Int} (h : okF a) : a % 2130706433 = a := by obtain ⟨h1, h2⟩ := h; omega

/-! ### remainders of remainders -/
theorem ext_eq {x y : Ext} (h1 : x.A = y.A) (h2 : x.B = y.B) : x = y := by cases x; cases y; cases h1; cases h2; rfl
theorem mA1 (a b : Int) : (a % 2130706433 + b) % 2130706433 = (a + b) % 2130706433 := Int.emod_add_emod _ _ _
theorem mA2 (a b : Int) : (a + b % 2130706433) % 2130706433 = (a + b) % 2130706433 := Int.add_emod_emod _ _ _
theorem mM1 (a b : Int) : (a % 2130706433 * b) % 2130706433 = (a * b) % 2130706433 := by rw [Int.mul_emod, Int.emod_emod, ← Int.mul_emod]
theorem mM2 (a b : Int) : (a * (b % 2130706433)) % 2130706433 = (a * b) % 2130706433 := by rw [Int.mul_emod, Int.emod_emod, ← Int.mul_emod]
theorem mX1 (a b c : Int) : (a % 2130706433 * b + c) % 2130706433 = (a * b + c) % 2130706433 := by rw [← mA1, mM1, mA1]
theorem mX4 (a b c : Int) : (c + a * (b % 2130706433)) % 2130706433 = (c + a * b) % 2130706433 := by rw [← mA2, mM2, mA2]
/-! ### the program -/
theorem add_w {a b : Int} (ha : okF a) (hb : okF b) : (IntKind.wrap .i64 (a + b)).tmod 2130706433 = aF a b := by
  obtain ⟨h1, h2⟩ := ha; obtain ⟨h3, h4⟩ := hb
  unfold aF; rw [wrap_i64 _ (by omega) (by omega), tmod_nn _ _ (by omega)]
theorem mul_w {a b : Int} (ha : okF a) (hb : okF b) : (IntKind.wrap .i64 (a * b)).tmod 2130706433 = mF a b := by
  have h := mul_bd ha hb
  unfold mF; rw [wrap_i64 _ (by omega) (by omega), tmod_nn _ _ (by omega)]
theorem eM_form (x y : Ext) : eM x y = ⟨aF (mF x.A y.A) (mF 3 (mF x.B y.B)), aF (mF x.A y.B) (mF x.B y.A)⟩ := by
  unfold eM aF mF
  congr 1
  · rw [mA1, mA2, mX4]
  · rw [mA1, mA2]
theorem i_in_eq (n a b : Int) : i_in n a b = some (decide (a ≤ n) && decide (n ≤ b)) := by
  unfold i_in; cases decide (a ≤ n) <;> rfl
theorem i_FieldOK_eq (a : Int) : i_FieldOK a = some (okFb a) := by
  unfold i_FieldOK; rw [i_in_eq]; rfl
theorem i_ExtOK_eq (x : Ext) : i_ExtOK x = some (okEb x) := by
  unfold i_ExtOK okEb; rw [i_FieldOK_eq, i_FieldOK_eq]; cases okFb x.A <;> rfl
/-! ### the reference -/
theorem s_add_eq {a b : Int} (ha : okF a) (hb : okF b) : s_l01Add a b = some (aF a b) := by unfold s_l01Add; rw [add_w ha hb]
theorem s_sub_eq {a b : Int} (ha : okF a) (hb : okF b) : s_l01Sub a b = some (sF a b) := by
  obtain ⟨h1, h2⟩ := ha; obtain ⟨h3, h4⟩ := hb
  unfold s_l01Sub sF; rw [wrap_i64 (a + 2130706433) (by omega) (by omega), wrap_i64 _ (by omega) (by omega), tmod_nn _ _ (by omega)]
  congr 1; omega
theorem s_mul_eq {a b : Int} (ha : okF a) (hb : okF b) : s_l01Mul a b = some (mF a b) := by unfold s_l01Mul; rw [mul_w ha hb]
theorem s_eadd_eq {x y : Ext} (hx : okE x) (hy : okE y) : s_l02Add x y = some (eA x y) := by
  unfold s_l02Add; rw [s_add_eq hx.1 hy.1, s_add_eq hx.2 hy.2]; rfl
theorem s_esub_eq {x y : Ext} (hx : okE x) (hy : okE y) : s_l02Sub x y = some (eS x y) := by
  unfold s_l02Sub; rw [s_sub_eq hx.1 hy.1, s_sub_eq hx.2 hy.2]; rfl
theorem s_emul_eq {x y : Ext} (hx : okE x) (hy : okE y) : s_l02Mul x y = some (eM x y) := by
  unfold s_l02Mul
  have h3 : (IntKind.wrap .i64 (3 * mF x.B y.B)).tmod 2130706433 = mF 3 (mF x.B y.B) := mul_w okF3 (mF_ok x.B y.B)
  rw [s_mul_eq hx.1 hy.1, s_mul_eq hx.2 hy.2]
  simp only [Option.bind_some]
  rw [h3, s_add_eq (mF_ok _ _) (mF_ok _ _), s_mul_eq hx.1 hy.2, s_mul_eq hx.2 hy.1]
  simp only [Option.bind_some]
  rw [s_add_eq (mF_ok _ _) (mF_ok _ _), eM_form]; rfl
theorem s_of_eq (n : Int) : s_l02Of n = some (eN n) := rfl
theorem s_one_eq : s_l06One = some e1 := rfl
theorem s_less_eq {x : Ext} (hx : okE x) : s_l06Less x = some (eS e1 x) := by
  unfold s_l06Less; rw [s_one_eq, Option.bind_some, s_esub_eq e1_ok hx]; rfl
theorem s_in_eq (n a b : Int) : s_l01In n a b = some (decide (a ≤ n) && decide (n ≤ b)) := by
  unfold s_l01In; cases decide (a ≤ n) <;> rfl
theorem s_FieldOK_eq (a : Int) : s_FieldOK a = some (okFb a) := by
  unfold s_FieldOK; rw [s_in_eq]; rfl
theorem s_ExtOK_eq (x : Ext) : s_ExtOK x = some (okEb x) := by
  unfold s_ExtOK okEb; rw [s_FieldOK_eq, s_FieldOK_eq]; cases okFb x.A <;> rfl

/-! ### laws -/
theorem sub_self (x : Ext) : eS x x = e0 := by
  apply ext_eq <;> simp [eS, e0]
end Go.AI.Fn

set_option linter.unusedVariables false
set_option linter.unusedSimpArgs false
namespace Go.AI.Fn

/-- A power, by squares. -/
def pF (a : Int) (n : Nat) : Int := (a ^ n) % 2130706433
theorem pF_ok (a : Int) (n : Nat) : okF (pF a n) := okF_mod _
theorem pow_even {a : Int} {n : Nat} (h : n % 2 = 0) : (a * a) ^ (n / 2) = a ^ n := by
  have e : n = 2 * (n / 2) := by omega
  have e2 : a ^ n = a ^ (2 * (n / 2)) := by rw [← e]
  rw [e2, Int.pow_mul, Int.pow_succ, Int.pow_succ, Int.pow_zero, Int.one_mul]
theorem pow_odd {a : Int} {n : Nat} (h : n % 2 = 1) : a * (a * a) ^ (n / 2) = a ^ n := by
  have e : n = 2 * (n / 2) + 1 := by omega
  have e2 : a ^ n = a ^ (2 * (n / 2) + 1) := by rw [← e]
  rw [e2, Int.pow_succ, Int.pow_mul, Int.pow_succ, Int.pow_succ, Int.pow_zero, Int.one_mul, Int.mul_comm]
theorem pow_mod (a : Int) (n : Nat) : ((a % 2130706433) ^ n) % 2130706433 = (a ^ n) % 2130706433 := by
  induction n with
  | zero => rw [Int.pow_zero, Int.pow_zero]
  | succ n ih => rw [Int.pow_succ, Int.pow_succ, mM2, ← mM1, ih, mM1]

theorem pow_step {a out : Int} {n : Nat} (hn : 0 < n) : (n % 2 = 1 → (mF out a * (mF a a) ^ (n / 2)) % 2130706433 = (out * a ^ n) % 2130706433) ∧ (n % 2 = 0 → (out * (mF a a) ^ (n / 2)) % 2130706433 = (out * a ^ n) % 2130706433) := by
  constructor
  · intro h
    unfold mF
    rw [mM1, ← mM2, pow_mod, mM2, ← pow_odd h, Int.mul_assoc]
  · intro h
    unfold mF
    rw [← mM2, pow_mod, mM2, pow_even h]
theorem s_pow_loop {a out n : Int} (ha : okF a) (ho : okF out) (h0 : 0 ≤ n) (hn : n < 9223372036854775808) : ∃ e, Loop s_l01Pow_1_s (a, n, out) = some e ∧ e.2.2.1 = (out * a ^ n.toNat) % 2130706433 := by
  refine Loop_inv (step := s_l01Pow_1_s) (fun s => okF s.1 ∧ okF s.2.2 ∧ 0 ≤ s.2.1 ∧ s.2.1 < 9223372036854775808 ∧ (s.2.2 * s.1 ^ s.2.1.toNat) % 2130706433 = (out * a ^ n.toNat) % 2130706433) (fun s => s.2.1.toNat) _ ?_ (a, n, out) ⟨ha, ho, h0, hn, rfl⟩
  rintro ⟨b, k, o⟩ ⟨hb, ho', hk0, hk1, hinv⟩
  dsimp only at hb ho' hk0 hk1 hinv
  simp only [s_l01Pow_1_s]
  by_cases hk : k > 0
  · left
    rw [brd hk, tmod_nn _ _ hk0, tdiv_nn _ _ hk0, wrap_i64 _ (by omega) (by omega), s_mul_eq hb hb]
    have hs := pow_step (a := b) (out := o) (n := k.toNat) (by omega)
    have e : (k / 2).toNat = k.toNat / 2 := by omega
    by_cases h2 : k % 2 = 1
    · rw [bre h2, s_mul_eq ho' hb]
      refine ⟨_, rfl, ⟨mF_ok _ _, mF_ok _ _, by dsimp only; omega, by dsimp only; omega, ?_⟩, by dsimp only; omega⟩
      dsimp only
      rw [e, hs.1 (by omega), hinv]
    · rw [brne h2]
      refine ⟨_, rfl, ⟨mF_ok _ _, ho', by dsimp only; omega, by dsimp only; omega, ?_⟩, by dsimp only; omega⟩
      dsimp only
      rw [e, hs.2 (by omega), hinv]
  · right
    rw [brn hk]
    refine ⟨_, rfl, ?_⟩
    have : k = 0 := by omega
    subst this
    dsimp only
    rw [← hinv]
    simp [mod_self ho']
theorem s_pow_eq {a n : Int} (ha : okF a) (h0 : 0 ≤ n) (hn : n < 9223372036854775808) : s_l01Pow a n = some (pF a n.toNat) := by
  unfold s_l01Pow
  obtain ⟨e, h1, h2⟩ := s_pow_loop ha okF1 h0 hn
  rw [h1, Option.bind_some, h2, Int.one_mul]; rfl

/-- The inverse. -/
def iF (a : Int) : Int := pF a 2130706431
theorem s_inverse_eq {a : Int} (ha : okF a) : s_l01Pow a 2130706431 = some (iF a) := by
  rw [s_pow_eq ha (by decide) (by decide)]; rfl
/-- The root of order 2 to the k. -/
def rootM (k : Nat) : Int := pF 3 (127 * 2 ^ (24 - k))
theorem rootM_ok (k : Nat) : okF (rootM k) := pF_ok _ _
theorem p2_24 : ∀ j : Nat, j < 25 → (2 : Int) ^ j ≤ 16777216 ∧ 0 < (2 : Int) ^ j := by decide
theorem shl127 {j : Nat} (h : j ≤ 24) : shl64 .i64 127 (j : Int) = 127 * 2 ^ j := by
  obtain ⟨h1, h0⟩ := p2_24 j (by omega)
  show IntKind.wrap .i64 (127 * 2 ^ (min ((j : Int).toNat) 64)) = _
  rw [Int.toNat_natCast, Nat.min_eq_left (by omega), wrap_i64 _ (by omega) (by omega)]
theorem s_root_eq {k : Nat} (h : k ≤ 24) : s_l01Root (k : Int) = some (rootM k) := by
  unfold s_l01Root
  obtain ⟨hq, hp⟩ := p2_24 (24 - k) (by omega)
  rw [wrap_i64 _ (by omega) (by omega), wrap_u64 _ (by omega) (by omega), brd (by omega), show (24 : Int) - k = ((24 - k : Nat) : Int) by omega, shl127 (by omega), s_pow_eq okF3 (by omega) (by omega), Option.bind_some, rootM]
  congr 2

/-! ### powers of two -/
end Go.AI.Fn

set_option linter.unusedVariables false
namespace Go.AI.Fn

structure Src (B : Int) (m : l00Src) : Prop where
  at0 : 0 ≤ m.at_
  at1 : m.at_ ≤ B
  sd0 : 0 ≤ m.seed
  sd1 : m.seed < 2147483648
  len : m.code.length ≤ 1048600
theorem Src.mono {B C : Int} {m : l00Src} (h : Src B m) (hc : B ≤ C) : Src C m := ⟨h.at0, by have := h.at1; omega, h.sd0, h.sd1, h.len⟩
abbrev Big : Int := 4611686018427387904

theorem source_ok {code : List UInt8} (h : code.length ≤ 1048600) : ∃ m, s_l00Source code = some m ∧ Src 0 m := by
  refine ⟨_, rfl, ?_⟩
  have : (((code.length : Nat) : Int).tmod (1000 : Int)) = (code.length : Int) % 1000 := tmod_nn _ _ (by omega)
  constructor <;> dsimp only <;> omega

theorem byte_ok {B : Int} {m : l00Src} (h : Src B m) (hB : B < Big) : ∃ x m', s_l00Src_byte m = some (x, m') ∧ 0 ≤ x ∧ x < 256 ∧ Src (B + 1) m' := by
  obtain ⟨h1, h2, h3, h4, h5⟩ := h
  rcases m with ⟨code, at_, seed⟩
  dsimp only at h1 h2 h3 h4 h5
  unfold s_l00Src_byte
  dsimp only
  simp only [Big] at hB
  rw [wrap_i64 (at_ + 1) (by omega) (by omega)]
  by_cases c : at_ + 1 ≤ ((code.length : Nat) : Int)
  · rw [brd c, wrap_i64 (at_ + 1 - 1) (by omega) (by omega)]
    obtain ⟨x, hx, _, _⟩ := atL_of (l := code) (i := at_ + 1 - 1) (by omega) (by omega)
    have := u8_lt x
    rw [hx]
    simp only [Option.bind_some]
    rw [wrap_i64 (x.toNat : Int) (by omega) (by omega), wrap_i64 (seed * 31) (by omega) (by omega), wrap_i64 (seed * 31 + (x.toNat : Int)) (by omega) (by omega), wrap_i64 _ (by omega) (by omega), tmod_nn _ _ (by omega)]
    refine ⟨_, _, rfl, by omega, by omega, ?_⟩
    constructor <;> dsimp only <;> omega
  · rw [brn c]
    by_cases c2 : at_ + 1 > 3000
    · rw [brd c2]
      refine ⟨_, _, rfl, by omega, by omega, ?_⟩
      constructor <;> dsimp only <;> omega
    · rw [brn c2, wrap_i64 (seed * 1103515245) (by omega) (by omega), wrap_i64 (seed * 1103515245 + 12345) (by omega) (by omega), tmod_nn (seed * 1103515245 + 12345) _ (by omega), tdiv_nn _ _ (by omega), wrap_i64 _ (by omega) (by omega), tmod_nn _ _ (by omega)]
      refine ⟨_, _, rfl, by omega, by omega, ?_⟩
      constructor <;> dsimp only <;> omega

theorem next_ok {B n : Int} {m : l00Src} (h : Src B m) (hB : B + 3 < Big) : ∃ x m', s_l00Src_next n m = some (x, m') ∧ 0 ≤ x ∧ (1 < n → x < n) ∧ (n ≤ 1 → x = 0) ∧ Src (B + 3) m' := by
  unfold s_l00Src_next
  by_cases c : n ≤ 1
  · rw [brd c]; exact ⟨_, _, rfl, by omega, by omega, fun _ => rfl, h.mono (by omega)⟩
  · rw [brn c]
    by_cases c2 : n ≤ 256
    · rw [brd c2]
      obtain ⟨x, m1, e1, x0, x1, s1⟩ := byte_ok h (by omega)
      rw [e1]
      simp only [Option.bind_some]
      rw [brd (by omega), tmod_nn _ _ x0]
      exact ⟨_, _, rfl, Int.emod_nonneg _ (by omega), fun _ => Int.emod_lt_of_pos _ (by omega), by omega, s1.mono (by omega)⟩
    · rw [brn c2]
      obtain ⟨x, m1, e1, x0, x1, s1⟩ := byte_ok h (by omega)
      obtain ⟨y, m2, e2, y0, y1, s2⟩ := byte_ok s1 (by omega)
      obtain ⟨z, m3, e3, z0, z1, s3⟩ := byte_ok s2 (by omega)
      rw [e1]
      simp only [Option.bind_some]
      rw [e2]
      simp only [Option.bind_some]
      rw [e3]
      simp only [Option.bind_some]
      rw [brd (by omega), wrap_i64 (x * 65536) (by omega) (by omega), wrap_i64 (y * 256) (by omega) (by omega), wrap_i64 (x * 65536 + y * 256) (by omega) (by omega), wrap_i64 _ (by omega) (by omega), tmod_nn _ _ (by omega)]
      exact ⟨_, _, rfl, Int.emod_nonneg _ (by omega), fun _ => Int.emod_lt_of_pos _ (by omega), by omega, s3.mono (by omega)⟩

theorem chance_ok {B n : Int} {m : l00Src} (h : Src B m) (hB : B + 3 < Big) : ∃ x m', s_l00Src_chance n m = some (x, m') ∧ Src (B + 3) m' := by
  unfold s_l00Src_chance
  obtain ⟨x, m1, e1, _, _, _, s1⟩ := next_ok (n := n) h hB
  rw [e1]
  exact ⟨_, _, rfl, s1⟩

theorem field_ok {B : Int} {m : l00Src} (h : Src B m) (hB : B + 18 < Big) : ∃ x m', s_l00Src_field m = some (x, m') ∧ okF x ∧ Src (B + 18) m' := by
  unfold s_l00Src_field
  obtain ⟨x, m1, e1, x0, x1, _, s1⟩ := next_ok (n := 5) h (by omega)
  have := x1 (by omega)
  rw [e1]
  simp only [Option.bind_some]
  by_cases c : x = 0
  · rw [bre c]
    obtain ⟨y, m2, e2, y0, y1, _, s2⟩ := next_ok (n := 4) s1 (by omega)
    have := y1 (by omega)
    rw [e2]
    exact ⟨_, _, rfl, ⟨by omega, by omega⟩, s2.mono (by omega)⟩
  · rw [brne c]
    by_cases c2 : x = 1
    · rw [bre c2]
      obtain ⟨y, m2, e2, y0, y1, _, s2⟩ := next_ok (n := 3) s1 (by omega)
      have := y1 (by omega)
      rw [e2]
      refine ⟨_, _, rfl, ⟨?_, ?_⟩, s2.mono (by omega)⟩ <;> rw [wrap_i64 _ (by omega) (by omega)] <;> omega
    · rw [brne c2]
      have key := Loop_inv (step := s_l00Src_field_1_s)
        (fun s => okF s.1 ∧ 0 ≤ s.2.1 ∧ s.2.1 ≤ 5 ∧ Src (B + 3 + 3 * s.2.1) ⟨s.2.2.1, s.2.2.2.1, s.2.2.2.2⟩) (fun s => (5 - s.2.1).toNat)
        (fun e => okF e.1 ∧ Src (B + 18) ⟨e.2.2.2.1, e.2.2.2.2.1, e.2.2.2.2.2⟩) ?_ ((0 : Int), (0 : Int), m1.code, m1.at_, m1.seed) ⟨⟨by first | omega | (dsimp only; omega), by first | omega | (dsimp only; omega)⟩, by first | omega | (dsimp only; omega), by first | omega | (dsimp only; omega), s1.mono (by first | omega | (dsimp only; omega))⟩
      · obtain ⟨e, he, h1, h2⟩ := key
        rw [he]
        exact ⟨_, _, rfl, h1, h2⟩
      · rintro ⟨n, i, c, c2, c3⟩ ⟨⟨n0, n1⟩, i0, i1, hs⟩
        dsimp only at n0 n1 i0 i1 hs
        by_cases hi : i < 5
        · left
          obtain ⟨y, m2, e2, y0, y1, _, s2⟩ := next_ok (n := 256) hs (by omega)
          have := y1 (by omega)
          simp only [s_l00Src_field_1_s]
          rw [brd hi, e2]
          simp only [Option.bind_some]
          rw [wrap_i64 (n * 256) (by omega) (by omega), wrap_i64 (n * 256 + y) (by omega) (by omega), wrap_i64 (i + 1) (by omega) (by omega), tmod_nn _ _ (by omega)]
          refine ⟨_, rfl, ⟨⟨?_, ?_⟩, ?_, ?_, s2.mono ?_⟩, ?_⟩ <;> dsimp only <;> omega
        · right
          simp only [s_l00Src_field_1_s]
          rw [brn hi]
          exact ⟨_, rfl, ⟨n0, n1⟩, hs.mono (by first | omega | (dsimp only; omega))⟩
end Go.AI.Fn

set_option linter.unusedVariables false
namespace Go.AI.Fn
theorem ext_ok {B : Int} {m : l00Src} (h : Src B m) (hB : B + 40 < Big) : ∃ x m', s_l00Src_ext m = some (x, m') ∧ okE x ∧ Src (B + 40) m' := by
  unfold s_l00Src_ext
  obtain ⟨x, m1, e1, s1⟩ := chance_ok (n := 4) h (by omega)
  rw [e1]
  simp only [Option.bind_some]
  obtain ⟨y, m2, e2, y0, s2⟩ := field_ok s1 (by omega)
  obtain ⟨z, m3, e3, z0, s3⟩ := field_ok s2 (by omega)
  rw [e2]
  cases x
  · simp only [br_false, Option.bind_some]
    rw [e3]
    exact ⟨_, _, rfl, ⟨y0, z0⟩, s3.mono (by omega)⟩
  · exact ⟨_, _, rfl, ⟨y0, ⟨by first | omega | (dsimp only; omega), by first | omega | (dsimp only; omega)⟩⟩, s2.mono (by omega)⟩

theorem exts_ok {B n : Int} {m : l00Src} (h : Src B m) (hn0 : 0 ≤ n) (hn1 : n ≤ 1048576) (hB : B + 40 * n < Big) : ∃ l m', s_l00Src_exts n m = some (l, m') ∧ (l.length : Int) = n ∧ (∀ x ∈ l, okE x) ∧ Src (B + 40 * n) m' := by
  unfold s_l00Src_exts
  have key := Loop_inv (step := s_l00Src_exts_1_s n)
    (fun s => (s.1.length : Int) = s.2.1 ∧ (∀ x ∈ s.1, okE x) ∧ s.2.1 ≤ n ∧ Src (B + 40 * s.2.1) ⟨s.2.2.1, s.2.2.2.1, s.2.2.2.2⟩) (fun s => (n - s.2.1).toNat)
    (fun e => (e.1.length : Int) = n ∧ (∀ x ∈ e.1, okE x) ∧ Src (B + 40 * n) ⟨e.2.2.2.1, e.2.2.2.2.1, e.2.2.2.2.2⟩) ?_ (([] : List Ext), (0 : Int), m.code, m.at_, m.seed) ⟨by simp, by simp, by dsimp only; omega, h.mono (by first | omega | (dsimp only; omega))⟩
  · obtain ⟨e, he, h1, h2, h3⟩ := key
    rw [he]
    exact ⟨_, _, rfl, h1, h2, h3⟩
  · rintro ⟨l, i, c, c2, c3⟩ ⟨hl, ha, i1, hs⟩
    dsimp only at hl ha i1 hs
    by_cases hi : i < n
    · left
      obtain ⟨y, m2, e2, y0, s2⟩ := ext_ok hs (by omega)
      simp only [s_l00Src_exts_1_s]
      rw [brd hi, e2]
      simp only [Option.bind_some]
      rw [br_of (fits_of (by simp only [List.length_append, List.length_cons, List.length_nil]; omega)), wrap_i64 (i + 1) (by omega) (by omega)]
      refine ⟨_, rfl, ⟨?_, ?_, ?_, s2.mono ?_⟩, ?_⟩
      · simp only [List.length_append, List.length_cons, List.length_nil]; omega
      · intro x hx
        rcases List.mem_append.1 hx with hx | hx
        · exact ha x hx
        · rw [List.mem_singleton] at hx; subst hx; exact y0
      all_goals dsimp only; omega
    · right
      simp only [s_l00Src_exts_1_s]
      rw [brn hi]
      exact ⟨_, rfl, by dsimp only; omega, ha, hs.mono (by first | omega | (dsimp only; omega))⟩

theorem ExtsOf_ok {code : List UInt8} {n : Int} (h : code.length ≤ 1048600) (hn0 : 0 ≤ n) (hn1 : n ≤ 1048576) : ∃ l, s_ExtsOf code n = some l ∧ (l.length : Int) = n ∧ ∀ x ∈ l, okE x := by
  unfold s_ExtsOf
  obtain ⟨m, e1, s1⟩ := source_ok (show code.length ≤ 1048600 by omega)
  rw [e1]
  simp only [Option.bind_some]
  obtain ⟨l, m2, e2, h1, h2, _⟩ := exts_ok (n := n) s1 hn0 hn1 (by simp only [Big]; omega)
  rw [e2]
  exact ⟨_, rfl, h1, h2⟩
end Go.AI.Fn

set_option linter.unusedVariables false
set_option linter.unusedSimpArgs false
namespace Go.AI.Fn

/-! ### shapes of loops -/
theorem any_of_bad {α : Type} {p : α → Bool} {l : List α} {k : Nat} (hk : k < l.length) (h : p l[k] = true) : l.any p = true := List.any_eq_true.2 ⟨l[k], List.getElem_mem hk, h⟩
theorem none_of {α : Type} {p : α → Bool} {l : List α} (h : ∀ k (hk : k < l.length), p l[k] = false) : l.any p = false := by
  rw [List.any_eq_false]
  intro x hx
  obtain ⟨k, hk, rfl⟩ := List.getElem_of_mem hx
  simp [h k hk]
/-- 'the first place where something holds', as the library's IndexFunc and ContainsFunc look for it. -/
theorem contains_gen {α : Type} {p : α → Bool} {f : α → Option Bool} {l : List α} (hl : l.length ≤ 1099511627776) (hf : ∀ x ∈ l, f x = some (p x)) {step : Int → Option (Int ⊕ (Int ⊕ (Int × Bool)))}
    (hs : ∀ t, step t = br (decide (t < ((l.length : Nat) : Int))) ((atL l t).bind fun x => (f x).bind fun r => br r (some (.inr (.inl t))) (some (.inl (IntKind.wrap .i64 (t + 1))))) (some (.inr (.inr (t, decide (t < ((l.length : Nat) : Int))))))) :
    ((Loop step 0).bind (alt (fun e => some e) (fun _ => some (-1)))).bind (fun r => some (decide (r ≥ 0))) = some (l.any p) := by
  have key := Loop_all (step := step) (fun k => (k : Int)) l.length (fun k => !((l[k]?.map p).getD false)) (fun k => .inl (k : Int)) (e := .inr ((l.length : Int), false)) (fun k hk hp => by
      have hb : p l[k] = false := by simpa [hk] using hp
      rw [hs, brd (by omega), atL_nat hk, Option.bind_some, hf _ (List.getElem_mem hk), Option.bind_some, hb, br_false, wrap_i64 _ (by omega) (by omega)]; rfl)
    (fun k hk hp => by
      have hb : p l[k] = true := by simpa [hk] using hp
      rw [hs, brd (by omega), atL_nat hk, Option.bind_some, hf _ (List.getElem_mem hk), Option.bind_some, hb, br_true])
    (by rw [hs, brn (by omega), decide_eq_false (by omega)])
  rcases key with ⟨h1, h2⟩ | ⟨k, hk, h1, _, h2⟩
  · have e : Loop step 0 = some (.inr ((l.length : Int), false)) := h2
    rw [e, none_of (fun k hk => by simpa [hk] using h1 k hk)]; rfl
  · have e : Loop step 0 = some (.inl (k : Int)) := h2
    rw [e, any_of_bad hk (by simpa [hk] using h1)]
    simp only [Option.bind_some, alt_inl]
    rw [decide_eq_true (by omega)]
/-- 'false at the first that is not right'. -/
theorem all_gen {α : Type} {p : α → Bool} {f : α → Option Bool} {l : List α} (hl : l.length ≤ 1099511627776) (hf : ∀ x ∈ l, f x = some (p x)) {step : Int → Option (Int ⊕ (Unit ⊕ (Int × Bool)))}
    (hs : ∀ t, step t = br (decide (t < ((l.length : Nat) : Int))) ((atL l t).bind fun x => (f x).bind fun r => br (!r) (some (.inr (.inl ()))) (some (.inl (IntKind.wrap .i64 (t + 1))))) (some (.inr (.inr (t, decide (t < ((l.length : Nat) : Int))))))) :
    (Loop step 0).bind (alt (fun _ => some false) (fun _ => some true)) = some (l.all p) := by
  have key := Loop_all (step := step) (fun k => (k : Int)) l.length (fun k => ((l[k]?.map p).getD false)) (fun k => .inl ()) (e := .inr ((l.length : Int), false)) (fun k hk hp => by
      have hb : p l[k] = true := by simpa [hk] using hp
      rw [hs, brd (by omega), atL_nat hk, Option.bind_some, hf _ (List.getElem_mem hk), Option.bind_some, hb, Bool.not_true, br_false, wrap_i64 _ (by omega) (by omega)]; rfl)
    (fun k hk hp => by
      have hb : p l[k] = false := by simpa [hk] using hp
      rw [hs, brd (by omega), atL_nat hk, Option.bind_some, hf _ (List.getElem_mem hk), Option.bind_some, hb, Bool.not_false, br_true])
    (by rw [hs, brn (by omega), decide_eq_false (by omega)])
  rcases key with ⟨h1, h2⟩ | ⟨k, hk, h1, _, h2⟩
  · have e : Loop step 0 = some (.inr ((l.length : Int), false)) := h2
    have ha : l.all p = true := List.all_eq_true.2 fun x hx => by
      obtain ⟨k, hk, rfl⟩ := List.getElem_of_mem hx
      simpa [hk] using h1 k hk
    rw [e, ha]; rfl
  · have e : Loop step 0 = some (.inl ()) := h2
    have ha : l.all p = false := by
      rw [List.all_eq_false]
      exact ⟨l[k], List.getElem_mem hk, by simpa [hk] using h1⟩
    rw [e, ha]; rfl
theorem not_any_not {α : Type} (p : α → Bool) (l : List α) : (!l.any fun x => !p x) = l.all p := by
  induction l with
  | nil => rfl
  | cons x l ih => simp only [List.any_cons, List.all_cons, ← ih]; cases p x <;> simp

theorem i_areE_eq {l : List Ext} (hl : l.length ≤ 1099511627776) : i_are_i_Ext_ExtOK l = some (l.all okEb) := by
  unfold i_are_i_Ext_ExtOK slices_ContainsFunc_Li_Ext_i_Ext_are_i_Ext_1_ExtOK slices_IndexFunc_Li_Ext_i_Ext_are_i_Ext_1_ExtOK
  rw [contains_gen (step := slices_IndexFunc_Li_Ext_i_Ext_are_i_Ext_1_ExtOK_1_s l ((l.length : Nat) : Int)) (p := fun x => !okEb x) (f := i_are_i_Ext_1_ExtOK) hl (fun x _ => by unfold i_are_i_Ext_1_ExtOK; rw [i_ExtOK_eq]; rfl) (fun t => rfl), Option.bind_some, not_any_not]
theorem s_listE_eq {l : List Ext} (hl : l.length ≤ 1099511627776) : s_l02List l = some (l.all okEb) := by
  unfold s_l02List
  exact all_gen (f := s_ExtOK) hl (fun x _ => s_ExtOK_eq x) (fun t => rfl)
def OkEs (l : List Ext) : Prop := ∀ x ∈ l, okE x
def OkFs (l : List Int) : Prop := ∀ x ∈ l, okF x
theorem allE {l : List Ext} : l.all okEb = true ↔ OkEs l := by
  rw [List.all_eq_true]; exact ⟨fun h x hx => okEb_iff.1 (h x hx), fun h x hx => okEb_iff.2 (h x hx)⟩
theorem OkEs.get {l : List Ext} (h : OkEs l) {k : Nat} (hk : k < l.length) : okE l[k] := h _ (List.getElem_mem hk)
theorem OkFs.get {l : List Int} (h : OkFs l) {k : Nat} (hk : k < l.length) : okF l[k] := h _ (List.getElem_mem hk)
theorem OkEs.app {l m : List Ext} (h : OkEs l) (h2 : OkEs m) : OkEs (l ++ m) := fun x hx => (List.mem_append.1 hx).elim (h x) (h2 x)
theorem OkEs.nil : OkEs [] := fun x hx => by cases hx
theorem OkEs.one {x : Ext} (h : okE x) : OkEs [x] := fun y hy => by rw [List.mem_singleton.1 hy]; exact h
theorem OkEs.map {α : Type} {f : α → Ext} (l : List α) (h : ∀ x ∈ l, okE (f x)) : OkEs (l.map f) := fun y hy => by obtain ⟨x, hx, rfl⟩ := List.mem_map.1 hy; exact h x hx
theorem OkEs.take {l : List Ext} (h : OkEs l) (k : Nat) : OkEs (l.take k) := fun x hx => h x (List.mem_of_mem_take hx)
theorem OkEs.drop {l : List Ext} (h : OkEs l) (k : Nat) : OkEs (l.drop k) := fun x hx => h x (List.mem_of_mem_drop hx)

/-! ### sums of products -/
/-! ### the table of a point -/
def eqS (out : List Ext) (p : Ext) : List Ext := out.map (fun a => eM a (eS e1 p)) ++ out.map (fun a => eM a p)
def eqT (pt : List Ext) : List Ext := pt.foldl eqS [e1]
theorem eqS_len (out : List Ext) (p : Ext) : (eqS out p).length = 2 * out.length := by simp [eqS]; omega
theorem eqS_ok (out : List Ext) (p : Ext) : OkEs (eqS out p) := OkEs.app (OkEs.map _ fun x _ => eM_ok _ _) (OkEs.map _ fun x _ => eM_ok _ _)
theorem eqT_snoc (l : List Ext) (p : Ext) : eqT (l ++ [p]) = eqS (eqT l) p := by simp [eqT, List.foldl_append]
theorem eqF_ok {l out : List Ext} (h : OkEs out) : OkEs (l.foldl eqS out) := by
  induction l generalizing out with
  | nil => exact h
  | cons p l ih => exact ih (eqS_ok _ _)
theorem eqT_ok (l : List Ext) : OkEs (eqT l) := eqF_ok (OkEs.one e1_ok)
theorem eqF_len (l out : List Ext) : (l.foldl eqS out).length = 2 ^ l.length * out.length := by
  induction l generalizing out with
  | nil => simp
  | cons p l ih => rw [List.foldl_cons, ih, eqS_len, List.length_cons, Nat.pow_succ]; rw [Nat.mul_assoc]
theorem eqT_len (l : List Ext) : (eqT l).length = 2 ^ l.length := by rw [eqT, eqF_len]; simp
theorem pow2_6 : ∀ k : Nat, k ≤ 6 → 2 ^ k ≤ 64 := by decide
/-- Two halves filled side by side. -/
def eqU (out : List Ext) (p : Ext) (k : Nat) (l : List Ext) : List Ext := (l.set k (eM (out.getD k e0) (eS e1 p))).set (k + out.length) (eM (out.getD k e0) p)
theorem iU_lenE {f : Nat → List Ext → List Ext} (hf : ∀ k l, (f k l).length = l.length) : ∀ (k : Nat) (l : List Ext), (iU f k l).length = l.length
  | 0, l => rfl
  | k + 1, l => by rw [iU, hf, iU_lenE hf k l]
theorem eqU_len (out : List Ext) (p : Ext) (k : Nat) (l : List Ext) : (iU (eqU out p) k l).length = l.length := iU_lenE (fun _ _ => by simp [eqU]) k l
theorem eqU_get (out : List Ext) (p : Ext) (l : List Ext) (hl : l.length = 2 * out.length) : ∀ k, k ≤ out.length → ∀ j (hj : j < (iU (eqU out p) k l).length), (iU (eqU out p) k l)[j] =
    if j < k then eM (out.getD j e0) (eS e1 p) else if out.length ≤ j ∧ j < out.length + k then eM (out.getD (j - out.length) e0) p else l[j]'(by rw [eqU_len] at hj; exact hj)
  | 0, _, j, hj => by
    rw [if_neg (by omega), if_neg (by omega)]; rfl
  | k + 1, hk, j, hj => by
    have ih := eqU_get out p l hl k (by omega) j (by rw [eqU_len] at hj ⊢; exact hj)
    simp only [iU, eqU, List.getElem_set]
    by_cases h1 : k + out.length = j
    · rw [if_pos h1, if_neg (by omega), if_pos (by omega), show j - out.length = k by omega]
    · rw [if_neg h1]
      by_cases h2 : k = j
      · rw [if_pos h2, if_pos (by omega), h2]
      · rw [if_neg h2, ih]
        by_cases h3 : j < k
        · rw [if_pos h3, if_pos (by omega)]
        · by_cases h4 : out.length ≤ j ∧ j < out.length + k
          · rw [if_neg h3, if_pos h4, if_neg (by omega), if_pos (by omega)]
          · rw [if_neg h3, if_neg h4, if_neg (by omega), if_neg (by omega)]
theorem eqU_all (out : List Ext) (p : Ext) (l : List Ext) (hl : l.length = 2 * out.length) : iU (eqU out p) out.length l = eqS out p := by
  apply List.ext_getElem (by rw [eqU_len, eqS_len, hl])
  intro j h1 h2
  rw [eqU_get out p l hl out.length (Nat.le_refl _) j h1]
  rw [eqU_len, hl] at h1
  simp only [eqS]
  by_cases h3 : j < out.length
  · rw [if_pos h3, List.getElem_append_left (by simpa using h3), List.getElem_map]; simp [h3]
  · rw [if_neg h3, if_pos (by omega), List.getElem_append_right (by simp; omega), List.getElem_map]
    have : j - out.length < out.length := by omega
    simp [this]
theorem atL_e {l : List Ext} {k : Nat} (h : k < l.length) : atL l (k : Int) = some (l.getD k e0) := by simp [atL, h]
theorem OkEs.getD {l : List Ext} (h : OkEs l) (k : Nat) : okE (l.getD k e0) := by
  by_cases hk : k < l.length
  · simp [hk]; exact h.get hk
  · simp [List.getElem?_eq_none (Nat.le_of_not_lt hk)]; exact e0_ok
theorem get_e {β : Type} {l : List Ext} {i : Nat} {f : Ext → Option β} (h : i < l.length) : (l[i]?).bind f = f (l.getD i e0) := by simp [h]
theorem s_eq2 {pt out l : List Ext} {i : Nat} (ho : OkEs out) (hp : OkEs pt) (hi : i < pt.length) (hl : l.length = 2 * out.length) (hn : out.length ≤ 1000000000) :
    Loop (s_l06Eq_2_s pt out i) (l, 0) = some (eqS out (pt.getD i e0), (out.length : Int), false) := by
  rw [← eqU_all out (pt.getD i e0) l hl]
  exact Loop_for (fun k => (iU (eqU out (pt.getD i e0)) k l, (k : Int))) out.length (fun k hk => by
    have h1 := eqU_len out (pt.getD i e0) k l
    simp only [s_l06Eq_2_s]
    rw [brd (by omega), atL_e hk, Option.bind_some, atL_e hi, Option.bind_some, s_less_eq (hp.getD _), Option.bind_some, s_emul_eq (ho.getD _) (eS_ok _ _), Option.bind_some, brd (by omega), brd (by omega), get_e (by omega),
      Option.bind_some, Option.bind_some, s_emul_eq (ho.getD _) (hp.getD _), Option.bind_some, wrap_i64 _ (by omega) (by omega), brd (by omega), brd (by omega), get_e (by rw [List.length_set]; omega), wrap_i64 _ (by omega) (by omega)]
    rw [show ((k : Int) + (out.length : Int)).toNat = k + out.length by omega, Int.toNat_natCast]
    rfl) (by
    simp only [s_l06Eq_2_s]
    rw [brn (by omega), decide_eq_false (by omega)])
theorem s_eqTable_eq {l : List Ext} (h : OkEs l) (hn : l.length ≤ 6) : s_l06Eq l = some (eqT l) := by
  unfold s_l06Eq
  have key : Loop (s_l06Eq_1_s l) ([e1], 0) = some (eqT l, (l.length : Int), false) :=
    Loop_for (fun k => (eqT (l.take k), (k : Int))) l.length (fun k hk => by
      have hl := eqT_len (l.take k)
      have hb := pow2_6 (l.take k).length (by rw [List.length_take]; omega)
      simp only [s_l06Eq_1_s]
      rw [brd (by omega), wrap_i64 _ (by omega) (by omega), br_mk (by omega) (by omega) (by omega), s_eq2 (eqT_ok _) h hk (by rw [List.length_replicate]; omega) (by omega), Option.bind_some, wrap_i64 _ (by omega) (by omega), take_succ hk, eqT_snoc]
      simp [hk]) (by
      simp only [s_l06Eq_1_s]
      rw [brn (by omega), decide_eq_false (by omega), List.take_length])
  rw [s_one_eq, Option.bind_some, key]; rfl
end Go.AI.Fn

set_option linter.unusedVariables false
set_option linter.unusedSimpArgs false
namespace Go.AI.Fn

/-- An element in its reduced form. -/
abbrev K := {x : Ext // okE x}
def K.n (i : Int) : K := ⟨eN (i % 2130706433), eN_ok (okF_mod _)⟩
instance instAddK : Add K := ⟨fun a b => ⟨eA a.1 b.1, eA_ok _ _⟩⟩
instance instMulK : Mul K := ⟨fun a b => ⟨eM a.1 b.1, eM_ok _ _⟩⟩
instance instSubK : Sub K := ⟨fun a b => ⟨eS a.1 b.1, eS_ok _ _⟩⟩
instance instNegK : Neg K := ⟨fun a => ⟨eS e0 a.1, eS_ok _ _⟩⟩
instance instNatCastK : NatCast K := ⟨fun n => K.n n⟩
instance instIntCastK : IntCast K := ⟨fun n => K.n n⟩
instance instOfNatK (n : Nat) : OfNat K n := ⟨K.n n⟩
def K.pow (a : K) : Nat → K
  | 0 => K.n 1
  | n + 1 => K.pow a n * a
instance instHPowK : HPow K Nat K := ⟨K.pow⟩
theorem K.ext {a b : K} (h : a.1 = b.1) : a = b := Subtype.ext h
theorem K.n_mul (i j : Int) : K.n (i * j) = K.n i * K.n j := K.ext (ext_eq (by
  show (i * j) % 2130706433 = ((i % 2130706433) * (j % 2130706433) + 3 * (0 * 0)) % 2130706433
  rw [show (3 : Int) * (0 * 0) = 0 from rfl, Int.add_zero, ← Int.mul_emod]) (by
  show (0 : Int) = ((i % 2130706433) * 0 + 0 * (j % 2130706433)) % 2130706433
  rw [Int.mul_zero, Int.zero_mul]; rfl))
/-! Coordinates: numbers modulo the prime, with which grind reckons. -/
instance instNeZeroPP : NeZero 2130706433 := ⟨by decide⟩
abbrev FP := Fin 2130706433
def K.a (x : K) : FP := ⟨x.1.A.toNat, by have h := x.2.1; unfold okF at h; omega⟩
def K.b (x : K) : FP := ⟨x.1.B.toNat, by have h := x.2.2; unfold okF at h; omega⟩
theorem K.A_nat (x : K) : ∃ n : Nat, x.1.A = (n : Int) ∧ n < 2130706433 ∧ (K.a x).val = n := ⟨x.1.A.toNat, by have h := x.2.1; unfold okF at h; omega, (K.a x).isLt, rfl⟩
theorem K.B_nat (x : K) : ∃ n : Nat, x.1.B = (n : Int) ∧ n < 2130706433 ∧ (K.b x).val = n := ⟨x.1.B.toNat, by have h := x.2.2; unfold okF at h; omega, (K.b x).isLt, rfl⟩
theorem K.eqv {x y : K} : x = y ↔ K.a x = K.a y ∧ K.b x = K.b y := ⟨fun h => by rw [h]; exact ⟨rfl, rfl⟩, fun h => by
  obtain ⟨n, h1, _, h2⟩ := K.A_nat x
  obtain ⟨m, h3, _, h4⟩ := K.A_nat y
  obtain ⟨i, h5, _, h6⟩ := K.B_nat x
  obtain ⟨j, h7, _, h8⟩ := K.B_nat y
  have e1 := congrArg Fin.val h.1
  have e2 := congrArg Fin.val h.2
  exact K.ext (ext_eq (by omega) (by omega))⟩
theorem K.ad_a (x y : K) : K.a (x + y) = K.a x + K.a y := Fin.ext (by
  obtain ⟨n, h1, _, h2⟩ := K.A_nat x
  obtain ⟨m, h3, _, h4⟩ := K.A_nat y
  rw [Fin.val_add, h2, h4]
  show ((x.1.A + y.1.A) % 2130706433).toNat = _
  omega)
theorem K.ad_b (x y : K) : K.b (x + y) = K.b x + K.b y := Fin.ext (by
  obtain ⟨n, h1, _, h2⟩ := K.B_nat x
  obtain ⟨m, h3, _, h4⟩ := K.B_nat y
  rw [Fin.val_add, h2, h4]
  show ((x.1.B + y.1.B) % 2130706433).toNat = _
  omega)
theorem K.su_a (x y : K) : K.a (x - y) = K.a x - K.a y := Fin.ext (by
  obtain ⟨n, h1, _, h2⟩ := K.A_nat x
  obtain ⟨m, h3, _, h4⟩ := K.A_nat y
  rw [Fin.sub_def]
  show ((x.1.A - y.1.A) % 2130706433).toNat = (2130706433 - (K.a y).val + (K.a x).val) % 2130706433
  omega)
theorem K.su_b (x y : K) : K.b (x - y) = K.b x - K.b y := Fin.ext (by
  obtain ⟨n, h1, _, h2⟩ := K.B_nat x
  obtain ⟨m, h3, _, h4⟩ := K.B_nat y
  rw [Fin.sub_def]
  show ((x.1.B - y.1.B) % 2130706433).toNat = (2130706433 - (K.b y).val + (K.b x).val) % 2130706433
  omega)
theorem K.n0_a : K.a 0 = 0 := rfl
theorem K.n0_b : K.b 0 = 0 := rfl
theorem K.n1_a : K.a 1 = 1 := rfl
theorem K.n1_b : K.b 1 = 0 := rfl
theorem K.n2_a : K.a 2 = 2 := rfl
theorem K.n2_b : K.b 2 = 0 := rfl
theorem K.n3_a : K.a 3 = 3 := rfl
theorem K.n3_b : K.b 3 = 0 := rfl
theorem K.ne_sub (x : K) : -x = 0 - x := rfl
theorem K.mu_a (x y : K) : K.a (x * y) = K.a x * K.a y + 3 * (K.b x * K.b y) := Fin.ext (by
  obtain ⟨n, h1, _, h2⟩ := K.A_nat x
  obtain ⟨m, h3, _, h4⟩ := K.A_nat y
  obtain ⟨i, h5, _, h6⟩ := K.B_nat x
  obtain ⟨j, h7, _, h8⟩ := K.B_nat y
  rw [Fin.val_add, Fin.val_mul, Fin.val_mul, Fin.val_mul, h2, h4, h6, h8, show (3 : FP).val = 3 from rfl]
  show ((x.1.A * y.1.A + 3 * (x.1.B * y.1.B)) % 2130706433).toNat = _
  rw [h1, h3, h5, h7, ← Int.natCast_mul, ← Int.natCast_mul]
  generalize n * m = u
  generalize i * j = v
  omega)
theorem K.mu_b (x y : K) : K.b (x * y) = K.a x * K.b y + K.b x * K.a y := Fin.ext (by
  obtain ⟨n, h1, _, h2⟩ := K.A_nat x
  obtain ⟨m, h3, _, h4⟩ := K.A_nat y
  obtain ⟨i, h5, _, h6⟩ := K.B_nat x
  obtain ⟨j, h7, _, h8⟩ := K.B_nat y
  rw [Fin.val_add, Fin.val_mul, Fin.val_mul, h2, h4, h6, h8]
  show ((x.1.A * y.1.B + x.1.B * y.1.A) % 2130706433).toNat = _
  rw [h1, h3, h5, h7, ← Int.natCast_mul, ← Int.natCast_mul]
  generalize n * j = u
  generalize i * m = v
  omega)
/-- Equations between elements, coordinate by coordinate. -/
theorem kg {p : Prop} (h : p := by (simp only [K.ne_sub, K.eqv, K.ad_a, K.ad_b, K.su_a, K.su_b, K.mu_a, K.mu_b, K.n0_a, K.n0_b, K.n1_a, K.n1_b, K.n2_a, K.n2_b, K.n3_a, K.n3_b] at * <;> first | grind only | grind)) : p := h
/-- Elements of the base field. -/
def kF (a : Int) : K := K.n a
theorem kF_val {a : Int} (h : okF a) : (kF a).1 = eN a := by show eN (a % 2130706433) = eN a; rw [mod_self h]
theorem kF_mF (a b : Int) : kF (mF a b) = kF a * kF b := by
  rw [kF, kF, kF, ← K.n_mul]
  exact K.ext (by show eN ((a * b) % 2130706433 % 2130706433) = eN ((a * b) % 2130706433); rw [Int.emod_emod])
/-- Lists of elements, lifted. -/
def kv (l : List K) : List Ext := l.map (·.1)
theorem kv_len (l : List K) : (kv l).length = l.length := by simp [kv]
theorem kv_ok (l : List K) : OkEs (kv l) := OkEs.map l fun x _ => x.2
theorem kv_lift {L : List Ext} (h : OkEs L) : ∃ l, L = kv l := by
  induction L with
  | nil => exact ⟨[], rfl⟩
  | cons x L ih =>
    obtain ⟨l, rfl⟩ := ih fun y hy => h y (by simp [hy])
    exact ⟨⟨x, h x (by simp)⟩ :: l, rfl⟩
theorem kv_get {l : List K} {j : Nat} (h : j < l.length) : (kv l)[j]'(by rw [kv_len]; exact h) = (l.getD j 0).1 := by simp [kv, h]
theorem kv_at {l : List K} {j : Nat} (h : j < l.length) : atL (kv l) (j : Int) = some (l.getD j 0).1 := by rw [atL_nat (by rw [kv_len]; exact h), kv_get h]
theorem kv_get? {l : List K} {j : Nat} (h : j < l.length) : (kv l)[j]? = some (l.getD j 0).1 := by rw [get_some (by rw [kv_len]; exact h), kv_get h]
end Go.AI.Fn

set_option linter.unusedVariables false
set_option linter.unusedSimpArgs false
namespace Go.AI.Fn

theorem pwS (x : K) (n : Nat) : x ^ (n + 1) = x ^ n * x := rfl
/-! ### lists, their even and odd places -/
def evs : List K → List K
  | a :: _ :: l => a :: evs l
  | [a] => [a]
  | [] => []
def ods : List K → List K
  | _ :: b :: l => b :: ods l
  | _ => []
theorem evs_get : ∀ (l : List K) (j : Nat), (evs l).getD j 0 = l.getD (2 * j) 0
  | [], j => by simp [evs]
  | [a], 0 => rfl
  | [a], j + 1 => by simp [evs]
  | a :: b :: l, 0 => rfl
  | a :: b :: l, j + 1 => by rw [show 2 * (j + 1) = 2 * j + 1 + 1 by omega]; exact evs_get l j
theorem ods_get : ∀ (l : List K) (j : Nat), (ods l).getD j 0 = l.getD (2 * j + 1) 0
  | [], j => by simp [ods]
  | [a], j => by simp [ods]
  | a :: b :: l, 0 => rfl
  | a :: b :: l, j + 1 => by rw [show 2 * (j + 1) + 1 = 2 * j + 1 + 1 + 1 by omega]; exact ods_get l j
theorem evs_len : ∀ (l : List K) (m : Nat), l.length = 2 * m → (evs l).length = m
  | [], m, h => by simp at h; simp [evs]; omega
  | [a], m, h => by simp at h; omega
  | a :: b :: l, 0, h => by simp at h
  | a :: b :: l, m + 1, h => by simp only [evs, List.length_cons]; rw [evs_len l m (by simp only [List.length_cons] at h; omega)]
theorem ods_len : ∀ (l : List K) (m : Nat), l.length = 2 * m → (ods l).length = m
  | [], m, h => by simp at h; simp [ods]; omega
  | [a], m, h => by simp at h; omega
  | a :: b :: l, 0, h => by simp at h
  | a :: b :: l, m + 1, h => by simp only [ods, List.length_cons]; rw [ods_len l m (by simp only [List.length_cons] at h; omega)]
theorem list_ext {a b : List K} (hl : a.length = b.length) (h : ∀ j, j < a.length → a.getD j 0 = b.getD j 0) : a = b := by
  refine List.ext_getElem hl fun j h1 h2 => ?_
  have := h j h1
  simpa [h1, h2] using this
theorem getD_mr {f : Nat → K} {h j : Nat} (hj : j < h) : ((List.range h).map f).getD j 0 = f j := by simp [hj]

/-! ### the transform -/
def lowM (E O : List K) (w : K) (h : Nat) : List K := (List.range h).map fun j => E.getD j 0 + O.getD j 0 * w ^ j
def higM (E O : List K) (w : K) (h : Nat) : List K := (List.range h).map fun j => E.getD j 0 - O.getD j 0 * w ^ j
theorem lowM_len (E O : List K) (w : K) (h : Nat) : (lowM E O w h).length = h := by simp [lowM]
theorem higM_len (E O : List K) (w : K) (h : Nat) : (higM E O w h).length = h := by simp [higM]
def V : Nat → List K → K → List K
  | 0, l, _ => l
  | k + 1, l, w => lowM (V k (evs l) (w * w)) (V k (ods l) (w * w)) w (2 ^ k) ++ higM (V k (evs l) (w * w)) (V k (ods l) (w * w)) w (2 ^ k)
theorem V_len : ∀ (k : Nat) (l : List K) (w : K), l.length = 2 ^ k → (V k l w).length = 2 ^ k
  | 0, l, w, h => h
  | k + 1, l, w, h => by rw [V, List.length_append, lowM_len, higM_len, Nat.pow_succ]; omega
theorem evs_2 {l : List K} {k : Nat} (h : l.length = 2 ^ (k + 1)) : (evs l).length = 2 ^ k := evs_len l _ (by rw [h, Nat.pow_succ]; omega)
theorem ods_2 {l : List K} {k : Nat} (h : l.length = 2 ^ (k + 1)) : (ods l).length = 2 ^ k := ods_len l _ (by rw [h, Nat.pow_succ]; omega)

/-! ### combinations -/
/-! ### values of polynomials -/
/-- A root of the right order: half of the turn is -1. -/
def Rt : Nat → K → Prop
  | 0, _ => True
  | k + 1, w => w ^ 2 ^ k = -1
end Go.AI.Fn

set_option linter.unusedVariables false
set_option linter.unusedSimpArgs false
namespace Go.AI.Fn

def sumN : Nat → (Nat → K) → K
  | 0, _ => 0
  | n + 1, f => sumN n f + f n
/-- One variable bound in a table. -/
def fdK (r : K) : List K → List K
  | a :: b :: l => (a + r * (b - a)) :: fdK r l
  | _ => []
theorem fdK_len (r : K) : ∀ (l : List K) (m : Nat), l.length = 2 * m → (fdK r l).length = m
  | [], m, h => by simp at h; simp [fdK]; omega
  | [a], m, h => by simp at h; omega
  | a :: b :: l, 0, h => by simp at h
  | a :: b :: l, m + 1, h => by simp only [fdK, List.length_cons]; rw [fdK_len r l m (by simp only [List.length_cons] at h; omega)]
theorem fdK_get (r : K) : ∀ (l : List K) (m j : Nat), l.length = 2 * m → (fdK r l).getD j 0 = l.getD (2 * j) 0 + r * (l.getD (2 * j + 1) 0 - l.getD (2 * j) 0)
  | [], m, j, h => by simp [fdK]; exact kg
  | [a], m, j, h => by simp at h; omega
  | a :: b :: l, 0, j, h => by simp at h
  | a :: b :: l, m + 1, 0, h => rfl
  | a :: b :: l, m + 1, j + 1, h => by
    rw [show 2 * (j + 1) = 2 * j + 1 + 1 by omega]
    exact fdK_get r l m j (by simp only [List.length_cons] at h; omega)
/-- What is summed: products of two, or the bound of three tables against one. -/
def cmK (kind : Nat) (v : List K) : K := if kind = 1 then v.getD 0 0 * v.getD 1 0 else v.getD 0 0 * (v.getD 1 0 * v.getD 2 0 - v.getD 3 0)
def colK (T : List (List K)) (k : Nat) : List K := T.map fun t => t.getD k 0
def totK (kind : Nat) (T : List (List K)) (n : Nat) : K := sumN n fun k => cmK kind (colK T k)
def bdK (r : K) (T : List (List K)) : List (List K) := T.map (fdK r)
theorem bdK_get (r : K) (T : List (List K)) (i : Nat) : (bdK r T).getD i [] = fdK r (T.getD i []) := by
  by_cases h : i < T.length
  · simp [bdK, h]
  · simp [bdK, h, fdK]
end Go.AI.Fn

set_option linter.unusedVariables false
set_option linter.unusedSimpArgs false
namespace Go.AI.Fn

end Go.AI.Fn

set_option linter.unusedVariables false
namespace Go.AI.Fn

def ltE (y x : Entry) : Prop := y.Row < x.Row ∨ (y.Row = x.Row ∧ y.Col < x.Col)
def inE (R C : Int) (x : Entry) : Prop := (0 ≤ x.Row ∧ x.Row ≤ R - 1) ∧ (0 ≤ x.Col ∧ x.Col ≤ C - 1) ∧ 1 ≤ x.Value ∧ x.Value ≤ 2130706432
theorem i_inA (n a b : Int) : i_in n a b = some (decide (a ≤ n ∧ n ≤ b)) := by
  unfold i_in
  by_cases h : a ≤ n
  · rw [brd h]; simp [h]
  · rw [brn h]; simp [h]
theorem s_inA (n a b : Int) : s_l01In n a b = some (decide (a ≤ n ∧ n ≤ b)) := by
  unfold s_l01In
  by_cases h : a ≤ n
  · rw [brd h]; simp [h]
  · rw [brn h]; simp [h]
end Go.AI.Fn

set_option linter.unusedVariables false
namespace Go.AI.Fn

def setB (t : Setting) : Bool := decide (1 ≤ t.Rate ∧ t.Rate ≤ 3) && (decide (1 ≤ t.Queries ∧ t.Queries ≤ 8) && decide (0 ≤ t.Grind ∧ t.Grind ≤ 12))
theorem i_SettingOK_eq (t : Setting) : i_SettingOK t = some (setB t) := by
  unfold i_SettingOK setB
  simp only [i_inA, Option.bind_some]
  cases decide (1 ≤ t.Rate ∧ t.Rate ≤ 3) <;> cases decide (1 ≤ t.Queries ∧ t.Queries ≤ 8) <;> rfl
theorem s_SettingOK_eq (t : Setting) : s_SettingOK t = some (setB t) := by
  unfold s_SettingOK setB
  simp only [s_inA, Option.bind_some]
  cases decide (1 ≤ t.Rate ∧ t.Rate ≤ 3) <;> cases decide (1 ≤ t.Queries ∧ t.Queries ≤ 8) <;> rfl
theorem setB_in {t : Setting} (h : setB t = true) : (1 ≤ t.Rate ∧ t.Rate ≤ 3) ∧ (1 ≤ t.Queries ∧ t.Queries ≤ 8) ∧ 0 ≤ t.Grind ∧ t.Grind ≤ 12 := by
  unfold setB at h
  simpa only [Bool.and_eq_true, decide_eq_true_eq] using h

end Go.AI.Fn

set_option linter.unusedVariables false
set_option linter.unusedSimpArgs false
namespace Go.AI.Fn

theorem shl1 {k : Nat} (h : k ≤ 62) : shl64 .i64 1 (k : Int) = ((2 ^ k : Nat) : Int) := by
  have h2 : ∀ k : Nat, k < 63 → (2 : Int) ^ k ≤ 4611686018427387904 ∧ 0 < (2 : Int) ^ k := by decide
  obtain ⟨h3, h4⟩ := h2 k (by omega)
  show IntKind.wrap .i64 (1 * 2 ^ (min ((k : Int).toNat) 64)) = _
  rw [Int.toNat_natCast, Nat.min_eq_left (by omega), Int.one_mul, wrap_i64 _ (by omega) (by omega)]
  simp
end Go.AI.Fn

set_option linter.unusedVariables false
namespace Go.AI.Fn

theorem SettingOf_ok {code : List UInt8} (h : code.length ≤ 1048576) : ∃ t, s_SettingOf code = some t ∧ (1 ≤ t.Rate ∧ t.Rate ≤ 2) ∧ (1 ≤ t.Queries ∧ t.Queries ≤ 3) ∧ 0 ≤ t.Grind ∧ t.Grind ≤ 2 := by
  unfold s_SettingOf s_l00Src_setting
  obtain ⟨m, e1, s1⟩ := source_ok (show code.length ≤ 1048600 by omega)
  rw [e1]
  simp only [Option.bind_some]
  obtain ⟨a, m1, f1, a0, a1, _, s2⟩ := next_ok (n := 2) s1 (by decide)
  obtain ⟨b, m2, f2, b0, b1, _, s3⟩ := next_ok (n := 3) s2 (by decide)
  obtain ⟨c, m3, f3, c0, c1, _, s4⟩ := next_ok (n := 3) s3 (by decide)
  have := a1 (by omega)
  have := b1 (by omega)
  have := c1 (by omega)
  rw [f1]
  simp only [Option.bind_some]
  rw [f2]
  simp only [Option.bind_some]
  rw [f3]
  simp only [Option.bind_some]
  rw [wrap_i64 (1 + a) (by omega) (by omega), wrap_i64 (1 + b) (by omega) (by omega)]
  exact ⟨_, rfl, by dsimp only; omega, by dsimp only; omega, by dsimp only; omega⟩
end Go.AI.Fn

set_option linter.unusedVariables false
set_option linter.unusedSimpArgs false
namespace Go.AI.Fn

end Go.AI.Fn

set_option linter.unusedVariables false
set_option linter.unusedSimpArgs false
namespace Go.AI.Fn

def kvv (T : List (List K)) : List (List Ext) := T.map kv
theorem kvv_len (T : List (List K)) : (kvv T).length = T.length := by simp [kvv]
theorem kvv_at {T : List (List K)} {j : Nat} (h : j < T.length) : atL (kvv T) (j : Int) = some (kv (T.getD j [])) := by rw [atL_nat (by rw [kvv_len]; exact h)]; simp [kvv, h]
theorem kvv_snoc (T : List (List K)) (t : List K) : kvv (T ++ [t]) = kvv T ++ [kv t] := by simp [kvv]
theorem fdK_snoc {r : K} {l : List K} {j : Nat} (m : Nat) (h : l.length = 2 * m) (hj : j < m) : (fdK r l).take (j + 1) = (fdK r l).take j ++ [l.getD (2 * j) 0 + r * (l.getD (2 * j + 1) 0 - l.getD (2 * j) 0)] := by
  have hl := fdK_len r l m h
  rw [take_succ (by omega), ← fdK_get r l m j h]; simp [show j < (fdK r l).length by omega]
theorem kvS (l : List K) (x : K) : kv (l ++ [x]) = kv l ++ [x.1] := by simp [kv]
theorem s_fold_eq {l : List K} {m : Nat} (r : K) (h : l.length = 2 * m) (hm : m ≤ 1000) : s_l06Fold (kv l) r.1 = some (kv (fdK r l)) := by
  have hl := fdK_len r l m h
  unfold s_l06Fold
  have key := Loop_for (step := s_l06Fold_1_s (kv l) r.1.A r.1.B) (fun j => (kv ((fdK r l).take j), ((2 * j : Nat) : Int))) m (e := (kv (fdK r l), (l.length : Int), false)) (fun j hj => ?_) ?_
  · have key' : Loop (s_l06Fold_1_s (kv l) r.1.A r.1.B) ([], 0) = _ := key
    rw [key']; rfl
  · simp only [s_l06Fold_1_s]
    rw [brd (by rw [kv_len]; omega), kv_at (by omega), Option.bind_some, wrap_i64 _ (by omega) (by omega), show (((2 * j : Nat) : Int)) + 1 = ((2 * j + 1 : Nat) : Int) by omega, kv_at (by omega), Option.bind_some, Option.bind_some,
      s_esub_eq (Subtype.property _) (Subtype.property _), Option.bind_some, show Ext.mk r.1.A r.1.B = r.1 from rfl, s_emul_eq r.2 (eS_ok _ _), Option.bind_some, s_eadd_eq (Subtype.property _) (eM_ok _ _), Option.bind_some, br_fits (by rw [List.length_append, kv_len, List.length_take, List.length_singleton]; omega),
      wrap_i64 _ (by omega) (by omega), show (((2 * j : Nat) : Int)) + 2 = ((2 * (j + 1) : Nat) : Int) by omega, fdK_snoc m h hj, kvS]; rfl
  · simp only [s_l06Fold_1_s]
    rw [brn (by rw [kv_len]; omega), decide_eq_false (by rw [kv_len]; omega), List.take_of_length_le (by omega), h]
/-- Tables that a sum is taken over. -/
structure OkT (kind n : Nat) (T : List (List K)) : Prop where
  kd : kind = 1 ∨ kind = 2
  len : T.length = 2 * kind
  tab : ∀ i, i < T.length → (T.getD i []).length = n
theorem OkT.bd {kind n : Nat} {T : List (List K)} (h : OkT kind (2 * n) T) (r : K) : OkT kind n (bdK r T) := ⟨h.kd, by simp [bdK, h.len], fun i hi => by
  rw [bdK_get]
  exact fdK_len r _ n (h.tab i (by simpa [bdK] using hi))⟩
theorem bd_snoc {r : K} {T : List (List K)} {j : Nat} (hj : j < T.length) : (bdK r T).take (j + 1) = (bdK r T).take j ++ [fdK r (T.getD j [])] := by
  rw [take_succ (by simpa [bdK] using hj)]; simp [bdK, hj]
variable {kind n : Nat} {T : List (List K)}
theorem s_bind_eq (h : OkT kind (2 * n) T) (hn : n ≤ 1000) (r : K) : s_l08Bind (kvv T) r.1 = some (kvv (bdK r T)) := by
  have hl := h.len
  have hk := h.kd
  have hb : (bdK r T).length = T.length := by simp [bdK]
  unfold s_l08Bind
  have key := Loop_for (step := s_l08Bind_1_s (kvv T) r.1.A r.1.B) (fun j => (kvv ((bdK r T).take j), (j : Int))) T.length (e := (kvv (bdK r T), (T.length : Int), false)) (fun j hj => ?_) ?_
  · have key' : Loop (s_l08Bind_1_s (kvv T) r.1.A r.1.B) ([], 0) = _ := key
    rw [key']; rfl
  · simp only [s_l08Bind_1_s, kvv_len]
    rw [brd (by omega), kvv_at hj, Option.bind_some, show Ext.mk r.1.A r.1.B = r.1 from rfl, s_fold_eq r (h.tab j hj) hn, Option.bind_some, br_fits (by rw [List.length_append, kvv_len, List.length_take, List.length_singleton]; omega), wrap_i64 _ (by omega) (by omega), bd_snoc hj, kvv_snoc]; rfl
  · simp only [s_l08Bind_1_s, kvv_len]
    rw [brn (by omega), decide_eq_false (by omega), List.take_of_length_le (by omega)]
theorem s_combine_eq {v : List K} (hk : kind = 1 ∨ kind = 2) (hv : v.length = 2 * kind) : s_l08Combine (kind : Int) (kv v) = some (cmK kind v).1 := by
  unfold s_l08Combine cmK
  have k0 := kv_at (l := v) (j := 0) (by omega)
  have k1 := kv_at (l := v) (j := 1) (by omega)
  rw [show ((0 : Nat) : Int) = 0 from rfl] at k0
  rw [show ((1 : Nat) : Int) = 1 from rfl] at k1
  rcases hk with rfl | rfl
  · rw [bre (by omega), k0, Option.bind_some, k1, Option.bind_some, s_emul_eq (Subtype.property _) (Subtype.property _), if_pos rfl]; rfl
  · have k2 := kv_at (l := v) (j := 2) (by omega)
    have k3 := kv_at (l := v) (j := 3) (by omega)
    rw [show ((2 : Nat) : Int) = 2 from rfl] at k2
    rw [show ((3 : Nat) : Int) = 3 from rfl] at k3
    rw [brne (by omega), k0, Option.bind_some, k1, Option.bind_some, k2, Option.bind_some, s_emul_eq (Subtype.property _) (Subtype.property _), Option.bind_some, k3, Option.bind_some, s_esub_eq (eM_ok _ _) (Subtype.property _), Option.bind_some, s_emul_eq (Subtype.property _) (eS_ok _ _), if_neg (by decide)]; rfl
theorem col_snoc {k j : Nat} (hj : j < T.length) : (colK T k).take (j + 1) = (colK T k).take j ++ [(T.getD j []).getD k 0] := by
  rw [take_succ (by simpa [colK] using hj)]; simp [colK, hj]
theorem colK_len (T : List (List K)) (k : Nat) : (colK T k).length = T.length := by simp [colK]
theorem s_At_eq (h : OkT kind n T) {j : Nat} (hj : j < n) (hn : n ≤ 1000) : s_l08At (kind : Int) (kvv T) (j : Int) = some (cmK kind (colK T j)).1 := by
  have hl := h.len
  have hk := h.kd
  unfold s_l08At
  have key := Loop_for (step := s_l08At_1_s (kind : Int) (kvv T) (j : Int) 0 0) (fun i => (kv ((colK T j).take i), (i : Int))) T.length (e := (kv (colK T j), (T.length : Int), false)) (fun i hi => ?_) ?_
  · have key' : Loop (s_l08At_1_s (kind : Int) (kvv T) (j : Int) 0 0) ([], 0) = _ := key
    rw [key', Option.bind_some]
    dsimp only
    rw [s_combine_eq hk (by rw [colK_len, hl])]; rfl
  · simp only [s_l08At_1_s, kvv_len]
    rw [brd (by omega), kvv_at hi, Option.bind_some, kv_at (by rw [h.tab i hi]; exact hj), Option.bind_some, br_fits (by rw [List.length_append, kv_len, List.length_take, colK_len, List.length_singleton]; omega), wrap_i64 _ (by omega) (by omega), col_snoc hi, kvS]; rfl
  · simp only [s_l08At_1_s, kvv_len]
    rw [brn (by omega), decide_eq_false (by omega), List.take_of_length_le (by rw [colK_len]; omega)]
theorem s_sum_eq (h : OkT kind n T) (hn : n ≤ 1000) : s_l08Sum (kind : Int) (kvv T) = some (totK kind T n).1 := by
  have hl := h.len
  have hk := h.kd
  have k0 := kvv_at (T := T) (j := 0) (by omega)
  rw [show ((0 : Nat) : Int) = 0 from rfl] at k0
  unfold s_l08Sum
  have key := Loop_for (step := s_l08Sum_1_s (kind : Int) (kvv T) 0 0) (fun j => ((j : Int), (sumN j fun k => cmK kind (colK T k)).1.A, (sumN j fun k => cmK kind (colK T k)).1.B)) n (e := ((n : Int), false, (totK kind T n).1.A, (totK kind T n).1.B)) (fun j hj => ?_) ?_
  · have key' : Loop (s_l08Sum_1_s (kind : Int) (kvv T) 0 0) (0, 0, 0) = _ := key
    rw [key']; rfl
  · simp only [s_l08Sum_1_s]
    rw [k0, Option.bind_some, kv_len, h.tab 0 (by omega), brd (by omega), s_At_eq h hj hn, Option.bind_some, s_eadd_eq (Subtype.property (sumN j fun k => cmK kind (colK T k))) (Subtype.property _), Option.bind_some, wrap_i64 _ (by omega) (by omega)]; rfl
  · simp only [s_l08Sum_1_s]
    rw [k0, Option.bind_some, kv_len, h.tab 0 (by omega), brn (by omega), decide_eq_false (by omega)]; rfl
/-- A round's values at 0, 1 and so on. -/
def rdK (kind : Nat) (T : List (List K)) (n : Nat) : List K := (List.range (kind + 2)).map fun (x : Nat) => totK kind (bdK (kF (x : Int)) T) n
theorem rdK_len (kind : Nat) (T : List (List K)) (n : Nat) : (rdK kind T n).length = kind + 2 := by simp [rdK]
theorem small_val {x : Nat} (h : x ≤ 10) : Ext.mk (x : Int) 0 = (kF (x : Int)).1 := (kF_val ⟨by omega, by omega⟩).symm
theorem s_round_eq (h : OkT kind (2 * n) T) (hn : n ≤ 1000) : s_l08Round (kind : Int) (kvv T) = some (kv (rdK kind T n)) := by
  have hk := h.kd
  unfold s_l08Round
  have key := Loop_for (step := s_l08Round_1_s (kind : Int) (kvv T)) (fun j => (kv ((List.range j).map fun (x : Nat) => totK kind (bdK (kF (x : Int)) T) n), (j : Int))) (kind + 2) (e := (kv (rdK kind T n), ((kind + 2 : Nat) : Int), false)) (fun j hj => ?_) ?_
  · have key' : Loop (s_l08Round_1_s (kind : Int) (kvv T)) ([], 0) = _ := key
    rw [key']; rfl
  · simp only [s_l08Round_1_s, s_l08Degree]
    rw [Option.bind_some, wrap_i64 ((kind : Int) + 1) (by omega) (by omega), brd (by omega), s_of_eq, Option.bind_some, show eN (j : Int) = (kF (j : Int)).1 from small_val (by omega), s_bind_eq h hn, Option.bind_some, s_sum_eq (h.bd _) hn, Option.bind_some, br_fits (by rw [List.length_append, kv_len, List.length_map, List.length_range, List.length_singleton]; omega), wrap_i64 _ (by omega) (by omega), List.range_succ, List.map_append, List.map_singleton, kvS]; rfl
  · simp only [s_l08Round_1_s, s_l08Degree]
    rw [Option.bind_some, wrap_i64 ((kind : Int) + 1) (by omega) (by omega), brn (by omega), decide_eq_false (by omega)]; rfl
end Go.AI.Fn

set_option linter.unusedVariables false
set_option linter.unusedSimpArgs false
namespace Go.AI.Fn

/-! ### the law of rounds -/
end Go.AI.Fn

set_option linter.unusedVariables false
set_option linter.unusedSimpArgs false
namespace Go.AI.Fn

abbrev xo (a b : Int) : Int := xor64 .u64 a b
/-- Turned left. -/
def rot (x s : Int) : Int := if s = 0 then x else or64 .u64 (shl64 .u64 x s) (shr64 .u64 x (64 - s))
def u64b (x : Int) : Prop := 0 ≤ x ∧ x < 18446744073709551616
theorem wrapu_b (x : Int) : u64b (IntKind.wrap .u64 x) := by
  unfold u64b; simp [IntKind.wrap, IntKind.bits, IntKind.signed]; omega
theorem xo_b (a b : Int) : u64b (xo a b) := wrapu_b _
theorem bv_toNat {x : Int} (h : u64b x) : ((BitVec.ofInt 64 x).toNat : Int) = x := by
  obtain ⟨h0, h1⟩ := h
  rw [BitVec.toNat_ofInt]; omega
theorem xo_zero {a : Int} (h : u64b a) : xo 0 a = a := by
  show IntKind.wrap .u64 _ = a
  have : (BitVec.ofInt 64 0 ^^^ BitVec.ofInt 64 a) = BitVec.ofInt 64 a := by simp
  show IntKind.wrap .u64 ((BitVec.ofInt 64 0 ^^^ BitVec.ofInt 64 a).toNat : Int) = a
  rw [this, bv_toNat h, wrap_u64 a h.1 h.2]
theorem andn_eq (x y : Int) : andn64 .u64 x y = and64 .u64 (not64 .u64 y) x := by
  show IntKind.wrap .u64 ((BitVec.ofInt 64 x &&& ~~~ BitVec.ofInt 64 y).toNat : Int) = IntKind.wrap .u64 ((BitVec.ofInt 64 (not64 .u64 y) &&& BitVec.ofInt 64 x).toNat : Int)
  have h : BitVec.ofInt 64 (not64 .u64 y) = ~~~ BitVec.ofInt 64 y := by
    show BitVec.ofInt 64 (IntKind.wrap .u64 ((BitVec.ofInt 64 18446744073709551615 ^^^ BitVec.ofInt 64 y).toNat : Int)) = _
    have e : (BitVec.ofInt 64 18446744073709551615 ^^^ BitVec.ofInt 64 y) = ~~~ BitVec.ofInt 64 y := by
      rw [show BitVec.ofInt 64 18446744073709551615 = BitVec.allOnes 64 by decide, BitVec.allOnes_xor]
    rw [e, wrap_u64 _ (by omega) (by have := (~~~ BitVec.ofInt 64 y).isLt; omega)]
    rw [BitVec.ofInt_natCast, BitVec.ofNat_toNat]; simp
  rw [h, BitVec.and_comm]
theorem turn_eq {x s : Int} (hs : 0 ≤ s ∧ s < 64) : s_l03Turn x s = some (rot x s) := by
  unfold s_l03Turn rot
  by_cases h : s = 0
  · rw [bre h, if_pos h]
  · rw [brne h, if_neg h, brd hs.1, wrap_u64 (64 - s) (by omega) (by omega), brd (by omega)]
end Go.AI.Fn

set_option linter.unusedVariables false
set_option linter.unusedSimpArgs false
namespace Go.AI.Fn

abbrev g (l : List Int) (i : Int) : Int := l.getD i.toNat 0

def shiftL : List Int := [0, 1, 62, 28, 27, 36, 44, 6, 55, 20, 3, 10, 43, 25, 39, 41, 45, 15, 21, 8, 18, 2, 61, 56, 14]
theorem shift_ok : ∀ k : Nat, k < 25 → 0 ≤ shiftL.getD k 0 ∧ shiftL.getD k 0 < 64 := by decide

-- the program
def p2 (m : List Int) (k : Nat) (l : List Int) : List Int := l.set ((k : Int) % 5).toNat (xo (g l ((k : Int) % 5)) (g m k))
def p3 (m c : List Int) (k : Nat) (l : List Int) : List Int :=
  l.set ((k : Int) / 5 + 5 * ((2 * ((k : Int) % 5) + 3 * ((k : Int) / 5)) % 5)).toNat (rot (xo (g m k) (xo (g c (((k : Int) % 5 + 4) % 5)) (rot (g c (((k : Int) % 5 + 1) % 5)) 1))) (g shiftL k))
def p4 (b : List Int) (k : Nat) (l : List Int) : List Int :=
  l.set k (xo (g b k) (andn64 .u64 (g b ((k : Int) - (k : Int) % 5 + ((k : Int) % 5 + 2) % 5)) (g b ((k : Int) - (k : Int) % 5 + ((k : Int) % 5 + 1) % 5))))
-- the reference
def q2 (m : List Int) (k : Nat) (l : List Int) : List Int := l.set k (xo (xo (xo (xo (g m k) (g m ((k : Int) + 5))) (g m ((k : Int) + 10))) (g m ((k : Int) + 15))) (g m ((k : Int) + 20)))
def q3 (c : List Int) (k : Nat) (l : List Int) : List Int := l.set k (xo (g l k) (xo (g c (((k : Int) + 4) % 5)) (rot (g c (((k : Int) + 1) % 5)) 1)))
def q5 (m : List Int) (x : Int) (y : Nat) (l : List Int) : List Int := l.set ((y : Int) + 5 * ((2 * x + 3 * (y : Int)) % 5)).toNat (rot (g m (x + 5 * (y : Int))) (g shiftL (x + 5 * (y : Int))))
def q4 (m : List Int) (x : Nat) (l : List Int) : List Int := iU (q5 m x) 5 l
def q7 (b : List Int) (x : Int) (y : Nat) (l : List Int) : List Int := l.set (x + 5 * (y : Int)).toNat (xo (g b (x + 5 * (y : Int))) (and64 .u64 (not64 .u64 (g b ((x + 1) % 5 + 5 * (y : Int)))) (g b ((x + 2) % 5 + 5 * (y : Int)))))
def q6 (b : List Int) (x : Nat) (l : List Int) : List Int := iU (q7 b x) 5 l

theorem p3_len (m c : List Int) (k : Nat) (l : List Int) : (iU (p3 m c) k l).length = l.length := iU_len (fun _ _ => List.length_set) k l
theorem p4_len (b : List Int) (k : Nat) (l : List Int) : (iU (p4 b) k l).length = l.length := iU_len (fun _ _ => List.length_set) k l
theorem q2_len (m : List Int) (k : Nat) (l : List Int) : (iU (q2 m) k l).length = l.length := iU_len (fun _ _ => List.length_set) k l
theorem q3_len (c : List Int) (k : Nat) (l : List Int) : (iU (q3 c) k l).length = l.length := iU_len (fun _ _ => List.length_set) k l
theorem q5_len (m : List Int) (x : Int) (k : Nat) (l : List Int) : (iU (q5 m x) k l).length = l.length := iU_len (fun _ _ => List.length_set) k l
theorem q7_len (m : List Int) (x : Int) (k : Nat) (l : List Int) : (iU (q7 m x) k l).length = l.length := iU_len (fun _ _ => List.length_set) k l
theorem q4_len (m : List Int) (k : Nat) (l : List Int) : (iU (q4 m) k l).length = l.length := iU_len (fun x l => q5_len m x 5 l) k l
theorem q6_len (m : List Int) (k : Nat) (l : List Int) : (iU (q6 m) k l).length = l.length := iU_len (fun x l => q7_len m x 5 l) k l

theorem loop_q2 {m5 m6 m7 m8 : List Int} {t2 : Int} (h : m5.length = 25) : Loop (s_l03Permute_2_s m5 m6 m7 m8 t2) (nZ 5, 0) = some (iU (q2 m5) 5 (nZ 5), 5, false) :=
  Loop_for (fun k => (iU (q2 m5) k (nZ 5), (k : Int))) 5 (fun k hk => by
    have hl := q2_len m5 k (nZ 5)
    rw [nZ_len] at hl
    simp only [s_l03Permute_2_s]
    simp (disch := omega) only [brd, tmod_nn, brdd, get_bind, wrap_i64]
    simp only [iU, q2, Int.toNat_natCast, cast_succ]
    rfl) (by
    simp (disch := omega) only [s_l03Permute_2_s, brn]; rfl)

theorem shift_at (k : Nat) (hk : k < 25) : 0 ≤ shiftL.getD k 0 ∧ shiftL.getD k 0 < 64 := shift_ok k hk
theorem shift_len : shiftL.length = 25 := rfl
theorem loop_q3 {m11 m12 m13 c m : List Int} {t4 : Int} (h : m.length = 25) (hc : c.length = 5) : Loop (s_l03Permute_3_s m11 m12 m13 c t4) (m, 0) = some (iU (q3 c) 25 m, 25, false) :=
  Loop_for (fun k => (iU (q3 c) k m, (k : Int))) 25 (fun k hk => by
    have hl := q3_len c k m
    simp only [s_l03Permute_3_s]
    simp (disch := omega) only [brd, tmod_nn, tdiv_nn, brdd, get_bind, wrap_i64]
    rw [turn_eq ⟨by decide, by decide⟩]
    simp only [Option.bind_some]
    rfl) (by
    simp (disch := omega) only [s_l03Permute_3_s, brn]; rfl)
theorem loop_q5 {a m22 m23 m25 m : List Int} {t8 : Int} {x : Nat} (hx : x < 5) (h : m.length = 25) (ha : a.length = 25) : Loop (s_l03Permute_5_s a m22 m23 shiftL m25 t8 x) (m, 0) = some (iU (q5 a x) 5 m, 5, false) :=
  Loop_for (fun k => (iU (q5 a x) k m, (k : Int))) 5 (fun k hk => by
    have hl := q5_len a x k m
    have hs := shift_at ((x : Int) + 5 * (k : Int)).toNat (by omega)
    have hs1 := shift_len
    simp only [s_l03Permute_5_s]
    simp (disch := omega) only [brd, tmod_nn, tdiv_nn, brdd, get_bind, wrap_i64]
    rw [turn_eq hs]
    simp only [Option.bind_some]
    rfl) (by
    simp (disch := omega) only [s_l03Permute_5_s, brn]; rfl)
theorem loop_q4 {a m16 m17 m19 m : List Int} {t6 : Int} (h : m.length = 25) (ha : a.length = 25) : Loop (s_l03Permute_4_s a m16 m17 shiftL m19 t6) (m, 0) = some (iU (q4 a) 5 m, 5, false) :=
  Loop_for (fun k => (iU (q4 a) k m, (k : Int))) 5 (fun k hk => by
    have hl := q4_len a k m
    simp only [s_l03Permute_4_s]
    rw [brd (by omega), loop_q5 hk (by omega) ha, Option.bind_some, wrap_i64 _ (by omega) (by omega)]
    rfl) (by
    simp (disch := omega) only [s_l03Permute_4_s, brn]; rfl)
theorem loop_q7 {m34 m35 m36 m37 b m : List Int} {t13 : Int} {x : Nat} (hx : x < 5) (h : m.length = 25) (hb : b.length = 25) : Loop (s_l03Permute_7_s m34 m35 m36 m37 b t13 x) (m, 0) = some (iU (q7 b x) 5 m, 5, false) :=
  Loop_for (fun k => (iU (q7 b x) k m, (k : Int))) 5 (fun k hk => by
    have hl := q7_len b x k m
    simp only [s_l03Permute_7_s]
    simp (disch := omega) only [brd, tmod_nn, tdiv_nn, brdd, get_bind, wrap_i64]
    rfl) (by
    simp (disch := omega) only [s_l03Permute_7_s, brn]; rfl)
theorem loop_q6 {m28 m29 m30 m31 b m : List Int} {t11 : Int} (h : m.length = 25) (hb : b.length = 25) : Loop (s_l03Permute_6_s m28 m29 m30 m31 b t11) (m, 0) = some (iU (q6 b) 5 m, 5, false) :=
  Loop_for (fun k => (iU (q6 b) k m, (k : Int))) 5 (fun k hk => by
    have hl := q6_len b k m
    simp only [s_l03Permute_6_s]
    rw [brd (by omega), loop_q7 hk (by omega) hb, Option.bind_some, wrap_i64 _ (by omega) (by omega)]
    rfl) (by
    simp (disch := omega) only [s_l03Permute_6_s, brn]; rfl)

/-- One round, as the program and as the reference do it. -/
def roundP (m : List Int) (rc : Int) : List Int :=
  let c := iU (p2 m) 25 (nZ 5)
  let b := iU (p3 m c) 25 (nZ 25)
  let r := iU (p4 b) 25 m
  r.set 0 (xo (r.getD 0 0) rc)
def roundQ (m : List Int) (rc : Int) : List Int :=
  let c := iU (q2 m) 5 (nZ 5)
  let a := iU (q3 c) 25 m
  let b := iU (q4 a) 5 (nZ 25)
  let r := iU (q6 b) 5 a
  r.set 0 (xo (r.getD 0 0) rc)
end Go.AI.Fn

set_option linter.unusedVariables false
set_option linter.unusedSimpArgs false
namespace Go.AI.Fn

theorem len_split {l : List Int} {n : Nat} (h : l.length = n + 1) : ∃ a r, l = a :: r ∧ r.length = n := by
  cases l with
  | nil => simp at h
  | cons a r => exact ⟨a, r, rfl, by simpa using h⟩
theorem len_nil {l : List Int} (h : l.length = 0) : l = [] := List.eq_nil_of_length_eq_zero h

theorem len25 {l : List Int} (h : l.length = 25) : ∃ a0 a1 a2 a3 a4 a5 a6 a7 a8 a9 a10 a11 a12 a13 a14 a15 a16 a17 a18 a19 a20 a21 a22 a23 a24, l = [a0, a1, a2, a3, a4, a5, a6, a7, a8, a9, a10, a11, a12, a13, a14, a15, a16, a17, a18, a19, a20, a21, a22, a23, a24] := by
  obtain ⟨a0, r0, rfl, h0⟩ := len_split h
  obtain ⟨a1, r1, rfl, h1⟩ := len_split h0
  obtain ⟨a2, r2, rfl, h2⟩ := len_split h1
  obtain ⟨a3, r3, rfl, h3⟩ := len_split h2
  obtain ⟨a4, r4, rfl, h4⟩ := len_split h3
  obtain ⟨a5, r5, rfl, h5⟩ := len_split h4
  obtain ⟨a6, r6, rfl, h6⟩ := len_split h5
  obtain ⟨a7, r7, rfl, h7⟩ := len_split h6
  obtain ⟨a8, r8, rfl, h8⟩ := len_split h7
  obtain ⟨a9, r9, rfl, h9⟩ := len_split h8
  obtain ⟨a10, r10, rfl, h10⟩ := len_split h9
  obtain ⟨a11, r11, rfl, h11⟩ := len_split h10
  obtain ⟨a12, r12, rfl, h12⟩ := len_split h11
  obtain ⟨a13, r13, rfl, h13⟩ := len_split h12
  obtain ⟨a14, r14, rfl, h14⟩ := len_split h13
  obtain ⟨a15, r15, rfl, h15⟩ := len_split h14
  obtain ⟨a16, r16, rfl, h16⟩ := len_split h15
  obtain ⟨a17, r17, rfl, h17⟩ := len_split h16
  obtain ⟨a18, r18, rfl, h18⟩ := len_split h17
  obtain ⟨a19, r19, rfl, h19⟩ := len_split h18
  obtain ⟨a20, r20, rfl, h20⟩ := len_split h19
  obtain ⟨a21, r21, rfl, h21⟩ := len_split h20
  obtain ⟨a22, r22, rfl, h22⟩ := len_split h21
  obtain ⟨a23, r23, rfl, h23⟩ := len_split h22
  obtain ⟨a24, r24, rfl, h24⟩ := len_split h23
  obtain rfl := len_nil h24
  exact ⟨_, _, _, _, _, _, _, _, _, _, _, _, _, _, _, _, _, _, _, _, _, _, _, _, _, rfl⟩

/-- 25 lanes. -/
def okLanes (m : List Int) : Prop := m.length = 25 ∧ ∀ x ∈ m, u64b x

/-- The five sums. -/
def cs (m : List Int) : List Int := iU (q2 m) 5 (nZ 5)
theorem sums_eq {m : List Int} (h : okLanes m) : iU (p2 m) 25 (nZ 5) = cs m := by
  obtain ⟨hl, hb⟩ := h
  obtain ⟨a0, a1, a2, a3, a4, a5, a6, a7, a8, a9, a10, a11, a12, a13, a14, a15, a16, a17, a18, a19, a20, a21, a22, a23, a24, rfl⟩ := len25 hl
  have e0 := xo_zero (hb a0 (by simp))
  have e1 := xo_zero (hb a1 (by simp))
  have e2 := xo_zero (hb a2 (by simp))
  have e3 := xo_zero (hb a3 (by simp))
  have e4 := xo_zero (hb a4 (by simp))
  have k : iU (p2 [a0, a1, a2, a3, a4, a5, a6, a7, a8, a9, a10, a11, a12, a13, a14, a15, a16, a17, a18, a19, a20, a21, a22, a23, a24]) 25 (nZ 5) = [xo (xo (xo (xo (xo 0 a0) a5) a10) a15) a20, xo (xo (xo (xo (xo 0 a1) a6) a11) a16) a21, xo (xo (xo (xo (xo 0 a2) a7) a12) a17) a22, xo (xo (xo (xo (xo 0 a3) a8) a13) a18) a23, xo (xo (xo (xo (xo 0 a4) a9) a14) a19) a24] := by kernel_rfl
  have k2 : cs [a0, a1, a2, a3, a4, a5, a6, a7, a8, a9, a10, a11, a12, a13, a14, a15, a16, a17, a18, a19, a20, a21, a22, a23, a24] =
    [xo (xo (xo (xo a0 a5) a10) a15) a20, xo (xo (xo (xo a1 a6) a11) a16) a21, xo (xo (xo (xo a2 a7) a12) a17) a22, xo (xo (xo (xo a3 a8) a13) a18) a23, xo (xo (xo (xo a4 a9) a14) a19) a24] := by kernel_rfl
  rw [k, k2, e0, e1, e2, e3, e4]

theorem p3_form {c : List Int} (a0 a1 a2 a3 a4 a5 a6 a7 a8 a9 a10 a11 a12 a13 a14 a15 a16 a17 a18 a19 a20 a21 a22 a23 a24 : Int) : iU (p3 [a0, a1, a2, a3, a4, a5, a6, a7, a8, a9, a10, a11, a12, a13, a14, a15, a16, a17, a18, a19, a20, a21, a22, a23, a24] c) 25 (nZ 25) = [rot (xo a0 (xo (g c 4) (rot (g c 1) 1))) 0, rot (xo a6 (xo (g c 0) (rot (g c 2) 1))) 44, rot (xo a12 (xo (g c 1) (rot (g c 3) 1))) 43, rot (xo a18 (xo (g c 2) (rot (g c 4) 1))) 21, rot (xo a24 (xo (g c 3) (rot (g c 0) 1))) 14, rot (xo a3 (xo (g c 2) (rot (g c 4) 1))) 28, rot (xo a9 (xo (g c 3) (rot (g c 0) 1))) 20, rot (xo a10 (xo (g c 4) (rot (g c 1) 1))) 3, rot (xo a16 (xo (g c 0) (rot (g c 2) 1))) 45, rot (xo a22 (xo (g c 1) (rot (g c 3) 1))) 61, rot (xo a1 (xo (g c 0) (rot (g c 2) 1))) 1, rot (xo a7 (xo (g c 1) (rot (g c 3) 1))) 6, rot (xo a13 (xo (g c 2) (rot (g c 4) 1))) 25, rot (xo a19 (xo (g c 3) (rot (g c 0) 1))) 8, rot (xo a20 (xo (g c 4) (rot (g c 1) 1))) 18, rot (xo a4 (xo (g c 3) (rot (g c 0) 1))) 27, rot (xo a5 (xo (g c 4) (rot (g c 1) 1))) 36, rot (xo a11 (xo (g c 0) (rot (g c 2) 1))) 10, rot (xo a17 (xo (g c 1) (rot (g c 3) 1))) 15, rot (xo a23 (xo (g c 2) (rot (g c 4) 1))) 56, rot (xo a2 (xo (g c 1) (rot (g c 3) 1))) 62, rot (xo a8 (xo (g c 2) (rot (g c 4) 1))) 55, rot (xo a14 (xo (g c 3) (rot (g c 0) 1))) 39, rot (xo a15 (xo (g c 4) (rot (g c 1) 1))) 41, rot (xo a21 (xo (g c 0) (rot (g c 2) 1))) 2] := by kernel_rfl
theorem q3_form {c : List Int} (a0 a1 a2 a3 a4 a5 a6 a7 a8 a9 a10 a11 a12 a13 a14 a15 a16 a17 a18 a19 a20 a21 a22 a23 a24 : Int) : iU (q3 c) 25 [a0, a1, a2, a3, a4, a5, a6, a7, a8, a9, a10, a11, a12, a13, a14, a15, a16, a17, a18, a19, a20, a21, a22, a23, a24] = [xo a0 (xo (g c 4) (rot (g c 1) 1)), xo a1 (xo (g c 0) (rot (g c 2) 1)), xo a2 (xo (g c 1) (rot (g c 3) 1)), xo a3 (xo (g c 2) (rot (g c 4) 1)), xo a4 (xo (g c 3) (rot (g c 0) 1)), xo a5 (xo (g c 4) (rot (g c 1) 1)), xo a6 (xo (g c 0) (rot (g c 2) 1)), xo a7 (xo (g c 1) (rot (g c 3) 1)), xo a8 (xo (g c 2) (rot (g c 4) 1)), xo a9 (xo (g c 3) (rot (g c 0) 1)), xo a10 (xo (g c 4) (rot (g c 1) 1)), xo a11 (xo (g c 0) (rot (g c 2) 1)), xo a12 (xo (g c 1) (rot (g c 3) 1)), xo a13 (xo (g c 2) (rot (g c 4) 1)), xo a14 (xo (g c 3) (rot (g c 0) 1)), xo a15 (xo (g c 4) (rot (g c 1) 1)), xo a16 (xo (g c 0) (rot (g c 2) 1)), xo a17 (xo (g c 1) (rot (g c 3) 1)), xo a18 (xo (g c 2) (rot (g c 4) 1)), xo a19 (xo (g c 3) (rot (g c 0) 1)), xo a20 (xo (g c 4) (rot (g c 1) 1)), xo a21 (xo (g c 0) (rot (g c 2) 1)), xo a22 (xo (g c 1) (rot (g c 3) 1)), xo a23 (xo (g c 2) (rot (g c 4) 1)), xo a24 (xo (g c 3) (rot (g c 0) 1))] := by kernel_rfl
theorem q4_form (a0 a1 a2 a3 a4 a5 a6 a7 a8 a9 a10 a11 a12 a13 a14 a15 a16 a17 a18 a19 a20 a21 a22 a23 a24 : Int) : iU (q4 [a0, a1, a2, a3, a4, a5, a6, a7, a8, a9, a10, a11, a12, a13, a14, a15, a16, a17, a18, a19, a20, a21, a22, a23, a24]) 5 (nZ 25) = [rot a0 0, rot a6 44, rot a12 43, rot a18 21, rot a24 14, rot a3 28, rot a9 20, rot a10 3, rot a16 45, rot a22 61, rot a1 1, rot a7 6, rot a13 25, rot a19 8, rot a20 18, rot a4 27, rot a5 36, rot a11 10, rot a17 15, rot a23 56, rot a2 62, rot a8 55, rot a14 39, rot a15 41, rot a21 2] := by kernel_rfl
theorem moved_eq {m c : List Int} (hm : m.length = 25) : iU (p3 m c) 25 (nZ 25) = iU (q4 (iU (q3 c) 25 m)) 5 (nZ 25) := by
  obtain ⟨a0, a1, a2, a3, a4, a5, a6, a7, a8, a9, a10, a11, a12, a13, a14, a15, a16, a17, a18, a19, a20, a21, a22, a23, a24, rfl⟩ := len25 hm
  rw [p3_form, q3_form, q4_form]

def p4' (b : List Int) (k : Nat) (l : List Int) : List Int := l.set k (xo (g b k) (and64 .u64 (not64 .u64 (g b ((k : Int) - (k : Int) % 5 + ((k : Int) % 5 + 1) % 5))) (g b ((k : Int) - (k : Int) % 5 + ((k : Int) % 5 + 2) % 5))))
theorem p4_eq (b : List Int) : p4 b = p4' b := by funext k l; unfold p4 p4'; rw [andn_eq]
theorem p4_form (a0 a1 a2 a3 a4 a5 a6 a7 a8 a9 a10 a11 a12 a13 a14 a15 a16 a17 a18 a19 a20 a21 a22 a23 a24 : Int) (b0 b1 b2 b3 b4 b5 b6 b7 b8 b9 b10 b11 b12 b13 b14 b15 b16 b17 b18 b19 b20 b21 b22 b23 b24 : Int) : iU (p4' [a0, a1, a2, a3, a4, a5, a6, a7, a8, a9, a10, a11, a12, a13, a14, a15, a16, a17, a18, a19, a20, a21, a22, a23, a24]) 25 [b0, b1, b2, b3, b4, b5, b6, b7, b8, b9, b10, b11, b12, b13, b14, b15, b16, b17, b18, b19, b20, b21, b22, b23, b24] = [xo a0 (and64 .u64 (not64 .u64 a1) a2), xo a1 (and64 .u64 (not64 .u64 a2) a3), xo a2 (and64 .u64 (not64 .u64 a3) a4), xo a3 (and64 .u64 (not64 .u64 a4) a0), xo a4 (and64 .u64 (not64 .u64 a0) a1), xo a5 (and64 .u64 (not64 .u64 a6) a7), xo a6 (and64 .u64 (not64 .u64 a7) a8), xo a7 (and64 .u64 (not64 .u64 a8) a9), xo a8 (and64 .u64 (not64 .u64 a9) a5), xo a9 (and64 .u64 (not64 .u64 a5) a6), xo a10 (and64 .u64 (not64 .u64 a11) a12), xo a11 (and64 .u64 (not64 .u64 a12) a13), xo a12 (and64 .u64 (not64 .u64 a13) a14), xo a13 (and64 .u64 (not64 .u64 a14) a10), xo a14 (and64 .u64 (not64 .u64 a10) a11), xo a15 (and64 .u64 (not64 .u64 a16) a17), xo a16 (and64 .u64 (not64 .u64 a17) a18), xo a17 (and64 .u64 (not64 .u64 a18) a19), xo a18 (and64 .u64 (not64 .u64 a19) a15), xo a19 (and64 .u64 (not64 .u64 a15) a16), xo a20 (and64 .u64 (not64 .u64 a21) a22), xo a21 (and64 .u64 (not64 .u64 a22) a23), xo a22 (and64 .u64 (not64 .u64 a23) a24), xo a23 (and64 .u64 (not64 .u64 a24) a20), xo a24 (and64 .u64 (not64 .u64 a20) a21)] := by kernel_rfl
theorem q6_form (a0 a1 a2 a3 a4 a5 a6 a7 a8 a9 a10 a11 a12 a13 a14 a15 a16 a17 a18 a19 a20 a21 a22 a23 a24 : Int) (b0 b1 b2 b3 b4 b5 b6 b7 b8 b9 b10 b11 b12 b13 b14 b15 b16 b17 b18 b19 b20 b21 b22 b23 b24 : Int) : iU (q6 [a0, a1, a2, a3, a4, a5, a6, a7, a8, a9, a10, a11, a12, a13, a14, a15, a16, a17, a18, a19, a20, a21, a22, a23, a24]) 5 [b0, b1, b2, b3, b4, b5, b6, b7, b8, b9, b10, b11, b12, b13, b14, b15, b16, b17, b18, b19, b20, b21, b22, b23, b24] = [xo a0 (and64 .u64 (not64 .u64 a1) a2), xo a1 (and64 .u64 (not64 .u64 a2) a3), xo a2 (and64 .u64 (not64 .u64 a3) a4), xo a3 (and64 .u64 (not64 .u64 a4) a0), xo a4 (and64 .u64 (not64 .u64 a0) a1), xo a5 (and64 .u64 (not64 .u64 a6) a7), xo a6 (and64 .u64 (not64 .u64 a7) a8), xo a7 (and64 .u64 (not64 .u64 a8) a9), xo a8 (and64 .u64 (not64 .u64 a9) a5), xo a9 (and64 .u64 (not64 .u64 a5) a6), xo a10 (and64 .u64 (not64 .u64 a11) a12), xo a11 (and64 .u64 (not64 .u64 a12) a13), xo a12 (and64 .u64 (not64 .u64 a13) a14), xo a13 (and64 .u64 (not64 .u64 a14) a10), xo a14 (and64 .u64 (not64 .u64 a10) a11), xo a15 (and64 .u64 (not64 .u64 a16) a17), xo a16 (and64 .u64 (not64 .u64 a17) a18), xo a17 (and64 .u64 (not64 .u64 a18) a19), xo a18 (and64 .u64 (not64 .u64 a19) a15), xo a19 (and64 .u64 (not64 .u64 a15) a16), xo a20 (and64 .u64 (not64 .u64 a21) a22), xo a21 (and64 .u64 (not64 .u64 a22) a23), xo a22 (and64 .u64 (not64 .u64 a23) a24), xo a23 (and64 .u64 (not64 .u64 a24) a20), xo a24 (and64 .u64 (not64 .u64 a20) a21)] := by kernel_rfl
theorem last_eq {b m a : List Int} (hb : b.length = 25) (hm : m.length = 25) (ha : a.length = 25) : iU (p4 b) 25 m = iU (q6 b) 5 a := by
  rw [p4_eq]
  obtain ⟨a0, a1, a2, a3, a4, a5, a6, a7, a8, a9, a10, a11, a12, a13, a14, a15, a16, a17, a18, a19, a20, a21, a22, a23, a24, rfl⟩ := len25 hb
  obtain ⟨b0, b1, b2, b3, b4, b5, b6, b7, b8, b9, b10, b11, b12, b13, b14, b15, b16, b17, b18, b19, b20, b21, b22, b23, b24, rfl⟩ := len25 hm
  obtain ⟨c0, c1, c2, c3, c4, c5, c6, c7, c8, c9, c10, c11, c12, c13, c14, c15, c16, c17, c18, c19, c20, c21, c22, c23, c24, rfl⟩ := len25 ha
  rw [p4_form, q6_form]
theorem round_eq {m : List Int} {rc : Int} (h : okLanes m) : roundP m rc = roundQ m rc := by
  unfold roundP roundQ
  dsimp only
  have h1 := sums_eq h
  unfold cs at h1
  rw [h1]
  have hc : (iU (q2 m) 5 (nZ 5)).length = 5 := by rw [q2_len, nZ_len]
  have ha : (iU (q3 (iU (q2 m) 5 (nZ 5))) 25 m).length = 25 := by rw [q3_len]; exact h.1
  rw [moved_eq h.1]
  rw [last_eq (a := iU (q3 (iU (q2 m) 5 (nZ 5))) 25 m) (by rw [q4_len, nZ_len]) h.1 ha]
theorem round_ok {m : List Int} {rc : Int} (h : okLanes m) : okLanes (roundP m rc) := by
  have hl : (roundP m rc).length = 25 := by
    unfold roundP; dsimp only; rw [List.length_set, p4_len]; exact h.1
  refine ⟨hl, ?_⟩
  unfold roundP
  dsimp only
  have hb : (iU (p3 m (iU (p2 m) 25 (nZ 5))) 25 (nZ 25)).length = 25 := by rw [p3_len, nZ_len]
  generalize iU (p3 m (iU (p2 m) 25 (nZ 5))) 25 (nZ 25) = b at hb
  have key : ∀ k, k ≤ 25 → ∀ i, i < k → ∀ hi : i < (iU (p4 b) k m).length, u64b (iU (p4 b) k m)[i] := by
    intro k
    induction k with
    | zero => intro _ i hi; omega
    | succ k ih =>
      intro hk i hi hlen
      simp only [iU, p4]
      rw [List.getElem_set]
      split
      · exact xo_b _ _
      · exact ih (by omega) i (by omega) (by simpa [iU, p4] using hlen)
  intro x hx
  rcases List.mem_or_eq_of_mem_set hx with h1 | h1
  · obtain ⟨i, hi, rfl⟩ := List.getElem_of_mem h1
    exact key 25 (by omega) i (by rw [p4_len] at hi; have := h.1; omega) hi
  · rw [h1]; exact xo_b _ _
end Go.AI.Fn

set_option linter.unusedVariables false
set_option linter.unusedSimpArgs false
set_option maxRecDepth 10000
namespace Go.AI.Fn

def rcL : List Int := [1, 32898, 9223372036854808714, 9223372039002292224, 32907, 2147483649, 9223372039002292353, 9223372036854808585, 138, 136, 2147516425, 2147483658, 2147516555, 9223372036854775947, 9223372036854808713, 9223372036854808579, 9223372036854808578, 9223372036854775936, 32778, 9223372039002259466, 9223372039002292353, 9223372036854808704, 2147483649, 9223372039002292232]
theorem rcL_len : rcL.length = 24 := rfl
def rdP (k : Nat) (m : List Int) : List Int := roundP m (rcL.getD k 0)
/-- The permutation. -/
def permM (m : List Int) : List Int := iU rdP 24 m
theorem rd_succ (k : Nat) (m : List Int) : iU rdP (k + 1) m = roundP (iU rdP k m) (rcL.getD k 0) := by rw [iU, rdP]
theorem rd_ok {m : List Int} (h : okLanes m) : ∀ k, okLanes (iU rdP k m)
  | 0 => h
  | k + 1 => by rw [rd_succ]; exact round_ok (rd_ok h k)
theorem perm_ok {m : List Int} (h : okLanes m) : okLanes (permM m) := rd_ok h 24
theorem s_permute_eq {m : List Int} (h : okLanes m) : s_l03Permute m = some (permM m) := by
  unfold s_l03Permute
  have key : Loop (s_l03Permute_1_s (nZ 25) rcL shiftL) (m, 0) = some (permM m, 24, false) :=
    Loop_for (fun k => (iU rdP k m, (k : Int))) 24 (fun k hk => by
      have h1 := rd_ok h k
      have hl1 := h1.1
      have hr := rcL_len
      simp only [s_l03Permute_1_s]
      rw [brd (by omega), loop_q2 h1.1, Option.bind_some, loop_q3 h1.1 (by rw [q2_len, nZ_len]), Option.bind_some, loop_q4 (nZ_len 25) (by rw [q3_len]; exact h1.1), Option.bind_some,
        loop_q6 (by rw [q3_len]; exact h1.1) (by rw [q4_len, nZ_len]), Option.bind_some]
      have hl := q6_len (iU (q4 (iU (q3 (iU (q2 (iU rdP k m)) 5 (nZ 5))) 25 (iU rdP k m))) 5 (nZ 25)) 5 (iU (q3 (iU (q2 (iU rdP k m)) 5 (nZ 5))) 25 (iU rdP k m))
      rw [q3_len] at hl
      simp (disch := omega) only [get_bind, brd, brdd, wrap_i64]
      rw [rd_succ, round_eq h1]
      unfold roundQ
      simp only [cast_succ, Int.toNat_natCast]) (by simp (disch := omega) only [s_l03Permute_1_s, brn]; rfl)
  have hp := (perm_ok h).1
  rw [brd h.1]
  show (some rcL).bind _ = _
  rw [Option.bind_some, brd rcL_len]
  show (some shiftL).bind _ = _
  rw [Option.bind_some, brd shift_len, key, Option.bind_some, brd hp, brd hp, brd hp]

theorem atL_u8 {l : List UInt8} {k : Nat} (h : k < l.length) : atL l (k : Int) = some (l.getD k 0) := by simp [atL, h]
def lnS (t : List UInt8) (k : Nat) (l : List Int) : List Int := l.set ((k : Int) / 8).toNat (or64 .u64 (g l ((k : Int) / 8)) (shl64 .u64 (IntKind.wrap .u64 ((t.getD k 0).toNat : Int)) (8 * ((k : Int) % 8))))
/-- The lanes that bytes are. -/
def lanesM (t : List UInt8) : List Int := iU (lnS t) t.length (nZ 25)
theorem lnS_len (t : List UInt8) (k : Nat) (l : List Int) : (iU (lnS t) k l).length = l.length := iU_len (fun _ _ => List.length_set) k l
theorem lanes_ok (t : List UInt8) : okLanes (lanesM t) := by
  refine ⟨by rw [lanesM, lnS_len, nZ_len], ?_⟩
  have key : ∀ k, ∀ x ∈ iU (lnS t) k (nZ 25), u64b x := by
    intro k
    induction k with
    | zero => intro x hx; simp only [iU, nZ, List.mem_replicate] at hx; rw [hx.2]; exact ⟨by decide, by decide⟩
    | succ k ih =>
      intro x hx
      rcases List.mem_or_eq_of_mem_set hx with h1 | h1
      · exact ih x h1
      · rw [h1]; exact wrapu_b _
  exact key _
theorem s_lanes_eq {t : List UInt8} (h : t.length ≤ 200) : s_l03Lanes t = some (lanesM t) := by
  unfold s_l03Lanes
  have key : Loop (s_l03Lanes_1_s (nZ 25) t) (nZ 25, 0) = some (lanesM t, (t.length : Int), false) :=
    Loop_for (fun k => (iU (lnS t) k (nZ 25), (k : Int))) t.length (fun k hk => by
      have hl := lnS_len t k (nZ 25)
      rw [nZ_len] at hl
      simp only [s_l03Lanes_1_s]
      simp (disch := omega) only [brd, tmod_nn, tdiv_nn, brdd, get_bind, wrap_i64, wrap_u64, atL_u8, Option.bind_some]
      rfl) (by simp (disch := omega) only [s_l03Lanes_1_s, brn]; simp; rfl)
  have hl := (lanes_ok t).1
  rw [key, Option.bind_some, brd hl, brd hl, brd hl]

def txB (m : List Int) (i : Nat) : UInt8 := UInt8.ofInt (shr64 .u64 (g m ((i : Int) / 8)) (8 * ((i : Int) % 8)))
def textM (m : List Int) (n : Nat) : List UInt8 := (List.range n).map (txB m)
theorem textM_len (m : List Int) (n : Nat) : (textM m n).length = n := by simp [textM]
theorem textM_succ (m : List Int) (n : Nat) : textM m (n + 1) = textM m n ++ [txB m n] := by simp [textM, List.range_succ]
theorem s_text_eq {m : List Int} (h : m.length = 25) {n : Nat} (hn : n ≤ 200) : s_l03Text m n = some (textM m n) := by
  unfold s_l03Text
  have key : Loop (s_l03Text_1_s m n) ([], 0) = some (textM m n, (n : Int), false) :=
    Loop_for (fun k => (textM m k, (k : Int))) n (fun k hk => by
      have hl := textM_len m k
      simp only [s_l03Text_1_s]
      simp (disch := omega) only [brd, tmod_nn, tdiv_nn, brdd, get_bind, wrap_i64, wrap_u64]
      rw [br_fits (by simp only [List.length_append, List.length_cons, List.length_nil]; omega), textM_succ]
      rfl) (by simp (disch := omega) only [s_l03Text_1_s, brn]; simp)
  rw [brd h, key]; rfl
end Go.AI.Fn

set_option linter.unusedVariables false
set_option linter.unusedSimpArgs false
namespace Go.AI.Fn

def xoS (t : List Int) (k : Nat) (l : List Int) : List Int := l.set k (xo (g l k) (g t k))
def xorM (t m : List Int) : List Int := iU (xoS t) 25 m
theorem xoS_len (t : List Int) (k : Nat) (l : List Int) : (iU (xoS t) k l).length = l.length := iU_len (fun _ _ => List.length_set) k l
theorem xor_ok {t m : List Int} (h : okLanes m) : okLanes (xorM t m) := by
  refine ⟨by rw [xorM, xoS_len]; exact h.1, ?_⟩
  have key : ∀ k, ∀ x ∈ iU (xoS t) k m, u64b x := by
    intro k
    induction k with
    | zero => exact h.2
    | succ k ih =>
      intro x hx
      rcases List.mem_or_eq_of_mem_set hx with h1 | h1
      · exact ih x h1
      · rw [h1]; exact wrapu_b _
  exact key _
theorem s_xor_eq {l5 a : List UInt8} {p : Int} {t m : List Int} (ht : t.length = 25) (h : m.length = 25) : Loop (s_l03Hash_3_s l5 t a p) (m, 0) = some (xorM t m, 25, false) :=
  Loop_for (fun k => (iU (xoS t) k m, (k : Int))) 25 (fun k hk => by
    have hl := xoS_len t k m
    simp only [s_l03Hash_3_s]
    simp (disch := omega) only [brd, brdd, get_bind, wrap_i64]
    rfl) (by simp (disch := omega) only [s_l03Hash_3_s, brn]; rfl)

/-- One block taken in. -/
def absB (a : List UInt8) (k : Nat) (m : List Int) : List Int := permM (xorM (lanesM ((a.drop (136 * k)).take 136)) m)
def absM (a : List UInt8) (n : Nat) : List Int := iU (absB a) n (nZ 25)
theorem nZ_ok : okLanes (nZ 25) := ⟨nZ_len 25, fun x hx => by simp only [nZ, List.mem_replicate] at hx; rw [hx.2]; exact ⟨by decide, by decide⟩⟩
theorem abs_succ (a : List UInt8) (n : Nat) : absM a (n + 1) = permM (xorM (lanesM ((a.drop (136 * n)).take 136)) (absM a n)) := by
  unfold absM; rw [iU, absB]
theorem abs_ok (a : List UInt8) : ∀ n, okLanes (absM a n)
  | 0 => nZ_ok
  | n + 1 => by rw [abs_succ]; exact perm_ok (xor_ok (abs_ok a n))

theorem s_abs_eq {l3 a : List UInt8} {n : Nat} (h : a.length = 136 * n) (hn : n ≤ 1000000000) : ∃ p, Loop (s_l03Hash_2_s l3 a) (nZ 25, 0) = some (absM a n, p) :=
  ⟨_, Loop_for (fun k => (absM a k, ((136 * k : Nat) : Int))) n (fun k hk => by
    have h1 := abs_ok a k
    have hx := xor_ok (t := lanesM ((a.drop (136 * k)).take 136)) h1
    simp only [s_l03Hash_2_s]
    rw [brd (by omega), wrap_i64 _ (by omega) (by omega), subL_of (by omega) (by omega) (by omega), Option.bind_some]
    have e1 : (List.drop (((136 * k : Nat) : Int)).toNat a).take (((((136 * k : Nat) : Int)) + 136).toNat - (((136 * k : Nat) : Int)).toNat) = (a.drop (136 * k)).take 136 := by
      congr 1
      omega
    rw [e1, s_lanes_eq (by rw [List.length_take]; omega), Option.bind_some, brd (lanes_ok _).1, s_xor_eq (lanes_ok _).1 h1.1, Option.bind_some, brd hx.1, s_permute_eq hx, Option.bind_some, brdd (perm_ok hx).1 hx.1, abs_succ]
    have e2 : (((136 * k : Nat) : Int)) + 136 = ((136 * (k + 1) : Nat) : Int) := by omega
    rw [e2]) (by
    simp only [s_l03Hash_2_s]
    rw [brn (by omega)])⟩

/-- Noughts behind a text, up to a whole number of blocks. -/
def padZ (l : List UInt8) : List UInt8 := l ++ List.replicate ((136 - l.length % 136) % 136) 0
theorem padZ_len (l : List UInt8) : (padZ l).length = 136 * ((l.length + 135) / 136) := by
  rw [padZ, List.length_append, List.length_replicate]; omega
theorem rep_snoc {α : Type} (n : Nat) (x : α) : List.replicate (n + 1) x = List.replicate n x ++ [x] := by
  rw [List.replicate_succ']
theorem s_pad_eq {c l : List UInt8} (h : l.length ≤ 1000000000) : Loop (s_l03Hash_1_s c) l = some (padZ l, false) := by
  have key := Loop_for (step := s_l03Hash_1_s c) (e := (padZ l, false)) (fun k => l ++ List.replicate k 0) ((136 - l.length % 136) % 136) (fun k hk => by
    simp only [s_l03Hash_1_s]
    rw [tmod_nn _ _ (by omega), brb (by rw [List.length_append, List.length_replicate]; omega), br_fits (by simp only [List.length_append, List.length_replicate, List.length_cons, List.length_nil]; omega), rep_snoc, List.append_assoc]) (by
    simp only [s_l03Hash_1_s]
    have e : ((((l ++ List.replicate ((136 - l.length % 136) % 136) (0 : UInt8)).length : Nat) : Int).tmod 136) = 0 := by
      rw [tmod_nn _ _ (by omega), List.length_append, List.length_replicate]; omega
    rw [e, brbe rfl]; rfl)
  rwa [List.replicate_zero, List.append_nil] at key

/-- The last byte's highest bit, set too. -/
def padM (b : List UInt8) : List UInt8 := (padZ (b ++ [1])).set ((padZ (b ++ [1])).length - 1) (UInt8.ofInt (or64 .u8 (((padZ (b ++ [1])).getD ((padZ (b ++ [1])).length - 1) 0).toNat : Int) 128))
/-- The hash. -/
def H (b : List UInt8) : List UInt8 := textM (absM (padM b) ((b.length + 136) / 136)) 32
theorem H_len (b : List UInt8) : (H b).length = 32 := textM_len _ _
theorem padM_len (b : List UInt8) : (padM b).length = 136 * ((b.length + 136) / 136) := by
  rw [padM, List.length_set, padZ_len, List.length_append, List.length_singleton]
theorem get_u8 {β : Type} {l : List UInt8} {i : Nat} {f : UInt8 → Option β} (h : i < l.length) : (l[i]?).bind f = f (l.getD i 0) := by simp [h]
theorem s_hash_eq {b : List UInt8} (h : b.length ≤ 100000000) : s_l03Hash b = some (H b) := by
  unfold s_l03Hash
  have hl := padZ_len (b ++ [1])
  rw [List.length_append, List.length_singleton] at hl
  have hpl := padM_len b
  rw [br_fits (by omega), br_fits (by rw [List.length_append, List.length_singleton]; omega), s_pad_eq (by rw [List.length_append, List.length_singleton]; omega), Option.bind_some]
  dsimp only
  rw [wrap_i64 _ (by omega) (by omega)]
  have ei : (((padZ (b ++ [1])).length : Int) - 1).toNat = (padZ (b ++ [1])).length - 1 := by omega
  rw [ei]
  simp (disch := omega) only [brd, get_u8]
  obtain ⟨p, hp⟩ := s_abs_eq (l3 := [1]) hpl (by omega)
  unfold padM at hp
  rw [hp, Option.bind_some]
  dsimp only
  have ok := abs_ok (padM b) ((b.length + 136) / 136)
  unfold padM at ok
  rw [brd ok.1]
  have ht := s_text_eq (n := 32) ok.1 (by omega)
  rw [show ((32 : Nat) : Int) = 32 from rfl] at ht
  rw [ht, Option.bind_some, H, padM]

end Go.AI.Fn

set_option linter.unusedVariables false
namespace Go.AI.Fn

theorem at_ok {a : List UInt8} {i n : Int} (hl : a.length ≤ 1048576) (hi0 : 0 ≤ i) (hi1 : i ≤ 1099511627776) (hn : 1 < n) : ∃ x, w_at a i n = some x ∧ 0 ≤ x ∧ x < n := by
  unfold w_at
  rw [brn (by omega)]
  by_cases c : ((a.length : Nat) : Int) = 0
  · rw [bre c, brd (by omega), wrap_i64 _ (by omega) (by omega), tmod_nn _ _ (by omega)]
    exact ⟨_, rfl, Int.emod_nonneg _ (by omega), Int.emod_lt_of_pos _ (by omega)⟩
  · rw [brne c, brd c, tmod_nn _ _ hi0]
    have h1 := Int.emod_nonneg i c
    have h2 := Int.emod_lt_of_pos i (b := (a.length : Int)) (by omega)
    obtain ⟨x, hx, _, _⟩ := atL_of (l := a) h1 h2
    have h3 := Int.emod_nonneg (i + 1) c
    have h4 := Int.emod_lt_of_pos (i + 1) (b := (a.length : Int)) (by omega)
    obtain ⟨y, hy, _, _⟩ := atL_of (l := a) h3 h4
    have bx := u8_lt x
    have bz := u8_lt y
    have h5 : 0 ≤ i / (a.length : Int) := Int.ediv_nonneg hi0 (by omega)
    have h6 : i / (a.length : Int) ≤ i := Int.ediv_le_self _ hi0
    rw [hx]
    simp only [Option.bind_some]
    rw [brd c, wrap_i64 (i + 1) (by omega) (by omega), tmod_nn _ _ (by omega), hy]
    simp only [Option.bind_some]
    rw [brd c, brd (by omega), tdiv_nn _ _ hi0]
    generalize i / ((a.length : Nat) : Int) = q at h5 h6 ⊢
    rw [wrap_i64 q (by omega) (by omega), wrap_i64 (x.toNat : Int) (by omega) (by omega), wrap_i64 (y.toNat : Int) (by omega) (by omega), wrap_i64 ((x.toNat : Int) * 31) (by omega) (by omega), wrap_i64 ((x.toNat : Int) * 31 + (y.toNat : Int)) (by omega) (by omega), wrap_i64 _ (by omega) (by omega), tmod_nn _ _ (by omega)]
    exact ⟨_, rfl, Int.emod_nonneg _ (by omega), Int.emod_lt_of_pos _ (by omega)⟩

def four (n : Int) : List UInt8 := [UInt8.ofInt (shr64 .i64 n 24), UInt8.ofInt (shr64 .i64 n 16), UInt8.ofInt (shr64 .i64 n 8), UInt8.ofInt n]
def e8 (x : Ext) : List UInt8 := four x.A ++ four x.B
theorem four_len (n : Int) : (four n).length = 4 := rfl
theorem e8_len (x : Ext) : (e8 x).length = 8 := rfl
theorem i_fouro_eq {n : Int} {l : List UInt8} (h : l.length ≤ 1099511627770) : i_four_o n l = some (l ++ four n) := by
  unfold i_four_o
  rw [br_of (fits_of (by simp only [List.length_append, List.length_cons, List.length_nil]; omega))]; rfl
theorem shr0 (n : Int) : shr64 .i64 n 0 = n := by simp [shr64]
theorem number4 (n : Int) : s_l02Number n 4 = some (four n) := by
  unfold s_l02Number
  rw [show IntKind.wrap .i64 (4 - 1) = 3 by decide,
    Loop_inl (s' := ([UInt8.ofInt (shr64 .i64 n 24)], 2)) (by kernel_rfl),
    Loop_inl (s' := ([UInt8.ofInt (shr64 .i64 n 24), UInt8.ofInt (shr64 .i64 n 16)], 1)) (by kernel_rfl),
    Loop_inl (s' := ([UInt8.ofInt (shr64 .i64 n 24), UInt8.ofInt (shr64 .i64 n 16), UInt8.ofInt (shr64 .i64 n 8)], 0)) (by kernel_rfl),
    Loop_inl (s' := ([UInt8.ofInt (shr64 .i64 n 24), UInt8.ofInt (shr64 .i64 n 16), UInt8.ofInt (shr64 .i64 n 8), UInt8.ofInt (shr64 .i64 n 0)], -1)) (by kernel_rfl),
    Loop_inr (e := ([UInt8.ofInt (shr64 .i64 n 24), UInt8.ofInt (shr64 .i64 n 16), UInt8.ofInt (shr64 .i64 n 8), UInt8.ofInt (shr64 .i64 n 0)], -1, false)) (by kernel_rfl), shr0]
  rfl

theorem i_extBytes_eq {l : List Ext} (hl : l.length ≤ 4194304) : i_extBytes l = some (l.flatMap e8) := by
  unfold i_extBytes
  have key := Loop_inv (step := i_extBytes_1_s l ((l.length : Nat) : Int))
    (fun s => 0 ≤ s.2 ∧ s.2 ≤ l.length ∧ (s.1.length : Int) = 8 * s.2 ∧ s.1 ++ (l.drop s.2.toNat).flatMap e8 = l.flatMap e8) (fun s => (l.length - s.2).toNat)
    (fun e => e.1 = l.flatMap e8) ?_ ([], 0) ⟨by first | omega | (dsimp only; omega), by first | omega | (dsimp only; omega), by simp, rfl⟩
  · obtain ⟨e, he, h⟩ := key
    rw [he]; simp only [Option.bind_some, h]
  · rintro ⟨o, t⟩ ⟨h0, h1, h3, h2⟩
    dsimp only at h0 h1 h2 h3
    by_cases c : t < (l.length : Int)
    · left
      obtain ⟨x, r, e1, e2, e3⟩ := drop_cons (l := l) (i := t.toNat) (by omega)
      simp only [i_extBytes_1_s]
      rw [brd c, atL_drop h0 e1]
      simp only [Option.bind_some]
      rw [i_fouro_eq (by omega)]
      simp only [Option.bind_some]
      rw [i_fouro_eq (by simp only [List.length_append, four_len]; omega), wrap_i64 (t + 1) (by omega) (by omega)]
      refine ⟨_, rfl, ⟨by first | omega | (dsimp only; omega), by first | omega | (dsimp only; omega), ?_, ?_⟩, by first | omega | (dsimp only; omega)⟩
      · simp only [List.length_append, four_len]; omega
      · dsimp only
        rw [show (t + 1).toNat = t.toNat + 1 by omega, e2]
        rw [e1, List.flatMap_cons] at h2
        simpa [e8] using h2
    · right
      simp only [i_extBytes_1_s]
      rw [brn c]
      refine ⟨_, rfl, ?_⟩
      rw [List.drop_eq_nil_of_le (by omega)] at h2
      simpa using h2

theorem s_bytes_eq {l : List Ext} (hl : l.length ≤ 4194304) : s_l02Bytes l = some (l.flatMap e8) := by
  unfold s_l02Bytes
  have key := Loop_inv (step := s_l02Bytes_1_s l)
    (fun s => 0 ≤ s.2 ∧ s.2 ≤ l.length ∧ (s.1.length : Int) = 8 * s.2 ∧ s.1 ++ (l.drop s.2.toNat).flatMap e8 = l.flatMap e8) (fun s => (l.length - s.2).toNat)
    (fun e => e.1 = l.flatMap e8) ?_ ([], 0) ⟨by first | omega | (dsimp only; omega), by first | omega | (dsimp only; omega), by simp, rfl⟩
  · obtain ⟨e, he, h⟩ := key
    rw [he]; simp only [Option.bind_some, h]
  · rintro ⟨o, t⟩ ⟨h0, h1, h3, h2⟩
    dsimp only at h0 h1 h2 h3
    by_cases c : t < (l.length : Int)
    · left
      obtain ⟨x, r, e1, e2, e3⟩ := drop_cons (l := l) (i := t.toNat) (by omega)
      simp only [s_l02Bytes_1_s]
      rw [brd c, atL_drop h0 e1]
      simp only [Option.bind_some, number4]
      rw [br_of (fits_of (by simp only [List.length_append, four_len]; omega)), br_of (fits_of (by simp only [List.length_append, four_len]; omega)), wrap_i64 (t + 1) (by omega) (by omega)]
      refine ⟨_, rfl, ⟨by first | omega | (dsimp only; omega), by first | omega | (dsimp only; omega), ?_, ?_⟩, by first | omega | (dsimp only; omega)⟩
      · simp only [List.length_append, four_len]; omega
      · dsimp only
        rw [show (t + 1).toNat = t.toNat + 1 by omega, e2]
        rw [e1, List.flatMap_cons] at h2
        simpa [e8] using h2
    · right
      simp only [s_l02Bytes_1_s]
      rw [brn c]
      refine ⟨_, rfl, ?_⟩
      rw [List.drop_eq_nil_of_le (by omega)] at h2
      simpa using h2

end Go.AI.Fn

set_option linter.unusedVariables false
namespace Go.AI.Fn

def be (w x y z : UInt8) : Int := (((w.toNat : Int) * 256 + x.toNat) * 256 + y.toNat) * 256 + z.toNat
def dec : List UInt8 → List Ext
  | a :: b :: c :: d :: e :: f :: g :: h :: r => ⟨be a b c d, be e f g h⟩ :: dec r
  | _ => []
theorem dec_short {l : List UInt8} (h : l.length < 8) : dec l = [] := by
  match l, h with
  | [], _ => rfl
  | [_], _ => rfl
  | [_, _], _ => rfl
  | [_, _, _], _ => rfl
  | [_, _, _, _], _ => rfl
  | [_, _, _, _, _], _ => rfl
  | [_, _, _, _, _, _], _ => rfl
  | [_, _, _, _, _, _, _], _ => rfl
  | _ :: _ :: _ :: _ :: _ :: _ :: _ :: _ :: r, h => simp at h; omega
theorem long {l : List UInt8} (h : 8 ≤ l.length) : ∃ a b c d e f g k r, l = a :: b :: c :: d :: e :: f :: g :: k :: r := by
  match l, h with
  | a :: b :: c :: d :: e :: f :: g :: k :: r, _ => exact ⟨a, b, c, d, e, f, g, k, r, rfl⟩
theorem dec_len (l : List UInt8) : (dec l).length = l.length / 8 := by
  generalize hn : l.length = n
  induction n using Nat.strongRecOn generalizing l with
  | _ n ih =>
    by_cases h : l.length < 8
    · rw [dec_short h, List.length_nil]; omega
    · obtain ⟨a, b, c, d, e, f, g, k, r, rfl⟩ := long (l := l) (by omega)
      simp only [List.length_cons] at hn
      simp only [dec, List.length_cons, ih r.length (by omega) r rfl]; omega

theorem or_byte {n : Int} (x : UInt8) (h0 : 0 ≤ n) (h1 : n < 16777216) : or64 .i64 (shl64 .i64 n 8) (IntKind.wrap .i64 (x.toNat : Int)) = n * 256 + x.toNat := by
  have hx := u8_lt x
  have e1 : shl64 .i64 n 8 = n * 256 := by
    have : n * 2 ^ (min (8 : Int).toNat (IntKind.bits .i64)) = n * 256 := by
      have : (2 : Int) ^ (min (8 : Int).toNat (IntKind.bits .i64)) = 256 := by decide
      rw [this]
    unfold shl64
    rw [this, wrap_i64 _ (by omega) (by omega)]
  rw [e1, wrap_i64 (x.toNat : Int) (by omega) (by omega)]
  unfold or64
  obtain ⟨m, rfl⟩ := Int.eq_ofNat_of_zero_le h0
  have e2 : (BitVec.ofInt (IntKind.bits .i64) ((m : Int) * 256) ||| BitVec.ofInt (IntKind.bits .i64) (x.toNat : Int)).toNat = m * 256 + x.toNat := by
    rw [BitVec.toNat_or, BitVec.toNat_ofInt, BitVec.toNat_ofInt]
    have b1 : (((m : Int) * 256) % ((2 ^ (IntKind.bits .i64) : Nat) : Int)).toNat = m <<< 8 := by
      rw [show ((2 ^ (IntKind.bits .i64) : Nat) : Int) = 18446744073709551616 by decide, Nat.shiftLeft_eq]; omega
    have b2 : ((x.toNat : Int) % ((2 ^ (IntKind.bits .i64) : Nat) : Int)).toNat = x.toNat := by
      rw [show ((2 ^ (IntKind.bits .i64) : Nat) : Int) = 18446744073709551616 by decide]; omega
    rw [b1, b2, ← Nat.shiftLeft_add_eq_or_of_lt (show x.toNat < 2 ^ 8 by omega), Nat.shiftLeft_eq]
  rw [e2, wrap_i64 _ (by omega) (by omega)]
  omega

theorem i_number_eq (w x y z : UInt8) : i_number [w, x, y, z] = some (be w x y z) := by
  have hw := u8_lt w
  have hx := u8_lt x
  have hy := u8_lt y
  have hz := u8_lt z
  unfold i_number
  have st : ∀ (n t : Int) (b : UInt8), 0 ≤ n → n < 16777216 → 0 ≤ t → t < 4 → [w, x, y, z][t.toNat]? = some b → i_number_1_s [w, x, y, z] (([w, x, y, z].length : Nat) : Int) (n, t) = some (.inl (n * 256 + b.toNat, t + 1)) := by
    intro n t b h0 h1 h2 h3 h4
    simp only [i_number_1_s]
    rw [brd (by simp only [List.length_cons, List.length_nil]; omega), show atL [w, x, y, z] t = some b by simp [atL, h2, h4]]
    simp only [Option.bind_some]
    rw [or_byte b h0 h1, wrap_i64 (t + 1) (by omega) (by omega)]
  rw [Loop_inl (st 0 0 w (by omega) (by omega) (by omega) (by omega) rfl), Loop_inl (st _ _ x (by omega) (by omega) (by omega) (by omega) rfl), Loop_inl (st _ _ y (by omega) (by omega) (by omega) (by omega) rfl), Loop_inl (st _ _ z (by omega) (by omega) (by omega) (by omega) rfl)]
  rw [Loop_inr (e := (be w x y z, 4, false)) ?_]
  · rfl
  · simp only [i_number_1_s]
    rw [brn (by simp only [List.length_cons, List.length_nil]; omega)]
    simp [be]

theorem i_readExts_eq {b : List UInt8} (hb : b.length ≤ 8388608) : i_readExts b = some (dec b, decide (b.length % 8 = 0) && (dec b).all okEb) := by
  unfold i_readExts
  have key := Loop_inv (step := i_readExts_1_s b)
    (fun s => 0 ≤ s.2 ∧ s.2 ≤ b.length ∧ (s.1.length : Int) * 8 = s.2 ∧ s.1 ++ dec (b.drop s.2.toNat) = dec b) (fun s => (b.length - s.2).toNat)
    (fun e => e.1 = dec b) ?_ ([], 0) ⟨by first | omega | (dsimp only; omega), by first | omega | (dsimp only; omega), by simp, rfl⟩
  · obtain ⟨e, he, h⟩ := key
    rw [he]
    simp only [Option.bind_some, h]
    rw [tmod_nn _ _ (by omega)]
    by_cases c : b.length % 8 = 0
    · rw [bre (by omega), i_areE_eq (by rw [dec_len]; omega)]
      simp [c]
    · rw [brne (by omega)]
      simp [c]
  · rintro ⟨l, i⟩ ⟨h0, h1, h3, h2⟩
    dsimp only at h0 h1 h2 h3
    simp only [i_readExts_1_s]
    rw [wrap_i64 (i + 8) (by omega) (by omega)]
    by_cases c : i + 8 ≤ (b.length : Int)
    · left
      obtain ⟨p, q, r, s, t, u, v, w, z, hz⟩ := long (l := b.drop i.toNat) (by rw [List.length_drop]; omega)
      rw [brd c, wrap_i64 (i + 4) (by omega) (by omega), subL_of h0 (by omega) (by omega), subL_of (by omega) (by omega) (by omega)]
      have e1 : (b.drop i.toNat).take ((i + 4).toNat - i.toNat) = [p, q, r, s] := by rw [hz, show (i + 4).toNat - i.toNat = 4 by omega]; rfl
      have e2 : (b.drop (i + 4).toNat).take ((i + 8).toNat - (i + 4).toNat) = [t, u, v, w] := by
        rw [show (i + 4).toNat = i.toNat + 4 by omega, ← List.drop_drop, hz, show (i + 8).toNat - (i.toNat + 4) = 4 by omega]; rfl
      have e3 : b.drop (i + 8).toNat = z := by rw [show (i + 8).toNat = i.toNat + 8 by omega, ← List.drop_drop, hz]; rfl
      rw [e1, e2]
      simp only [Option.bind_some, i_number_eq]
      rw [br_of (fits_of (by simp only [List.length_append, List.length_cons, List.length_nil]; omega))]
      refine ⟨_, rfl, ⟨by first | omega | (dsimp only; omega), by first | omega | (dsimp only; omega), ?_, ?_⟩, by first | omega | (dsimp only; omega)⟩
      · simp only [List.length_append, List.length_cons, List.length_nil]; omega
      · dsimp only
        rw [e3, ← h2, hz]
        simp [dec]
    · right
      rw [brn c]
      refine ⟨_, rfl, ?_⟩
      rw [dec_short (by rw [List.length_drop]; omega)] at h2
      simpa using h2

theorem shr_eq (n : Int) (k : Nat) (hk : k ≤ 64) (h0 : 0 ≤ n) : shr64 .i64 n (k : Int) = n / 2 ^ k := by
  unfold shr64
  have : min ((k : Int).toNat) (IntKind.bits .i64) = k := by simp [IntKind.bits]; omega
  rw [this, Int.fdiv_eq_ediv_of_nonneg _ (by exact Int.pow_nonneg (by decide))]
theorem ofInt_toNat (n : Int) : ((UInt8.ofInt n).toNat : Int) = n % 256 := by
  rw [u8_wrap_toNat]; simp [IntKind.wrap, IntKind.bits, IntKind.signed]
theorem be_four {n : Int} (h : okF n) : be (UInt8.ofInt (shr64 .i64 n 24)) (UInt8.ofInt (shr64 .i64 n 16)) (UInt8.ofInt (shr64 .i64 n 8)) (UInt8.ofInt n) = n := by
  obtain ⟨h0, h1⟩ := h
  have e1 : shr64 .i64 n 24 = n / 16777216 := shr_eq n 24 (by omega) h0
  have e2 : shr64 .i64 n 16 = n / 65536 := shr_eq n 16 (by omega) h0
  have e3 : shr64 .i64 n 8 = n / 256 := shr_eq n 8 (by omega) h0
  rw [e1, e2, e3]
  unfold be
  rw [ofInt_toNat, ofInt_toNat, ofInt_toNat, ofInt_toNat]
  omega
theorem dec_e8 {l : List Ext} (h : ∀ x ∈ l, okE x) : dec (l.flatMap e8) = l := by
  induction l with
  | nil => rfl
  | cons x l ih =>
    have hx := h x (List.mem_cons_self ..)
    rw [List.flatMap_cons, e8]
    show (⟨be _ _ _ _, be _ _ _ _⟩ : Ext) :: dec (l.flatMap e8) = x :: l
    rw [be_four hx.1, be_four hx.2, ih fun y hy => h y (List.mem_cons_of_mem _ hy)]
end Go.AI.Fn

set_option linter.unusedVariables false
set_option linter.unusedSimpArgs false
namespace Go.AI.Fn

def tagA : List UInt8 := [97, 98, 115, 111, 114, 98]
def tagD : List UInt8 := [100, 114, 97, 119]
def tagG : List UInt8 := [103, 114, 105, 110, 100]
def tagS : List UInt8 := [115, 111, 117, 114, 99, 101]
def srcB (s : Source) : Bool := decide (s.Script.length ≤ 64) && (s.Script.all okEb && (decide (s.State.length = 32) && ((decide (0 ≤ s.At) && decide (s.At ≤ 1000000)) && (decide (0 ≤ s.Count) && decide (s.Count ≤ 1000000)))))
structure OkSrc (s : Source) : Prop where
  len : s.Script.length ≤ 64
  scr : OkEs s.Script
  st : s.State.length = 32
  a0 : 0 ≤ s.At
  a1 : s.At ≤ 1000000
  c0 : 0 ≤ s.Count
  c1 : s.Count ≤ 1000000
theorem srcB_iff {s : Source} : srcB s = true ↔ OkSrc s := by
  unfold srcB
  simp only [Bool.and_eq_true, decide_eq_true_eq, allE]
  exact ⟨fun ⟨h1, h2, h3, ⟨h4, h5⟩, h6, h7⟩ => ⟨h1, h2, h3, h4, h5, h6, h7⟩, fun h => ⟨h.1, h.2, h.3, ⟨h.4, h.5⟩, h.6, h.7⟩⟩
theorem i_isHash_eq (h : List UInt8) : i_isHash h = some (decide (h.length = 32)) := by
  unfold i_isHash
  congr 1
  by_cases c : h.length = 32
  · rw [decide_eq_true c, c]; rfl
  · rw [decide_eq_false c]; simp; omega
theorem s_SourceOK_eq {s : Source} (hl : s.Script.length ≤ 1099511627776) : s_SourceOK s = some (srcB s) := by
  unfold s_SourceOK srcB
  rw [s_listE_eq hl]
  have e : (((s.State.length : Nat) : Int) == 32) = decide (s.State.length = 32) := by
    by_cases c : s.State.length = 32
    · rw [decide_eq_true c, c]; rfl
    · rw [decide_eq_false c]; simp; omega
  by_cases h1 : s.Script.length ≤ 64
  · rw [brd (by omega), decide_eq_true h1, Option.bind_some, s_in_eq, s_in_eq, e]
    cases s.Script.all okEb
    · rfl
    · simp only [br_true, Option.bind_some, Bool.true_and]
      cases (decide (0 ≤ s.At) && decide (s.At ≤ 1000000))
      · simp [br]
      · simp only [br_true, Bool.true_and]
        cases decide (s.State.length = 32) <;> rfl
  · rw [brn (by omega), decide_eq_false h1]; rfl

/-! ### grinding -/
theorem shr_zero {n : Int} {k : Nat} (hk : k ≤ 64) (h0 : 0 ≤ n) : (shr64 .i64 n (k : Int) == 0) = decide (n < 2 ^ k) := by
  rw [shr_eq n k hk h0]
  have hp : (0 : Int) < 2 ^ k := Int.pow_pos (by decide)
  by_cases h : n < 2 ^ k
  · rw [decide_eq_true h, Int.ediv_eq_zero_of_lt h0 h]; rfl
  · rw [decide_eq_false h]
    have : 1 ≤ n / 2 ^ k := (Int.le_ediv_iff_mul_le hp).2 (by omega)
    simp; omega
/-- A nonce that does. -/
def doesM (st : List UInt8) (bits : Nat) (nonce : Int) : Bool := decide (((H (st ++ (tagG ++ four nonce))).getD 0 0).toNat * 256 + ((H (st ++ (tagG ++ four nonce))).getD 1 0).toNat < 2 ^ (16 - bits))
theorem p2_16 : ∀ b : Nat, b ≤ 12 → (2 : Int) ^ (32 - b) = 65536 * ((2 ^ (16 - b) : Nat) : Int) ∧ (2 : Int) ^ (16 - b) = ((2 ^ (16 - b) : Nat) : Int) := by decide
theorem s_fits_eq {s : Source} {bits : Nat} {nonce : Int} (hs : s.State.length = 32) (hb : bits ≤ 12) : s_l05Fits s bits nonce = some (doesM s.State bits nonce) := by
  unfold s_l05Fits
  have hf : s.State ++ [103, 114, 105, 110, 100] ++ four nonce = s.State ++ (tagG ++ four nonce) := by simp [tagG]
  have h4 : (four nonce).length = 4 := four_len nonce
  have h5 : tagG.length = 5 := rfl
  rw [br_fits (by simp only [List.length_cons, List.length_nil]; omega), number4, Option.bind_some, br_fits (by simp only [List.length_append, List.length_cons, List.length_nil]; omega), hf, s_hash_eq (by simp only [List.length_append]; omega), Option.bind_some]
  have hl := H_len (s.State ++ (tagG ++ four nonce))
  unfold doesM
  generalize H (s.State ++ (tagG ++ four nonce)) = h at hl
  have e0 : atL h 0 = some (h.getD 0 0) := atL_u8 (k := 0) (by omega)
  have e1 : atL h 1 = some (h.getD 1 0) := atL_u8 (k := 1) (by omega)
  have b0 := u8_lt (h.getD 0 0)
  have b1 := u8_lt (h.getD 1 0)
  rw [e0, Option.bind_some, e1, Option.bind_some]
  simp (disch := omega) only [wrap_i64, wrap_u64]
  rw [brd (by omega), show (16 : Int) - (bits : Int) = ((16 - bits : Nat) : Int) by omega, shr_zero (by omega) (by omega), (p2_16 bits hb).2]
  congr 1
  exact decide_eq_decide.2 (by omega)

/-- The least nonce that does. -/
theorem grind_ex (st : List UInt8) (bits : Nat) : (∃ n : Nat, n < 65536 ∧ doesM st bits n = true ∧ ∀ j : Nat, j < n → doesM st bits j = false) ∨ ∀ n : Nat, n < 65536 → doesM st bits n = false := by
  rcases first_bad (fun k => !doesM st bits (k : Int)) 65536 with h | ⟨k, hk, h1, h2⟩
  · exact .inr fun n hn => by simpa using h n hn
  · exact .inl ⟨k, hk, by simpa using h1, fun j hj => by simpa using h2 j hj⟩
open Classical in
noncomputable def grindM (st : List UInt8) (bits : Nat) : Option Nat := if h : ∃ n : Nat, n < 65536 ∧ doesM st bits n = true ∧ ∀ j : Nat, j < n → doesM st bits j = false then some h.choose else none
theorem grind_some {st : List UInt8} {bits n : Nat} (h : n < 65536) (h1 : doesM st bits n = true) (h2 : ∀ j : Nat, j < n → doesM st bits j = false) : grindM st bits = some n := by
  have hex : ∃ n : Nat, n < 65536 ∧ doesM st bits n = true ∧ ∀ j : Nat, j < n → doesM st bits j = false := ⟨n, h, h1, h2⟩
  unfold grindM
  rw [dif_pos hex]
  obtain ⟨g1, g2, g3⟩ := hex.choose_spec
  congr 1
  rcases Nat.lt_trichotomy hex.choose n with hlt | heq | hgt
  · have := h2 _ hlt; rw [g2] at this; cases this
  · exact heq
  · have := g3 _ hgt; rw [h1] at this; cases this
theorem grind_none {st : List UInt8} {bits : Nat} (h : ∀ n : Nat, n < 65536 → doesM st bits n = false) : grindM st bits = none := by
  unfold grindM
  rw [dif_neg]
  rintro ⟨n, hn, h1, _⟩
  rw [h n hn] at h1; cases h1
theorem grind_spec {st : List UInt8} {bits n : Nat} (h : grindM st bits = some n) : n < 65536 ∧ doesM st bits n = true ∧ ∀ j : Nat, j < n → doesM st bits j = false := by
  rcases grind_ex st bits with ⟨m, h1, h2, h3⟩ | h1
  · rw [grind_some h1 h2 h3] at h; cases h; exact ⟨h1, h2, h3⟩
  · rw [grind_none h1] at h; cases h
theorem s_grind_eq {s : Source} {bits : Nat} (hs : s.State.length = 32) (hb : bits ≤ 12) : s_l05Grind s bits = some (match grindM s.State bits with | some n => ((n : Int), true) | none => (0, false)) := by
  unfold s_l05Grind
  have key := Loop_all (step := s_l05Grind_1_s bits s.Script s.At s.State s.Count) (fun k => (k : Int)) 65536 (fun k => !doesM s.State bits (k : Int)) (fun k => .inl (k : Int)) (e := .inr (65536, false)) (fun k hk hp => by
      have hd : doesM s.State bits (k : Int) = false := by simpa using hp
      simp only [s_l05Grind_1_s]
      rw [brd (by omega), s_fits_eq (by exact hs) hb, Option.bind_some, hd, br_false, wrap_i64 _ (by omega) (by omega)]; rfl)
    (fun k hk hp => by
      have hd : doesM s.State bits (k : Int) = true := by simpa using hp
      simp only [s_l05Grind_1_s]
      rw [brd (by omega), s_fits_eq (by exact hs) hb, Option.bind_some, hd, br_true])
    (by simp only [s_l05Grind_1_s]; rw [brn (by decide)]; rfl)
  rcases key with ⟨h1, h2⟩ | ⟨k, hk, h1, h3, h2⟩
  · have e : Loop (s_l05Grind_1_s bits s.Script s.At s.State s.Count) 0 = some (.inr (65536, false)) := h2
    rw [e, grind_none fun n hn => by simpa using h1 n hn]; rfl
  · have e : Loop (s_l05Grind_1_s bits s.Script s.At s.State s.Count) 0 = some (.inl (k : Int)) := h2
    rw [e, grind_some hk (by simpa using h1) fun j hj => by simpa using h3 j hj]; rfl
end Go.AI.Fn

set_option linter.unusedVariables false
set_option linter.unusedSimpArgs false
namespace Go.AI.Fn

/-- A text taken in. -/
def tkM (s : Source) (t : List UInt8) : Source := ⟨s.Script, s.At, H (s.State ++ (tagA ++ (four t.length ++ t))), 0⟩
theorem tkM_ok {s : Source} (t : List UInt8) (h : OkSrc s) : OkSrc (tkM s t) := ⟨h.1, h.2, H_len _, h.4, h.5, by simp [tkM], by simp [tkM]⟩
def beN (l : List UInt8) : Int := l.foldl (fun n c => n * 256 + (c.toNat : Int)) 0
def fldM (l : List UInt8) : Int := beN l % 2130706433
/-- An element drawn. -/
def drawM (s : Source) : Source × Ext :=
  if s.Script.length = 0 then (⟨s.Script, s.At, s.State, s.Count + 1⟩, ⟨fldM ((H (s.State ++ (tagD ++ four s.Count))).take 8), fldM (((H (s.State ++ (tagD ++ four s.Count))).drop 8).take 8)⟩)
  else (⟨s.Script, s.At + 1, s.State, s.Count⟩, s.Script.getD (s.At % (s.Script.length : Int)).toNat e0)
theorem fldM_ok (l : List UInt8) : okF (fldM l) := okF_mod _
theorem drawM_ok {s : Source} (h : OkSrc s) : okE (drawM s).2 := by
  unfold drawM
  split
  · exact ⟨fldM_ok _, fldM_ok _⟩
  · exact h.scr.getD _
theorem drawM_src {s : Source} (h : OkSrc s) (ha : s.At < 1000000) (hc : s.Count < 1000000) : OkSrc (drawM s).1 := by
  unfold drawM
  split
  · exact ⟨h.1, h.2, h.3, h.4, h.5, by have := h.6; simp; omega, by simp; omega⟩
  · exact ⟨h.1, h.2, h.3, by have := h.4; simp; omega, by simp; omega, h.6, h.7⟩

theorem s_absorb_eq {s : Source} {t : List UInt8} (hs : s.State.length = 32) (ht : t.length ≤ 1000000) : s_l05Absorb s t = some (tkM s t) := by
  unfold s_l05Absorb
  have h4 := four_len ((t.length : Nat) : Int)
  rw [br_fits (by simp only [List.length_cons, List.length_nil]; omega), number4, Option.bind_some, br_fits (by simp only [List.length_append, List.length_cons, List.length_nil]; omega),
    br_fits (by simp only [List.length_append, List.length_cons, List.length_nil]; omega), s_hash_eq (by simp only [List.length_append, List.length_cons, List.length_nil]; omega), Option.bind_some, tkM]
  simp [tagA]
theorem beN_snoc (l : List UInt8) (c : UInt8) : beN (l ++ [c]) = beN l * 256 + (c.toNat : Int) := by simp [beN, List.foldl_append]
theorem s_field_eq {t : List UInt8} (h : t.length = 8) : s_l05Field t = some (fldM t) := by
  unfold s_l05Field
  have key : Loop (s_l05Field_1_s t) (0, 0) = some (fldM t, 8, false) :=
    Loop_for (fun k => (beN (t.take k) % 2130706433, (k : Int))) 8 (fun k hk => by
      have hk' : k < t.length := by omega
      have hb := u8_lt t[k]
      have hm : 0 ≤ beN (t.take k) % 2130706433 ∧ beN (t.take k) % 2130706433 < 2130706433 := by omega
      simp only [s_l05Field_1_s]
      rw [brd (by omega), atL_nat hk', Option.bind_some]
      simp (disch := omega) only [wrap_i64, tmod_nn]
      rw [take_succ hk', beN_snoc, mX1]; rfl) (by
      simp only [s_l05Field_1_s]
      rw [brn (by decide), List.take_of_length_le (by omega)]; rfl)
  rw [key]; rfl
theorem s_draw_eq {s : Source} (h : OkSrc s) : s_l05Draw s = some (drawM s) := by
  have h1 := h.1
  have h3 := h.3
  have h4 := h.4
  have h5 := h.5
  have h6 := h.6
  have h7 := h.7
  unfold s_l05Draw drawM
  by_cases hl : s.Script.length = 0
  · have hf := four_len s.Count
    rw [brn (by omega), if_pos hl, br_fits (by simp only [List.length_cons, List.length_nil]; omega), number4, Option.bind_some, br_fits (by simp only [List.length_append, List.length_cons, List.length_nil]; omega), s_hash_eq (by simp only [List.length_append, List.length_cons, List.length_nil]; omega), Option.bind_some]
    have e : s.State ++ [100, 114, 97, 119] ++ four s.Count = s.State ++ (tagD ++ four s.Count) := by simp [tagD]
    rw [e]
    have hh := H_len (s.State ++ (tagD ++ four s.Count))
    rw [subL_of (by omega) (by omega) (by omega), Option.bind_some, s_field_eq (by simp; omega), Option.bind_some, subL_of (by omega) (by omega) (by omega), Option.bind_some, s_field_eq (by simp; omega), Option.bind_some, wrap_i64 _ (by omega) (by omega)]
    rfl
  · have hr := Int.emod_nonneg s.At (b := (s.Script.length : Int)) (by omega)
    have hr2 := Int.emod_lt_of_pos s.At (b := (s.Script.length : Int)) (by omega)
    rw [brd (by omega), if_neg hl, brd (by omega), tmod_nn _ _ h4, wrap_i64 _ (by omega) (by omega)]
    have e : atL s.Script (s.At % (s.Script.length : Int)) = some (s.Script.getD (s.At % (s.Script.length : Int)).toNat e0) := by
      have := atL_e (l := s.Script) (k := (s.At % (s.Script.length : Int)).toNat) (by omega)
      rwa [Int.toNat_of_nonneg hr] at this
    rw [e]; rfl
theorem s_own_eq {s : Source} (h : s.Script.length ≤ 1000000) : s_l05Own s = some s := by
  unfold s_l05Own; rw [br_fits (by simp; omega)]; simp
theorem s_new_eq {l : List UInt8} {scr : List Ext} (h : l.length ≤ 1000000) : s_l05New l scr = some ⟨scr, 0, H (tagS ++ l), 0⟩ := by
  unfold s_l05New
  rw [br_fits (by simp only [List.length_cons, List.length_nil]; omega), s_hash_eq (by simp only [List.length_append, List.length_cons, List.length_nil]; omega), Option.bind_some]; rfl
theorem new_ok {l : List UInt8} {scr : List Ext} (h : scr.length ≤ 64) (hs : OkEs scr) : OkSrc ⟨scr, 0, H (tagS ++ l), 0⟩ := ⟨h, hs, H_len _, by simp, by simp, by simp, by simp⟩
theorem pick_ok {l : List (List UInt8)} {m : l00Src} {B : Int} (h : Src B m) (hB : B + 3 < Big) (h0 : 1 < l.length) (h1 : l.length ≤ 100) : ∃ x m', s_l00Src_pick l m = some (x, m') ∧ x ∈ l ∧ Src (B + 3) m' := by
  unfold s_l00Src_pick
  obtain ⟨x, m1, e1, x0, x1, _, s1⟩ := next_ok (n := (l.length : Int)) h (by omega)
  rw [brne (by omega), e1, Option.bind_some]
  obtain ⟨y, hy, _, hm⟩ := atL_of (l := l) x0 (by have := x1; omega)
  dsimp only
  rw [hy]
  exact ⟨_, _, rfl, hm, s1⟩

/-- A drawn source's bounds: it has drawn little. -/
structure Few (s : Source) (k : Int) : Prop where
  ok : OkSrc s
  a : s.At ≤ k
  c : s.Count ≤ k
theorem Few.mono {s : Source} {j k : Int} (h : Few s j) (hk : j ≤ k) : Few s k := ⟨h.1, by have := h.2; omega, by have := h.3; omega⟩
theorem Few.take {s : Source} {k : Int} (h : Few s k) (t : List UInt8) : Few (tkM s t) (k + 1) := ⟨tkM_ok t h.1, by have := h.2; simp [tkM]; omega, by have := h.3; have := h.1.c0; simp [tkM]; omega⟩
theorem Few.draw {s : Source} {k : Int} (h : Few s k) (hk : k < 1000000) : Few (drawM s).1 (k + 1) := by
  have h2 := h.2
  have h3 := h.3
  refine ⟨drawM_src h.1 (by omega) (by omega), ?_, ?_⟩ <;> (unfold drawM; split <;> dsimp only <;> omega)
theorem s_loop1 {c4 c6 : Int} {c5 : List UInt8} {i B k : Int} {m : l00Src} {s : Source} (h : Src B m) (hs : Few s k) (hi0 : 0 ≤ i) (hi : i ≤ 4) (hk : k ≤ 100) (hB : B + 6 * i < Big) :
    ∃ e, Loop (s_l00Src_source_1_s c4 c5 c6) (i, m.code, m.at_, m.seed, s.Script, s.At, s.State, s.Count) = some e ∧ Src (B + 6 * i) ⟨e.2.2.1, e.2.2.2.1, e.2.2.2.2.1⟩ ∧ Few ⟨e.2.2.2.2.2.1, e.2.2.2.2.2.2.1, e.2.2.2.2.2.2.2.1, e.2.2.2.2.2.2.2.2⟩ (k + i) := by
  refine Loop_inv (step := s_l00Src_source_1_s c4 c5 c6) (fun x => 0 ≤ x.1 ∧ x.1 ≤ i ∧ Src (B + 6 * (i - x.1)) ⟨x.2.1, x.2.2.1, x.2.2.2.1⟩ ∧ Few ⟨x.2.2.2.2.1, x.2.2.2.2.2.1, x.2.2.2.2.2.2.1, x.2.2.2.2.2.2.2⟩ (k + (i - x.1))) (fun x => x.1.toNat) _ ?_ (i, m.code, m.at_, m.seed, s.Script, s.At, s.State, s.Count) ⟨hi0, by dsimp only; omega, h.mono (by dsimp only; omega), hs.mono (by dsimp only; omega)⟩
  rintro ⟨j, c, c2, c3, d, d2, d3, d4⟩ ⟨j0, j1, hsr, hfw⟩
  dsimp only at j0 j1 hsr hfw
  simp only [s_l00Src_source_1_s]
  by_cases hj : j > 0
  · left
    rw [brd hj]
    obtain ⟨b, m1, e1, s1⟩ := chance_ok (n := 2) hsr (by omega)
    rw [e1, Option.bind_some]
    cases b
    · dsimp only
      rw [br_false, s_draw_eq hfw.1, Option.bind_some, wrap_i64 _ (by omega) (by omega)]
      exact ⟨_, rfl, ⟨by dsimp only; omega, by dsimp only; omega, s1.mono (by dsimp only; omega), (hfw.draw (by omega)).mono (by dsimp only; omega)⟩, by dsimp only; omega⟩
    · dsimp only
      obtain ⟨y, m2, e2, _, s2⟩ := pick_ok (l := [[], [116, 101, 120, 116]]) s1 (by omega) (by decide) (by decide)
      have hy : y.length ≤ 1000 := by
        have : y ∈ [[], [116, 101, 120, 116]] := by assumption
        simp only [List.mem_cons, List.mem_nil_iff, or_false] at this
        rcases this with rfl | rfl <;> simp
      rw [br_true, e2, Option.bind_some, s_absorb_eq (t := y) hfw.1.3 (by omega), Option.bind_some, wrap_i64 _ (by omega) (by omega)]
      exact ⟨_, rfl, ⟨by dsimp only; omega, by dsimp only; omega, s2.mono (by dsimp only; omega), (hfw.take y).mono (by dsimp only; omega)⟩, by dsimp only; omega⟩
  · right
    rw [brn hj]
    have : j = 0 := by omega
    subst this
    exact ⟨_, rfl, hsr.mono (by omega), hfw.mono (by omega)⟩
theorem s_loop2 {c4 c6 : Int} {c5 : List UInt8} {i B k : Int} {m : l00Src} {s : Source} (h : Src B m) (hs : Few s k) (hi0 : 0 ≤ i) (hi : i ≤ 4) (hk : k ≤ 100) (hB : B + 6 * i < Big) :
    ∃ e, Loop (s_l00Src_source_2_s c4 c5 c6) (i, m.code, m.at_, m.seed, s.Script, s.At, s.State, s.Count) = some e ∧ Src (B + 6 * i) ⟨e.2.2.1, e.2.2.2.1, e.2.2.2.2.1⟩ ∧ Few ⟨e.2.2.2.2.2.1, e.2.2.2.2.2.2.1, e.2.2.2.2.2.2.2.1, e.2.2.2.2.2.2.2.2⟩ (k + i) :=
  s_loop1 (c4 := c4) (c5 := c5) (c6 := c6) h hs hi0 hi hk hB
theorem SourceOf_ok {code : List UInt8} (h : code.length ≤ 1048576) : ∃ s, s_SourceOf code = some s ∧ Few s 4 := by
  unfold s_SourceOf s_l00Src_source
  obtain ⟨m, e1, s1⟩ := source_ok (show code.length ≤ 1048600 by omega)
  rw [e1, Option.bind_some]
  obtain ⟨y, m2, e2, hy, s2⟩ := pick_ok (l := [[], [97], [108, 97, 98, 101, 108]]) s1 (by decide) (by decide) (by decide)
  have hyl : y.length ≤ 1000 := by
    simp only [List.mem_cons, List.mem_nil_iff, or_false] at hy
    rcases hy with rfl | rfl | rfl <;> simp
  rw [e2, Option.bind_some, s_new_eq (l := y) (by omega), Option.bind_some]
  obtain ⟨b, m3, e3, s3⟩ := chance_ok (n := 3) s2 (by decide)
  dsimp only
  rw [e3, Option.bind_some]
  cases b
  · dsimp only
    obtain ⟨x, m4, e4, x0, x1, _, s4⟩ := next_ok (n := 4) s3 (by decide)
    rw [br_false, e4, Option.bind_some]
    obtain ⟨e, e5, s5, f5⟩ := s_loop2 (c4 := 0) (c5 := []) (c6 := 0) (i := x) (k := 0) s4 (s := ⟨[], 0, H (tagS ++ y), 0⟩) ⟨new_ok (by simp) OkEs.nil, by simp, by simp⟩ x0 (by have := x1 (by decide); omega) (by decide) (by have := x1 (by decide); simp only [Big]; omega)
    dsimp only at e5 ⊢
    rw [e5, Option.bind_some, s_own_eq (by have := f5.1.1; dsimp only at this ⊢; omega), Option.bind_some, Option.bind_some]
    exact ⟨_, rfl, f5.mono (by have := x1 (by decide); omega)⟩
  · dsimp only
    obtain ⟨n, m4, e4, n0, n1, _, s4⟩ := next_ok (n := 5) s3 (by decide)
    have hn := n1 (by decide)
    rw [br_true, e4, Option.bind_some, wrap_i64 _ (by omega) (by omega)]
    obtain ⟨l, m5, e5, l0, l1, s5⟩ := exts_ok (n := 1 + n) s4 (by omega) (by omega) (by simp only [Big]; omega)
    dsimp only
    rw [e5, Option.bind_some]
    obtain ⟨x, m6, e6, x0, x1, _, s6⟩ := next_ok (n := 4) s5 (by simp only [Big]; omega)
    dsimp only
    rw [e6, Option.bind_some]
    obtain ⟨e, e7, s7, f7⟩ := s_loop1 (c4 := 0) (c5 := []) (c6 := 0) (i := x) (k := 0) s6 (s := ⟨l, 0, H (tagS ++ y), 0⟩) ⟨new_ok (by omega) l1, by simp, by simp⟩ x0 (by have := x1 (by decide); omega) (by decide) (by have := x1 (by decide); simp only [Big]; omega)
    dsimp only at e7 ⊢
    rw [e7, Option.bind_some, s_own_eq (by have := f7.1.1; dsimp only at this ⊢; omega), Option.bind_some, Option.bind_some]
    exact ⟨_, rfl, f7.mono (by have := x1 (by decide); omega)⟩
end Go.AI.Fn

set_option linter.unusedVariables false
set_option linter.unusedSimpArgs false
namespace Go.AI.Fn

/-- Draws, one after the other. -/
def drS (s : Source) : Nat → Source
  | 0 => s
  | j + 1 => (drawM (drS s j)).1
def drL (s : Source) (n : Nat) : List Ext := (List.range n).map fun j => (drawM (drS s j)).2
theorem drL_len (s : Source) (n : Nat) : (drL s n).length = n := by simp [drL]
theorem drS_few {s : Source} {k : Int} (h : Few s k) (hk : k ≤ 1000) : ∀ j : Nat, j ≤ 1000 → Few (drS s j) (k + j)
  | 0, _ => h.mono (by omega)
  | j + 1, hj => ((drS_few h hk j (by omega)).draw (by omega)).mono (by omega)
theorem drL_ok {s : Source} {k : Int} (h : Few s k) (hk : k ≤ 1000) {n : Nat} (hn : n ≤ 1000) : OkEs (drL s n) := fun x hx => by
  obtain ⟨j, hj, rfl⟩ := List.mem_map.1 hx
  have hj := List.mem_range.1 hj
  exact drawM_ok (drS_few h hk j (by omega)).1
theorem drL_succ (s : Source) (n : Nat) : drL s (n + 1) = drL s n ++ [(drawM (drS s n)).2] := by simp [drL, List.range_succ]
theorem s_some_eq {s : Source} {k : Int} (h : Few s k) (hk : k ≤ 1000) {n : Nat} (hn : n ≤ 1000) : s_l05Some s (n : Int) = some (drS s n, drL s n) := by
  unfold s_l05Some
  have key := Loop_for (step := s_l05Some_1_s (n : Int) 0 [] 0) (fun j => (drL s j, (j : Int), (drS s j).Script, (drS s j).At, (drS s j).State, (drS s j).Count)) n (e := (drL s n, (n : Int), false, (drS s n).Script, (drS s n).At, (drS s n).State, (drS s n).Count)) (fun j hj => ?_) ?_
  · have key' : Loop (s_l05Some_1_s (n : Int) 0 [] 0) ([], 0, s.Script, s.At, s.State, s.Count) = _ := key
    rw [key']; rfl
  · simp only [s_l05Some_1_s]
    rw [brd (by omega), s_draw_eq (drS_few h hk j (by omega)).1, Option.bind_some, br_fits (by simp only [List.length_append, drL_len, List.length_singleton]; omega), wrap_i64 _ (by omega) (by omega), ← drL_succ]; rfl
  · simp only [s_l05Some_1_s]
    rw [brn (by omega), decide_eq_false (by omega)]
theorem s_SourceOK_t {s : Source} (h : OkSrc s) : s_SourceOK s = some true := by
  have := h.1
  rw [s_SourceOK_eq (by omega), srcB_iff.2 h]
variable {s : Source} {k : Int}
theorem drS_scr (s : Source) : ∀ n, (drS s n).Script = s.Script
  | 0 => rfl
  | n + 1 => by
    rw [drS, drawM]
    split
    · exact drS_scr s n
    · exact drS_scr s n
theorem spent_no (h : Few s k) (hk : k ≤ 1000) {n : Nat} (hn : n ≤ 100) : s_l05Spent s (n : Int) = some false := by
  have h2 := h.2
  have h3 := h.3
  unfold s_l05Spent
  rw [wrap_i64 _ (by omega) (by omega), brn (by omega), decide_eq_false (by omega)]
/-- Places. -/
def plM (l : List Ext) (m : Int) : List Int := l.map fun x => x.A % m
theorem s_places_eq {l : List Ext} {m : Int} {c c8 : List Ext} {c2 c4 c5 c7 c9 c11 : Int} {c3 c6 c10 : List UInt8} (hl : l.length ≤ 1000) (ok : OkEs l) (hm : 0 < m) : Loop (s_l05Places_1_s (l.length : Int) m l c c2 c3 c4 c5 c6 c7 c8 c9 c10 c11) ([], 0) = some (plM l m, (l.length : Int), false) :=
  Loop_for (step := s_l05Places_1_s (l.length : Int) m l c c2 c3 c4 c5 c6 c7 c8 c9 c10 c11) (fun j => (plM (l.take j) m, (j : Int))) l.length (fun j hj => by
    simp only [s_l05Places_1_s]
    rw [brd (by omega), atL_nat hj, Option.bind_some, brd (by omega), br_fits (by simp only [List.length_append, plM, List.length_map, List.length_take, List.length_singleton]; omega), wrap_i64 _ (by omega) (by omega), tmod_nn _ _ (ok.get hj).1.1, take_succ hj]
    simp only [plM, List.map_append, List.map_cons, List.map_nil, cast_succ]) (by
    simp only [s_l05Places_1_s]
    rw [brn (by omega), decide_eq_false (by omega), List.take_length])
end Go.AI.Fn

set_option linter.unusedVariables false
set_option linter.unusedSimpArgs false
namespace Go.AI.Fn

def toK (x : Ext) : K := ⟨⟨x.A % 2130706433, x.B % 2130706433⟩, ⟨okF_mod _, okF_mod _⟩⟩
theorem toK_val {x : Ext} (h : okE x) : (toK x).1 = x := ext_eq (mod_self h.1) (mod_self h.2)
theorem e8s_len (l : List Ext) : (l.flatMap e8).length = 8 * l.length := by
  induction l with
  | nil => rfl
  | cons x l ih => simp only [List.flatMap_cons, List.length_append, ih, e8_len, List.length_cons]; omega
/-- A source behind a round, what it draws, and what it is then. -/
def rsM (s : Source) (g : List K) : Source := tkM s ((kv g).flatMap e8)
def rdM (s : Source) (g : List K) : K := toK (drawM (rsM s g)).2
def nsM (s : Source) (g : List K) : Source := (drawM (rsM s g)).1
theorem ns_few {s : Source} {k : Int} (h : Few s k) (hk : k ≤ 1000) (g : List K) : Few (nsM s g) (k + 2) := by
  have := (h.take ((kv g).flatMap e8)).draw (by omega)
  rw [show k + 1 + 1 = k + 2 by omega] at this; exact this
theorem rd_val {s : Source} {k : Int} (h : Few s k) (g : List K) : (rdM s g).1 = (drawM (rsM s g)).2 := toK_val (drawM_ok (h.take _).1)
theorem s_absE {s : Source} (h : OkSrc s) {g : List K} (hl : g.length ≤ 1000) : s_l05Exts s (kv g) = some (rsM s g) := by
  have e := e8s_len (kv g)
  rw [kv_len] at e
  unfold s_l05Exts
  rw [s_bytes_eq (by rw [kv_len]; omega), Option.bind_some, s_absorb_eq h.3 (by omega)]; rfl
theorem s_drK {s : Source} {k : Int} (h : Few s k) (g : List K) : s_l05Draw (rsM s g) = some (nsM s g, (rdM s g).1) := by
  rw [s_draw_eq (s := rsM s g) (h.take _).1, rd_val h]; rfl
/-! ### the prover -/
/-- Rounds, point, last tables and source; 'bh': what is done to the source behind each round, by the point as it is then. -/
def pvM (kind : Nat) (bh : List K → Source → Source) : Nat → List K → List (List K) → Source → List (List K) × List K × List (List K) × Source
  | 0, P, T, s => ([], [], T, s)
  | v + 1, P, T, s => (rdK kind T (2 ^ v) :: (pvM kind bh v (P ++ [rdM s (rdK kind T (2 ^ v))]) (bdK (rdM s (rdK kind T (2 ^ v))) T) (bh (P ++ [rdM s (rdK kind T (2 ^ v))]) (nsM s (rdK kind T (2 ^ v))))).1,
      rdM s (rdK kind T (2 ^ v)) :: (pvM kind bh v (P ++ [rdM s (rdK kind T (2 ^ v))]) (bdK (rdM s (rdK kind T (2 ^ v))) T) (bh (P ++ [rdM s (rdK kind T (2 ^ v))]) (nsM s (rdK kind T (2 ^ v))))).2.1,
      (pvM kind bh v (P ++ [rdM s (rdK kind T (2 ^ v))]) (bdK (rdM s (rdK kind T (2 ^ v))) T) (bh (P ++ [rdM s (rdK kind T (2 ^ v))]) (nsM s (rdK kind T (2 ^ v))))).2.2)
/-- What is done behind a round spends little. -/
def BhOk (bh : List K → Source → Source) : Prop := ∀ P s k, Few s k → k ≤ 1000 → Few (bh P s) (k + 1)
variable {kind : Nat} {bh : List K → Source → Source}
theorem two_pow (v : Nat) : 2 ^ (v + 1) = 2 * 2 ^ v := by rw [Nat.pow_succ, Nat.mul_comm]
theorem OkT.up {v : Nat} {T : List (List K)} (h : OkT kind (2 ^ (v + 1)) T) (r : K) : OkT kind (2 ^ v) (bdK r T) := by
  rw [two_pow] at h; exact h.bd r
theorem pv_len : ∀ (v : Nat) (P : List K) (T : List (List K)) (s : Source), (pvM kind bh v P T s).1.length = v ∧ (pvM kind bh v P T s).2.1.length = v
  | 0, P, T, s => ⟨rfl, rfl⟩
  | v + 1, P, T, s => by simp only [pvM, List.length_cons]; exact ⟨by rw [(pv_len v _ _ _).1], by rw [(pv_len v _ _ _).2]⟩
theorem pv_okT : ∀ (v : Nat) (P : List K) (T : List (List K)) (s : Source), OkT kind (2 ^ v) T → OkT kind 1 (pvM kind bh v P T s).2.2.1
  | 0, P, T, s, h => h
  | v + 1, P, T, s, h => pv_okT v _ _ _ (h.up _)
theorem pv_few (hb : BhOk bh) : ∀ (v : Nat) (P : List K) (T : List (List K)) (s : Source) (k : Int), Few s k → k + 3 * v ≤ 1000 → Few (pvM kind bh v P T s).2.2.2 (k + 3 * v)
  | 0, P, T, s, k, h, hk => by rw [show k + 3 * ((0 : Nat) : Int) = k by omega]; exact h
  | v + 1, P, T, s, k, h, hk => by
    have := pv_few hb v (P ++ [rdM s (rdK kind T (2 ^ v))]) (bdK (rdM s (rdK kind T (2 ^ v))) T) _ _ (hb (P ++ [rdM s (rdK kind T (2 ^ v))]) _ _ (ns_few h (by omega) (rdK kind T (2 ^ v))) (by omega)) (by omega)
    rw [show k + 2 + 1 + 3 * (v : Int) = k + 3 * ((v + 1 : Nat) : Int) by omega] at this
    exact this
theorem pv_rlen : ∀ (v : Nat) (P : List K) (T : List (List K)) (s : Source), ∀ g ∈ (pvM kind bh v P T s).1, g.length = kind + 2
  | 0, P, T, s, g, hg => by simp [pvM] at hg
  | v + 1, P, T, s, g, hg => by
    simp only [pvM, List.mem_cons] at hg
    rcases hg with rfl | hg
    · exact rdK_len _ _ _
    · exact pv_rlen v _ _ _ g hg
theorem kvv0 {T : List (List K)} (h : 0 < T.length) : atL (kvv T) 0 = some (kv (T.getD 0 [])) := kvv_at (j := 0) h
theorem p2le : ∀ v : Nat, v ≤ 6 → 1 ≤ 2 ^ v ∧ 2 ^ v ≤ 64 := by decide
theorem kv0 {l : List K} (h : 0 < l.length) : atL (kv l) 0 = some (l.getD 0 0).1 := kv_at (j := 0) h
/-! ### the verifier -/
noncomputable instance instDecK : DecidableEq K := fun a b => Classical.propDecidable _
variable {bv : Nat → Source → Source}
end Go.AI.Fn

set_option linter.unusedVariables false
set_option linter.unusedSimpArgs false
namespace Go.AI.Fn

/-- What a matrix is that both sides take. -/
structure OkM (l : List Entry) (R C : Int) : Prop where
  len : l.length ≤ 200
  ent : ∀ x ∈ l, inE R C x
  srt : ∀ k (hk : k < l.length), ∀ y ∈ l.take k, ltE y l[k]
/-! ### digests -/
end Go.AI.Fn

set_option linter.unusedVariables false
set_option linter.unusedSimpArgs false
namespace Go.AI.Fn

end Go.AI.Fn

set_option linter.unusedVariables false
set_option linter.unusedSimpArgs false
namespace Go.AI.Fn

/-! ### a table at a point is what is left when all variables are bound -/
def eqsK (out : List K) (p : K) : List K := out.map (fun a => a * (1 - p)) ++ out.map (fun a => a * p)
def eqK (P : List K) : List K := P.foldl eqsK [1]
theorem eqs_kv (out : List K) (p : K) : eqS (kv out) p.1 = kv (eqsK out p) := by
  simp only [eqS, kv, eqsK, List.map_append, List.map_map]; rfl
theorem eqF_kv : ∀ (P out : List K), (kv P).foldl eqS (kv out) = kv (P.foldl eqsK out)
  | [], out => rfl
  | p :: P, out => by
    show (kv P).foldl eqS (eqS (kv out) p.1) = _
    rw [eqs_kv, eqF_kv P]; rfl
theorem eqT_kv (P : List K) : eqT (kv P) = kv (eqK P) := eqF_kv P [1]
theorem eqK_len (P : List K) : (eqK P).length = 2 ^ P.length := by
  have := eqT_len (kv P)
  rw [eqT_kv, kv_len, kv_len] at this; exact this
variable {kind : Nat} {bh : List K → Source → Source}
/-! ### tables that are drawn -/
end Go.AI.Fn

set_option linter.unusedVariables false
set_option linter.unusedSimpArgs false
namespace Go.AI.Fn

theorem lim_eq {α : Type} {g : Nat → Option α} {N : Nat} {r : α} (h : ∀ n, g n = if N ≤ n then some r else none) : lim g = some r := by
  have hx : ∃ n r, g n = some r := ⟨N, r, by rw [h, if_pos (Nat.le_refl _)]⟩
  unfold lim
  rw [dif_pos hx]
  obtain ⟨r', hr'⟩ := hx.choose_spec
  have := h hx.choose
  rw [hr'] at this ⊢
  split at this
  · exact this
  · cases this
theorem take_snoc {l : List K} {j : Nat} (h : j < l.length) : l.take (j + 1) = l.take j ++ [l.getD j 0] := by rw [take_succ h]; simp [h]
theorem kv_snoc (l : List K) (x : K) : kv (l ++ [x]) = kv l ++ [x.1] := by simp [kv]
theorem p2_9 : ∀ k : Nat, k ≤ 9 → 1 ≤ 2 ^ k ∧ 2 ^ k ≤ 512 := by decide
theorem s_split {l : List K} {m : Nat} {w : Int} (h : l.length = 2 * m) (hm : m ≤ 1000) : Loop (s_l07Ntt_1_s (kv l) w (l.length : Int)) ([], [], 0) = some (kv (evs l), kv (ods l), (l.length : Int), false) := by
  have h1 := evs_len l m h
  have h2 := ods_len l m h
  have key := Loop_for (step := s_l07Ntt_1_s (kv l) w (l.length : Int)) (fun j => (kv ((evs l).take j), kv ((ods l).take j), ((2 * j : Nat) : Int))) m (e := (kv (evs l), kv (ods l), (l.length : Int), false)) (fun j hj => ?_) ?_
  · exact key
  · simp only [s_l07Ntt_1_s]
    have e1 : atL (kv l) ((2 * j : Nat) : Int) = some ((evs l).getD j 0).1 := by rw [kv_at (by omega), evs_get]
    have e2 : atL (kv l) ((2 * j + 1 : Nat) : Int) = some ((ods l).getD j 0).1 := by rw [kv_at (by omega), ods_get]
    rw [brd (by omega), e1, Option.bind_some, br_fits (by rw [List.length_append, kv_len, List.length_take, List.length_singleton]; omega), wrap_i64 _ (by omega) (by omega), show (((2 * j : Nat) : Int)) + 1 = ((2 * j + 1 : Nat) : Int) by omega, e2, Option.bind_some,
      br_fits (by rw [List.length_append, kv_len, List.length_take, List.length_singleton]; omega), wrap_i64 _ (by omega) (by omega), show (((2 * j : Nat) : Int)) + 2 = ((2 * (j + 1) : Nat) : Int) by omega, take_snoc (by omega), take_snoc (by omega), kv_snoc, kv_snoc]
  · simp only [s_l07Ntt_1_s]
    rw [brn (by omega), decide_eq_false (by omega), List.take_of_length_le (by omega), List.take_of_length_le (by omega), h]

/-- Powers of an element of the base field. -/
def pwI (w : Int) : Nat → Int
  | 0 => 1
  | j + 1 => mF (pwI w j) w
theorem pwI_ok (w : Int) : ∀ j, okF (pwI w j)
  | 0 => okF1
  | j + 1 => mF_ok _ _
theorem kF_pwI (w : Int) : ∀ j, kF (pwI w j) = kF w ^ j
  | 0 => rfl
  | j + 1 => by rw [pwI, kF_mF, kF_pwI w j, pwS]
/-- Two halves of a list, filled as far as j. -/
def arrM (h j : Nat) (lo hi : Nat → K) : List Ext := (List.range (2 * h)).map fun i => if i < h then (if i < j then (lo i).1 else e0) else if i - h < j then (hi (i - h)).1 else e0
theorem arrM_len (h j : Nat) (lo hi : Nat → K) : (arrM h j lo hi).length = 2 * h := by simp [arrM]
theorem arrM_zero (h : Nat) (lo hi : Nat → K) : arrM h 0 lo hi = List.replicate (2 * h) e0 := by
  refine List.ext_getElem (by simp [arrM]) fun i h1 h2 => ?_
  simp [arrM]
theorem arrM_set {h j : Nat} {lo hi : Nat → K} (hj : j < h) : ((arrM h j lo hi).set j (lo j).1).set (j + h) (hi j).1 = arrM h (j + 1) lo hi := by
  refine List.ext_getElem (by simp [arrM]) fun i h1 h2 => ?_
  simp only [arrM, List.getElem_set, List.getElem_map, List.getElem_range]
  by_cases c1 : j + h = i
  · subst c1
    rw [if_pos rfl, if_neg (by omega), if_pos (by omega), show j + h - h = j by omega]
  · rw [if_neg c1]
    by_cases c2 : j = i
    · subst c2
      rw [if_pos rfl, if_pos hj, if_pos (by omega)]
    · rw [if_neg c2]
      by_cases c3 : i < h
      · rw [if_pos c3, if_pos c3]
        by_cases c4 : i < j
        · rw [if_pos c4, if_pos (by omega)]
        · rw [if_neg c4, if_neg (by omega)]
      · rw [if_neg c3, if_neg c3]
        by_cases c4 : i - h < j
        · rw [if_pos c4, if_pos (by omega)]
        · rw [if_neg c4, if_neg (by omega)]
theorem arrM_full {h : Nat} {lo hi : Nat → K} : arrM h h lo hi = kv ((List.range h).map lo ++ (List.range h).map hi) := by
  refine List.ext_getElem (by simp [arrM, kv]; omega) fun i h1 h2 => ?_
  rw [arrM_len] at h1
  simp only [arrM, kv, List.getElem_map, List.getElem_range, List.getElem_append, List.length_map, List.length_range]
  by_cases c : i < h
  · simp [c]
  · simp [c, show i - h < h by omega]
theorem e0_eq : (Ext.mk 0 0) = e0 := rfl
theorem s_butter {E O : List K} {w : Int} {h : Nat} (hE : E.length = h) (hO : O.length = h) (hw : okF w) (hh : h ≤ 1000) :
    Loop (s_l07Ntt_2_s w ((2 * h : Nat) : Int) (kv E) (kv O)) (List.replicate (2 * h) e0, 1, 0) = some (kv (lowM E O (kF w) h ++ higM E O (kF w) h), pwI w h, (h : Int), false) := by
  have hhf : IntKind.wrap .i64 (((2 * h : Nat) : Int).tdiv 2) = (h : Int) := by rw [tdiv_nn _ _ (by omega), wrap_i64 _ (by omega) (by omega)]; omega
  have key := Loop_for (step := s_l07Ntt_2_s w ((2 * h : Nat) : Int) (kv E) (kv O)) (fun j => (arrM h j (fun j => E.getD j 0 + O.getD j 0 * kF w ^ j) (fun j => E.getD j 0 - O.getD j 0 * kF w ^ j), pwI w j, (j : Int))) h
    (e := (kv (lowM E O (kF w) h ++ higM E O (kF w) h), pwI w h, (h : Int), false)) (fun j hj => ?_) ?_
  · rw [arrM_zero] at key; exact key
  · simp only [s_l07Ntt_2_s, Int.toNat_natCast, hhf]
    have hx : eM (O.getD j 0).1 (eN (pwI w j)) = (O.getD j 0 * kF w ^ j).1 := by rw [← kF_pwI, ← kF_val (pwI_ok w j)]; rfl
    have hl := arrM_len h j (fun j => E.getD j 0 + O.getD j 0 * kF w ^ j) (fun j => E.getD j 0 - O.getD j 0 * kF w ^ j)
    rw [wrap_i64 ((j : Int) + (h : Int)) (by omega) (by omega), show (j : Int) + (h : Int) = ((j + h : Nat) : Int) by omega]
    simp only [Int.toNat_natCast]
    rw [brd (by omega), kv_at (by omega), Option.bind_some, s_of_eq, Option.bind_some, s_emul_eq (Subtype.property _) (eN_ok (pwI_ok w j)), Option.bind_some, hx, kv_at (by omega), Option.bind_some, s_eadd_eq (Subtype.property _) (Subtype.property _), Option.bind_some,
      brd (by omega), brd (by omega), get_some (by omega), Option.bind_some, Option.bind_some, s_esub_eq (Subtype.property _) (Subtype.property _), Option.bind_some, brd (by omega), brd (by rw [hl]; omega), get_some (by rw [List.length_set]; omega), Option.bind_some,
      s_mul_eq (pwI_ok w j) hw, Option.bind_some, wrap_i64 _ (by omega) (by omega), ← arrM_set hj]
    rfl
  · simp only [s_l07Ntt_2_s, hhf]
    rw [brn (by omega), decide_eq_false (by omega), arrM_full]; rfl
theorem s_ntt_n_eq : ∀ (n k : Nat) (l : List K) (w : Int), k ≤ 9 → okF w → l.length = 2 ^ k → s_l07Ntt_n n (kv l) w = if k + 1 ≤ n then some (kv (V k l (kF w))) else none
  | 0, k, l, w, _, _, _ => by rw [if_neg (by omega)]; rfl
  | n + 1, 0, l, w, _, _, hl => by
    rw [if_pos (by omega)]
    unfold s_l07Ntt_n
    rw [List.nil_append, kv_len, hl, bre (by simp), br_fits (by decide)]; rfl
  | n + 1, k + 1, l, w, hk, hw, hl => by
    have hp := p2_9 (k + 1) hk
    have hp1 := p2_9 k (by omega)
    have hs : l.length = 2 * 2 ^ k := by rw [hl, Nat.pow_succ]; omega
    have he := evs_2 hl
    have ho := ods_2 hl
    have hw2 := mF_ok w w
    unfold s_l07Ntt_n
    rw [kv_len, brne (by omega), s_split hs (by omega), Option.bind_some, s_mul_eq hw hw, Option.bind_some]
    dsimp only
    by_cases c : k + 1 ≤ n
    · have hE := V_len k (evs l) (kF (mF w w)) he
      have hO := V_len k (ods l) (kF (mF w w)) ho
      rw [s_ntt_n_eq n k (evs l) _ (by omega) hw2 he, if_pos c, Option.bind_some, Option.bind_some, s_ntt_n_eq n k (ods l) _ (by omega) hw2 ho, if_pos c, Option.bind_some, if_pos (by omega), br_mk (by omega) (by omega) (by omega), hs, Int.toNat_natCast, e0_eq, s_butter hE hO hw (by omega), Option.bind_some, kF_mF]; rfl
    · rw [s_ntt_n_eq n k (evs l) _ (by omega) hw2 he, if_neg c, if_neg (by omega)]; rfl
theorem s_ntt_eq {k : Nat} {l : List K} {w : Int} (hk : k ≤ 9) (hw : okF w) (hl : l.length = 2 ^ k) : s_l07Ntt (kv l) w = some (kv (V k l (kF w))) := lim_eq fun n => s_ntt_n_eq n k l w hk hw hl
end Go.AI.Fn

set_option linter.unusedVariables false
set_option linter.unusedSimpArgs false
namespace Go.AI.Fn

abbrev Tx := List UInt8
def leafT (t : Tx) : Tx := 0 :: t
def nodeT (a b : Tx) : Tx := 1 :: (a ++ b)
def hL (t : Tx) : Tx := H (leafT t)
def hN (a b : Tx) : Tx := H (nodeT a b)
theorem atL_t {l : List Tx} {k : Nat} (h : k < l.length) : atL l (k : Int) = some (l.getD k []) := by simp [atL, h]
theorem s_leaf_eq {t : Tx} (h : t.length ≤ 1000000) : s_l04Leaf t = some (hL t) := by
  unfold s_l04Leaf
  rw [br_fits (by simp only [List.length_cons, List.length_nil]; omega), s_hash_eq (by simp only [List.length_append, List.length_cons, List.length_nil]; omega), Option.bind_some]; rfl
theorem s_node_eq {a b : Tx} (ha : a.length ≤ 1000000) (hb : b.length ≤ 1000000) : s_l04Node a b = some (hN a b) := by
  unfold s_l04Node
  rw [br_fits (by simp only [List.length_cons, List.length_nil]; omega), br_fits (by simp only [List.length_append, List.length_cons, List.length_nil]; omega), s_hash_eq (by simp only [List.length_append, List.length_cons, List.length_nil]; omega), Option.bind_some]; rfl

/-- Hashes of pairs. -/
def upL (row : List Tx) : List Tx := (List.range (row.length / 2)).map fun k => hN (row.getD (2 * k) []) (row.getD (2 * k + 1) [])
theorem upL_len (row : List Tx) : (upL row).length = row.length / 2 := by simp [upL]
def Hs (l : List Tx) : Prop := ∀ x ∈ l, x.length = 32
theorem upL_h (row : List Tx) : Hs (upL row) := fun x hx => by
  obtain ⟨k, _, rfl⟩ := List.mem_map.1 hx; exact H_len _
theorem Hs.getD {l : List Tx} (h : Hs l) {k : Nat} (hk : k < l.length) : (l.getD k []).length = 32 := by simp [hk]; exact h _ (List.getElem_mem hk)
theorem range_map_succ {α : Type} (f : Nat → α) (k : Nat) : (List.range (k + 1)).map f = (List.range k).map f ++ [f k] := by rw [List.range_succ, List.map_append]; rfl
theorem s_up_eq {l3 : List (List Tx)} {row : List Tx} {m : Nat} (hr : Hs row) (hm : row.length = 2 * m) (hb : m ≤ 1000000) : Loop (s_l04Levels_3_s l3 row) ([], 0) = some (upL row, ((2 * m : Nat) : Int), false) := by
  have e : upL row = (List.range m).map fun k => hN (row.getD (2 * k) []) (row.getD (2 * k + 1) []) := by rw [upL, hm]; simp
  rw [e]
  exact Loop_for (fun k => ((List.range k).map fun k => hN (row.getD (2 * k) []) (row.getD (2 * k + 1) []), ((2 * k : Nat) : Int))) m (fun k hk => by
    have h1 := hr.getD (k := 2 * k) (by omega)
    have h2 := hr.getD (k := 2 * k + 1) (by omega)
    simp only [s_l04Levels_3_s]
    rw [brd (by omega), atL_t (by omega), Option.bind_some, wrap_i64 _ (by omega) (by omega), show (((2 * k : Nat) : Int)) + 1 = ((2 * k + 1 : Nat) : Int) by omega, atL_t (by omega), Option.bind_some, s_node_eq (by omega) (by omega), Option.bind_some,
      br_fits (by simp only [List.length_append, List.length_map, List.length_range, List.length_singleton]; omega), wrap_i64 _ (by omega) (by omega), range_map_succ]
    rw [show (((2 * k : Nat) : Int)) + 2 = ((2 * (k + 1) : Nat) : Int) by omega]) (by
    simp only [s_l04Levels_3_s]
    rw [brn (by omega), decide_eq_false (by omega)])
/-- The j-th row above a row. -/
def rowAt (row : List Tx) (j : Nat) : List Tx := iU (fun _ r => upL r) j row
theorem rowAt_succ (row : List Tx) (j : Nat) : rowAt row (j + 1) = upL (rowAt row j) := rfl
theorem rowAt_len {row : List Tx} {k : Nat} (h : row.length = 2 ^ k) : ∀ j, j ≤ k → (rowAt row j).length = 2 ^ (k - j)
  | 0, _ => by simpa [rowAt, iU] using h
  | j + 1, hj => by
    rw [rowAt_succ, upL_len, rowAt_len h j (by omega), show k - j = (k - (j + 1)) + 1 by omega, Nat.pow_succ]; omega
theorem rowAt_h {row : List Tx} (h : Hs row) : ∀ j, Hs (rowAt row j)
  | 0 => h
  | j + 1 => upL_h _
/-- All rows of a tree over 2 to the k hashes. -/
def rowsM (row : List Tx) (k : Nat) : List (List Tx) := (List.range (k + 1)).map (rowAt row)
theorem p2_8 : ∀ k : Nat, k ≤ 9 → 1 ≤ 2 ^ k ∧ 2 ^ k ≤ 512 := by decide
theorem pow_pos_le {k j : Nat} (hj : j < k) : 2 ^ (k - j) = 2 * 2 ^ (k - (j + 1)) := by
  rw [show k - j = (k - (j + 1)) + 1 by omega, Nat.pow_succ]; omega
theorem s_rows_eq {row : List Tx} {k : Nat} (hr : Hs row) (hl : row.length = 2 ^ k) (hk : k ≤ 9) : Loop s_l04Levels_2_s ([row], row) = some (rowsM row k, rowAt row k, false) := by
  have key := Loop_for (step := s_l04Levels_2_s) (fun j => (rowsM row j, rowAt row j)) k (e := (rowsM row k, rowAt row k, false)) (fun j hj => by
    have h1 := rowAt_len hl j (by omega)
    have h2 := pow_pos_le hj
    have h3 := p2_8 (k - (j + 1)) (by omega)
    simp only [s_l04Levels_2_s]
    rw [brd (by omega), s_up_eq (m := 2 ^ (k - (j + 1))) (rowAt_h hr j) (by omega) (by omega), Option.bind_some]
    dsimp only
    rw [br_fits (by simp only [rowsM, List.length_append, List.length_map, List.length_range, List.length_singleton]; omega)]
    rw [rowsM, rowsM, range_map_succ _ (j + 1), rowAt_succ]) (by
    have h1 := rowAt_len hl k (by omega)
    rw [Nat.sub_self, Nat.pow_zero] at h1
    simp only [s_l04Levels_2_s]
    rw [brn (by omega), decide_eq_false (by omega)])
  exact key
def Short (l : List Tx) : Prop := ∀ x ∈ l, x.length ≤ 1000
theorem leaves_h (l : List Tx) : Hs (l.map hL) := fun x hx => by obtain ⟨y, _, rfl⟩ := List.mem_map.1 hx; exact H_len _
theorem s_levels_eq {l : List Tx} {k : Nat} (hs : Short l) (hl : l.length = 2 ^ k) (hk : k ≤ 9) : s_l04Levels l = some (rowsM (l.map hL) k) := by
  have hb := p2_8 k hk
  unfold s_l04Levels
  have key : Loop (s_l04Levels_1_s l) ([], 0) = some (l.map hL, (l.length : Int), false) :=
    Loop_for (fun j => ((l.take j).map hL, (j : Int))) l.length (fun j hj => by
      have hx := hs _ (List.getElem_mem hj)
      simp only [s_l04Levels_1_s]
      rw [brd (by omega), atL_nat hj, Option.bind_some, s_leaf_eq (by omega), Option.bind_some, br_fits (by simp only [List.length_append, List.length_map, List.length_take, List.length_singleton]; omega), wrap_i64 _ (by omega) (by omega), take_succ hj, List.map_append]
      rfl) (by
      simp only [s_l04Levels_1_s]
      rw [brn (by omega), decide_eq_false (by omega), List.take_length])
  rw [key, Option.bind_some]
  dsimp only
  rw [s_rows_eq (leaves_h l) (by rw [List.length_map, hl]) hk, Option.bind_some]
/-- The root of a tree. -/
def rootM' (row : List Tx) (k : Nat) : Tx := (rowAt row k).getD 0 []
theorem rowsM_len (row : List Tx) (k : Nat) : (rowsM row k).length = k + 1 := by simp [rowsM]
theorem rowsM_get {row : List Tx} {k j : Nat} (h : j ≤ k) : atL (rowsM row k) (j : Int) = some (rowAt row j) := by
  rw [atL_nat (by rw [rowsM_len]; omega)]; simp [rowsM]
theorem s_l04Root_eq {l : List Tx} {k : Nat} (hs : Short l) (hl : l.length = 2 ^ k) (hk : k ≤ 9) : s_l04Root l = some (rootM' (l.map hL) k) := by
  unfold s_l04Root
  have h1 := rowAt_len (row := l.map hL) (k := k) (by rw [List.length_map, hl]) k (Nat.le_refl _)
  rw [Nat.sub_self, Nat.pow_zero] at h1
  rw [s_levels_eq hs hl hk, Option.bind_some, rowsM_len, wrap_i64 _ (by omega) (by omega), show (((k + 1 : Nat) : Int)) - 1 = (k : Int) by omega, rowsM_get (Nat.le_refl _), Option.bind_some]
  have e := atL_t (l := rowAt (l.map hL) k) (k := 0) (by omega)
  rw [show ((0 : Nat) : Int) = 0 from rfl] at e
  rw [e]; rfl

/-- The other one of a pair. -/
def sib (i : Nat) : Nat := if i % 2 = 0 then i + 1 else i - 1
theorem sib_eq : ∀ i : Nat, i < 512 → xor64 .i64 (i : Int) 1 = (sib i : Int) := by decide +kernel
/-- The hashes beside the way up. -/
def pathM (row : List Tx) (k i : Nat) : List Tx := (List.range k).map fun j => (rowAt row j).getD (sib (i / 2 ^ j)) []
theorem pathM_len (row : List Tx) (k i : Nat) : (pathM row k i).length = k := by simp [pathM]
theorem place_lt {i k j : Nat} (hi : i < 2 ^ k) (hj : j < k) : i / 2 ^ j < 2 ^ (k - j) := by
  rw [Nat.div_lt_iff_lt_mul (Nat.pow_pos (by decide)), ← Nat.pow_add]
  rwa [show k - j + j = k by omega]
theorem sib_lt {i m : Nat} (h : i < 2 * m) : sib i < 2 * m := by unfold sib; split <;> omega
theorem half_pow (i j : Nat) : i / 2 ^ j / 2 = i / 2 ^ (j + 1) := by rw [Nat.div_div_eq_div_mul, Nat.pow_succ]
theorem path_step {row : List Tx} {k i j : Nat} (hl : row.length = 2 ^ k) (hk : k ≤ 9) (hi : i < 2 ^ k) (hj : j < k) : atL (rowAt row j) (xor64 .i64 ((i / 2 ^ j : Nat) : Int) 1) = some ((rowAt row j).getD (sib (i / 2 ^ j)) []) := by
  have h1 := rowAt_len hl j (by omega)
  have h2 := place_lt hi hj
  have h3 := p2_8 (k - j) (by omega)
  have h4 := pow_pos_le hj
  rw [sib_eq _ (by omega), atL_t (by rw [h1, h4]; exact sib_lt (by omega))]
theorem wrap_half (q : Nat) (h : q ≤ 1000000) : IntKind.wrap .i64 (((q : Nat) : Int) / 2) = ((q / 2 : Nat) : Int) := by
  rw [wrap_i64 _ (by omega) (by omega)]; omega
theorem s_path_eq {row : List Tx} {k i : Nat} (hl : row.length = 2 ^ k) (hk : k ≤ 9) (hi : i < 2 ^ k) : s_l04Path (rowsM row k) i = some (pathM row k i) := by
  unfold s_l04Path
  have h8 := p2_8 k hk
  have key : Loop (s_l04Path_1_s (rowsM row k)) ([], (i : Int), 0) = some (pathM row k i, ((i / 2 ^ k : Nat) : Int), (k : Int), false) := by
    have key := Loop_for (step := s_l04Path_1_s (rowsM row k)) (fun j => (pathM row j i, ((i / 2 ^ j : Nat) : Int), (j : Int))) k (e := (pathM row k i, ((i / 2 ^ k : Nat) : Int), (k : Int), false)) (fun j hj => by
      have hq : i / 2 ^ j ≤ i := Nat.div_le_self _ _
      simp only [s_l04Path_1_s, rowsM_len]
      rw [wrap_i64 ((j : Int) + 1) (by omega) (by omega), brd (by omega), rowsM_get (by omega), Option.bind_some, path_step hl hk hi hj, Option.bind_some, br_fits (by simp only [List.length_append, pathM_len, List.length_singleton]; omega), tdiv_nn _ _ (by exact Int.natCast_nonneg _), wrap_half _ (by exact Nat.le_trans hq (by omega)), pathM, pathM, range_map_succ, ← half_pow]
      rfl) (by
      simp only [s_l04Path_1_s, rowsM_len]
      rw [wrap_i64 ((k : Int) + 1) (by omega) (by omega), brn (by omega), decide_eq_false (by omega)])
    simpa [pathM] using key
  rw [key]; rfl
end Go.AI.Fn

set_option linter.unusedVariables false
set_option linter.unusedSimpArgs false
namespace Go.AI.Fn

theorem path_h {l : List Tx} {k i : Nat} (hl : l.length = 2 ^ k) (hi : i < 2 ^ k) : Hs (pathM (l.map hL) k i) := fun x hx => by
  obtain ⟨j, hj, rfl⟩ := List.mem_map.1 hx
  have hj := List.mem_range.1 hj
  have hr : (l.map hL).length = 2 ^ k := by rw [List.length_map, hl]
  have h1 := rowAt_len hr j (by omega)
  have h3 := pow_pos_le hj
  have h2 := place_lt hi hj
  exact (rowAt_h (leaves_h l) j).getD (by rw [h1, h3]; exact sib_lt (by omega))
end Go.AI.Fn

set_option linter.unusedVariables false
set_option linter.unusedSimpArgs false
namespace Go.AI.Fn

theorem vars9 {k : Nat} (h : k ≤ 9) : s_l06Vars ((2 ^ k : Nat) : Int) = some (k : Int) := by
  unfold s_l06Vars
  have key : Loop (s_l06Vars_1_s ((2 ^ k : Nat) : Int)) 0 = some ((k : Int), false) :=
    Loop_for (step := s_l06Vars_1_s ((2 ^ k : Nat) : Int)) (fun j => (j : Int)) k (fun j hj => by
      have hp : 2 ^ j < 2 ^ k := Nat.pow_lt_pow_right (by omega) hj
      simp only [s_l06Vars_1_s]
      rw [wrap_u64 _ (by omega) (by omega), brd (by omega), shl1 (by omega), brd (by omega), wrap_i64 _ (by omega) (by omega)]; rfl) (by
      simp only [s_l06Vars_1_s]
      rw [wrap_u64 _ (by omega) (by omega), brd (by omega), shl1 (by omega), brn (by omega), decide_eq_false (by omega)])
  rw [key]; rfl

/-! ### roots -/
def rtK (k : Nat) : K := kF (rootM k)
/-! ### folding -/
def fpK (k i : Nat) (a b r : K) : K := (a + b) * kF (iF 2) + r * (a - b) * (kF (iF 2) * kF (iF (pF (rootM k) i)))
theorem iF_ok (a : Int) : okF (iF a) := pF_ok _ _
theorem okF2 : okF 2 := ⟨by decide, by decide⟩
def fwK (k : Nat) (W : List K) (r : K) : List K := (List.range (2 ^ k)).map fun i => fpK (k + 1) i (W.getD i 0) (W.getD (i + 2 ^ k) 0) r
theorem fwK_len (k : Nat) (W : List K) (r : K) : (fwK k W r).length = 2 ^ k := by simp [fwK]
/-! ### encoding -/
def padK (l : List K) (n : Nat) : List K := l ++ List.replicate (n - l.length) 0
theorem padK_len {l : List K} {n : Nat} (h : l.length ≤ n) : (padK l n).length = n := by simp [padK]; omega
/-- The word of a list of 2 to the m coefficients, t doublings longer. -/
def Enc (m t : Nat) (l : List K) : List K := V (m + t) (padK l (2 ^ (m + t))) (rtK (m + t))
theorem pow_le_add (m t : Nat) : 2 ^ m ≤ 2 ^ (m + t) := Nat.pow_le_pow_right (by omega) (by omega)
theorem pad2_len {m t : Nat} {l : List K} (h : l.length = 2 ^ m) : (padK l (2 ^ (m + t))).length = 2 ^ (m + t) := padK_len (by rw [h]; exact pow_le_add m t)
theorem Enc_len {m t : Nat} {l : List K} (h : l.length = 2 ^ m) : (Enc m t l).length = 2 ^ (m + t) := V_len _ _ _ (pad2_len h)
theorem shl_pow : ∀ m : Nat, m ≤ 9 → ∀ t : Nat, t ≤ 9 → shl64 .i64 ((2 ^ m : Nat) : Int) (t : Int) = ((2 ^ (m + t) : Nat) : Int) := by decide +kernel
theorem kv_rep (n : Nat) : kv (List.replicate n 0) = List.replicate n e0 := by rw [kv, List.map_replicate]; rfl
theorem kv_app (a b : List K) : kv (a ++ b) = kv a ++ kv b := by simp [kv]
theorem kv_pad (l : List K) (n : Nat) : kv (padK l n) = kv l ++ List.replicate (n - l.length) e0 := by rw [padK, kv_app, kv_rep]
theorem s_l07Encode_eq {m t : Nat} {l : List K} (hk : m + t ≤ 9) (h : l.length = 2 ^ m) : s_l07Encode (kv l) (t : Int) = some (kv (Enc m t l)) := by
  have hp := p2_9 (m + t) hk
  have hq := pow_le_add m t
  have hb := p2_9 m (by omega)
  unfold s_l07Encode
  rw [List.nil_append, wrap_u64 _ (by omega) (by omega), brd (by omega), kv_len, h, br_fits (by omega), shl_pow m (by omega) t (by omega), wrap_i64 _ (by omega) (by omega), br_of (by rw [mkOK_of (by omega) (by omega) (by omega), decide_eq_true (by omega)]; rfl),
    show (((2 ^ (m + t) : Nat) : Int) - ((2 ^ m : Nat) : Int)).toNat = 2 ^ (m + t) - 2 ^ m by omega, e0_eq, br_fits (by rw [List.length_append, kv_len, List.length_replicate]; omega), vars9 hk, Option.bind_some, s_root_eq (by omega), Option.bind_some, ← h, ← kv_pad, s_ntt_eq hk (rootM_ok _) (pad2_len h), Option.bind_some]; rfl
theorem sameExts_self {l : List Ext} (hl : l.length ≤ 1000000) : w_sameExts l l = some true := by
  unfold w_sameExts
  have key : Loop (w_sameExts_1_s l l) 0 = some (.inr ((l.length : Int), false)) :=
    Loop_for (step := w_sameExts_1_s l l) (fun j => (j : Int)) l.length (fun j hj => by
      simp only [w_sameExts_1_s]
      rw [brd (by omega), atL_nat hj, Option.bind_some, Option.bind_some, bre rfl, bre rfl, wrap_i64 _ (by omega) (by omega)]; rfl) (by
      simp only [w_sameExts_1_s]
      rw [brn (by omega), decide_eq_false (by omega)])
  rw [brbe rfl, key]; rfl
end Go.AI.Fn

set_option linter.unusedVariables false
set_option linter.unusedSimpArgs false
namespace Go.AI.Fn

/-! ### coefficients -/
def stK (l : List K) (j : Nat) : List K := (List.range l.length).map fun m => if m / 2 ^ j % 2 = 1 then l.getD m 0 - l.getD (m - 2 ^ j) 0 else l.getD m 0
theorem stK_len (l : List K) (j : Nat) : (stK l j).length = l.length := by simp [stK]
def stP (l : List K) (j i : Nat) : List K := (List.range l.length).map fun m => if m < i ∧ m / 2 ^ j % 2 = 1 then l.getD m 0 - l.getD (m - 2 ^ j) 0 else l.getD m 0
theorem stP_len (l : List K) (j i : Nat) : (stP l j i).length = l.length := by simp [stP]
theorem stP_get {l : List K} {j i m : Nat} (h : m < l.length) : (stP l j i).getD m 0 = if m < i ∧ m / 2 ^ j % 2 = 1 then l.getD m 0 - l.getD (m - 2 ^ j) 0 else l.getD m 0 := by rw [stP, getD_mr h]
theorem list_gd (l : List K) : (List.range l.length).map (fun m => l.getD m 0) = l := list_ext (by simp) fun j hj => by
  rw [List.length_map, List.length_range] at hj; rw [getD_mr hj]
theorem stP_zero (l : List K) (j : Nat) : stP l j 0 = l := by
  rw [stP]; exact (List.map_congr_left fun m _ => by rw [if_neg (by omega)]).trans (list_gd l)
theorem stP_all (l : List K) (j : Nat) : stP l j l.length = stK l j := by
  rw [stP, stK]
  refine List.map_congr_left fun m hm => ?_
  have := List.mem_range.1 hm
  by_cases c : m / 2 ^ j % 2 = 1
  · rw [if_pos ⟨this, c⟩, if_pos c]
  · rw [if_neg fun h => c h.2, if_neg c]
theorem stP_skip {l : List K} {j i : Nat} (h : i / 2 ^ j % 2 = 0) : stP l j (i + 1) = stP l j i := by
  rw [stP, stP]
  refine List.map_congr_left fun m hm => ?_
  by_cases c : m / 2 ^ j % 2 = 1
  · have : m ≠ i := fun e => by subst e; omega
    by_cases c2 : m < i
    · rw [if_pos ⟨by omega, c⟩, if_pos ⟨c2, c⟩]
    · rw [if_neg (by omega), if_neg (by omega)]
  · rw [if_neg fun h => c h.2, if_neg fun h => c h.2]
theorem stP_set {l : List K} {j i : Nat} (hi : i < l.length) (h : i / 2 ^ j % 2 = 1) : (stP l j i).set i (l.getD i 0 - l.getD (i - 2 ^ j) 0) = stP l j (i + 1) := by
  refine list_ext (by rw [List.length_set, stP_len, stP_len]) fun m hm => ?_
  rw [List.length_set, stP_len] at hm
  rw [stP_get hm]
  by_cases c : m = i
  · subst c
    rw [if_pos ⟨by omega, h⟩]
    simp [stP_len, hm]
  · have : ((stP l j i).set i (l.getD i 0 - l.getD (i - 2 ^ j) 0)).getD m 0 = (stP l j i).getD m 0 := by
      simp [List.getElem?_set, show ¬ i = m by omega]
    rw [this, stP_get hm]
    by_cases c2 : m / 2 ^ j % 2 = 1
    · by_cases c3 : m < i
      · rw [if_pos ⟨c3, c2⟩, if_pos ⟨by omega, c2⟩]
      · rw [if_neg (by omega), if_neg (by omega)]
    · rw [if_neg fun h => c2 h.2, if_neg fun h => c2 h.2]
theorem bitz : ∀ i : Nat, i < 64 → ∀ j : Nat, j < 6 → (and64 .i64 (i : Int) ((2 ^ j : Nat) : Int) == 0) = decide (i / 2 ^ j % 2 = 0) := by decide +kernel
theorem bitx : ∀ i : Nat, i < 64 → ∀ j : Nat, j < 6 → i / 2 ^ j % 2 = 1 → xor64 .i64 (i : Int) ((2 ^ j : Nat) : Int) = ((i - 2 ^ j : Nat) : Int) ∧ 2 ^ j ≤ i ∧ (i - 2 ^ j) / 2 ^ j % 2 = 0 := by decide +kernel
theorem s_coefs2 {l : List K} {j : Nat} (hl : l.length ≤ 64) (hj : j < 6) : Loop (s_l06Coefs_2_s false ((2 ^ j : Nat) : Int)) (kv l, 0) = some (kv (stK l j), (l.length : Int), false) := by
  have key := Loop_for (step := s_l06Coefs_2_s false ((2 ^ j : Nat) : Int)) (fun i => (kv (stP l j i), (i : Int))) l.length (e := (kv (stK l j), (l.length : Int), false)) (fun i hi => ?_) ?_
  · have key' : Loop (s_l06Coefs_2_s false ((2 ^ j : Nat) : Int)) (kv (stP l j 0), 0) = _ := key
    rw [stP_zero] at key'; exact key'
  · simp only [s_l06Coefs_2_s]
    have hb := bitz i (by omega) j hj
    have hlen : (kv (stP l j i)).length = l.length := by rw [kv_len, stP_len]
    have hq : 1 ≤ 2 ^ j := Nat.one_le_two_pow
    rw [brd (by omega), hb]
    by_cases c : i / 2 ^ j % 2 = 0
    · rw [decide_eq_true c, br_true, wrap_i64 _ (by omega) (by omega), stP_skip c]; rfl
    · obtain ⟨h1, h2, h3⟩ := bitx i (by omega) j hj (by omega)
      rw [decide_eq_false c, br_false, br_false, h1]
      simp only [Int.toNat_natCast]
      rw [brd (by omega), brd (by omega), kv_get? (by rw [stP_len]; omega), Option.bind_some, brd (by omega), brd (by omega), kv_get? (by rw [stP_len]; omega), Option.bind_some, stP_get hi, if_neg (by omega), stP_get (by omega), if_neg (by omega), s_esub_eq (Subtype.property _) (Subtype.property _), Option.bind_some, brd (by omega), brd (by omega), Option.bind_some, wrap_i64 _ (by omega) (by omega), ← stP_set hi (by omega)]
      rw [kv, kv, List.map_set]; rfl
  · simp only [s_l06Coefs_2_s]
    rw [brn (by rw [kv_len, stP_len]; omega), decide_eq_false (by rw [kv_len, stP_len]; omega), stP_all]
def cfK : Nat → List K → List K
  | 0, l => l
  | j + 1, l => stK (cfK j l) j
theorem cfK_len (l : List K) : ∀ j, (cfK j l).length = l.length
  | 0 => rfl
  | j + 1 => by rw [cfK, stK_len, cfK_len l j]
theorem p2_6 : ∀ k : Nat, k ≤ 6 → 1 ≤ 2 ^ k ∧ 2 ^ k ≤ 64 := by decide
theorem s_coefs_eq {l : List K} {v : Nat} (h : l.length = 2 ^ v) (hv : v ≤ 6) : s_l06Coefs (kv l) false = some (kv (cfK v l)) := by
  have hp := p2_6 v hv
  unfold s_l06Coefs
  have key := Loop_for (step := s_l06Coefs_1_s false) (fun j => (kv (cfK j l), ((2 ^ j : Nat) : Int))) v (e := (kv (cfK v l), ((2 ^ v : Nat) : Int), false)) (fun j hj => ?_) ?_
  · have key' : Loop (s_l06Coefs_1_s false) (kv l, 1) = _ := key
    rw [List.nil_append, br_fits (by rw [kv_len]; omega), key']; rfl
  · have hlt : 2 ^ j < 2 ^ v := Nat.pow_lt_pow_right (by omega) hj
    have hq : 1 ≤ 2 ^ j := Nat.one_le_two_pow
    have hl := cfK_len l j
    simp only [s_l06Coefs_1_s]
    rw [brd (by rw [kv_len]; omega), s_coefs2 (by omega) (by omega), Option.bind_some, wrap_i64 _ (by omega) (by omega), Nat.pow_succ]; simp [cfK]
  · have hl := cfK_len l v
    simp only [s_l06Coefs_1_s]
    rw [brn (by rw [kv_len]; omega), decide_eq_false (by rw [kv_len]; omega)]
theorem s_word_eq {l : List K} {v t : Nat} (h : l.length = 2 ^ v) (hv : v ≤ 6) (ht : v + t ≤ 9) : s_l09Word (kv l) (t : Int) = some (kv (Enc v t (cfK v l))) := by
  unfold s_l09Word
  rw [s_coefs_eq h hv, Option.bind_some, s_l07Encode_eq ht (by rw [cfK_len]; exact h)]; rfl

/-! ### folding -/
theorem s_pair_eq {k i : Nat} (a b r : K) (hk : k ≤ 9) (hi : i ≤ 1000) : s_l07Pair ((2 ^ k : Nat) : Int) i a.1 b.1 r.1 = some (fpK k i a b r).1 := by
  unfold s_l07Pair s_l01Inverse
  rw [vars9 hk, Option.bind_some, s_root_eq (by omega), Option.bind_some, s_pow_eq (rootM_ok k) (by omega) (by omega), Option.bind_some, s_inverse_eq okF2, Option.bind_some, Option.bind_some, s_eadd_eq a.2 b.2, Option.bind_some, s_of_eq, Option.bind_some, s_emul_eq (eA_ok _ _) (eN_ok (iF_ok 2)), Option.bind_some, s_esub_eq a.2 b.2, Option.bind_some,
    s_inverse_eq (pF_ok _ _), Option.bind_some, Option.bind_some, s_mul_eq (iF_ok 2) (iF_ok _), Option.bind_some, s_of_eq, Option.bind_some, s_emul_eq (eS_ok _ _) (eN_ok (mF_ok _ _)), Option.bind_some, s_emul_eq r.2 (eM_ok _ _), Option.bind_some, s_eadd_eq (eM_ok _ _) (eM_ok _ _), Option.bind_some, Int.toNat_natCast, ← kF_val (iF_ok 2), ← kF_val (mF_ok _ _), kF_mF]
  have : (a + b) * kF (iF 2) + r * ((a - b) * (kF (iF 2) * kF (iF (pF (rootM k) i)))) = fpK k i a b r := by unfold fpK; exact kg
  rw [← this]; rfl
theorem halfW (k : Nat) (hk : k + 1 ≤ 9) : IntKind.wrap .i64 (((2 ^ (k + 1) : Nat) : Int).tdiv 2) = ((2 ^ k : Nat) : Int) := by
  have hp := p2_9 (k + 1) hk
  have hs : 2 ^ (k + 1) = 2 * 2 ^ k := by rw [Nat.pow_succ]; omega
  rw [tdiv_nn _ _ (by omega), wrap_i64 _ (by omega) (by omega)]; omega
theorem s_foldW_eq {k : Nat} {W : List K} (r : K) (hk : k + 1 ≤ 9) (hW : W.length = 2 ^ (k + 1)) : s_l07Fold (kv W) r.1 = some (kv (fwK k W r)) := by
  have hp := p2_9 (k + 1) hk
  have hs : 2 ^ (k + 1) = 2 * 2 ^ k := by rw [Nat.pow_succ]; omega
  have hh := halfW k hk
  unfold s_l07Fold
  rw [kv_len, hW]
  have key := Loop_for (step := s_l07Fold_1_s (kv W) ((2 ^ (k + 1) : Nat) : Int) r.1.A r.1.B) (fun j => (kv ((List.range j).map fun i => fpK (k + 1) i (W.getD i 0) (W.getD (i + 2 ^ k) 0) r), (j : Int))) (2 ^ k)
    (e := (kv (fwK k W r), ((2 ^ k : Nat) : Int), false)) (fun j hj => ?_) ?_
  · have key' : Loop (s_l07Fold_1_s (kv W) ((2 ^ (k + 1) : Nat) : Int) r.1.A r.1.B) ([], 0) = _ := key
    rw [key']; rfl
  · simp only [s_l07Fold_1_s, hh]
    rw [brd (by omega), kv_at (by omega), Option.bind_some, wrap_i64 ((j : Int) + _) (by omega) (by omega), show (j : Int) + ((2 ^ k : Nat) : Int) = ((j + 2 ^ k : Nat) : Int) by omega, kv_at (by omega), Option.bind_some,
      s_pair_eq _ _ r hk (by omega), Option.bind_some, br_fits (by simp only [List.length_append, kv_len, List.length_map, List.length_range, List.length_singleton]; omega), wrap_i64 _ (by omega) (by omega), List.range_succ, List.map_append, List.map_singleton, kv_snoc]; rfl
  · simp only [s_l07Fold_1_s, hh]
    rw [brn (by omega), decide_eq_false (by omega)]; rfl

/-! ### leaves -/
def lfK (k : Nat) (W : List K) (i : Nat) : List UInt8 := [(W.getD i 0).1, (W.getD (i + 2 ^ k) 0).1].flatMap e8
def lvK (k : Nat) (W : List K) : List (List UInt8) := (List.range (2 ^ k)).map (lfK k W)
theorem lvK_len (k : Nat) (W : List K) : (lvK k W).length = 2 ^ k := by simp [lvK]
theorem lfK_len (k : Nat) (W : List K) (i : Nat) : (lfK k W i).length = 16 := by rw [lfK, e8s_len]; rfl
theorem lvK_short (k : Nat) (W : List K) : Short (lvK k W) := fun x hx => by
  obtain ⟨i, _, rfl⟩ := List.mem_map.1 hx; rw [lfK_len]; omega
theorem s_leaves_eq {k : Nat} {W : List K} (hk : k + 1 ≤ 9) (hW : W.length = 2 ^ (k + 1)) : s_l09Leaves (kv W) = some (lvK k W) := by
  have hp := p2_9 (k + 1) hk
  have hs : 2 ^ (k + 1) = 2 * 2 ^ k := by rw [Nat.pow_succ]; omega
  have hh := halfW k hk
  unfold s_l09Leaves
  rw [kv_len, hW]
  have key := Loop_for (step := s_l09Leaves_1_s (kv W) ((2 ^ (k + 1) : Nat) : Int)) (fun j => ((List.range j).map (lfK k W), (j : Int))) (2 ^ k) (e := (lvK k W, ((2 ^ k : Nat) : Int), false)) (fun j hj => ?_) ?_
  · have key' : Loop (s_l09Leaves_1_s (kv W) ((2 ^ (k + 1) : Nat) : Int)) ([], 0) = _ := key
    rw [key']; rfl
  · simp only [s_l09Leaves_1_s, hh]
    rw [brd (by omega), kv_at (by omega), Option.bind_some, wrap_i64 ((j : Int) + _) (by omega) (by omega), show (j : Int) + ((2 ^ k : Nat) : Int) = ((j + 2 ^ k : Nat) : Int) by omega, kv_at (by omega), Option.bind_some, s_bytes_eq (by simp), Option.bind_some,
      br_fits (by simp only [List.length_append, List.length_map, List.length_range, List.length_singleton]; omega), wrap_i64 _ (by omega) (by omega), List.range_succ, List.map_append, List.map_singleton]; rfl
  · simp only [s_l09Leaves_1_s, hh]
    rw [brn (by omega), decide_eq_false (by omega)]; rfl
/-- The root of a word's leaves. -/
def wrK (k : Nat) (W : List K) : List UInt8 := rootM' ((lvK k W).map hL) k
theorem s_wroot_eq (k : Nat) (W : List K) (hk : k ≤ 9) : s_l04Root (lvK k W) = some (wrK k W) := s_l04Root_eq (lvK_short k W) (lvK_len k W) hk
theorem row_len {row : List Tx} {k : Nat} (h : Hs row) (hl : row.length = 2 ^ k) : (rootM' row k).length = 32 := (rowAt_h h k).getD (by rw [rowAt_len hl k (Nat.le_refl k), Nat.sub_self]; decide)
theorem wrK_len (k : Nat) (W : List K) : (wrK k W).length = 32 := row_len (leaves_h _) (by rw [List.length_map, lvK_len])
theorem s_points_eq {s : Source} {k : Int} (h : Few s k) (hk : k ≤ 1000) {n : Nat} (hn : n ≤ 100) {m : Int} (h1 : 1 ≤ m) : s_l05Places s (n : Int) m = some (drS s n, plM (drL s n) m) := by
  unfold s_l05Places
  rw [s_some_eq h hk (by omega), Option.bind_some]
  have := s_places_eq (l := drL s n) (m := m) (c := s.Script) (c2 := s.At) (c3 := s.State) (c4 := s.Count) (c5 := 0) (c6 := []) (c7 := 0) (c8 := (drS s n).Script) (c9 := (drS s n).At) (c10 := (drS s n).State) (c11 := (drS s n).Count) (by rw [drL_len]; omega) (drL_ok h hk (by omega)) (by omega)
  rw [drL_len] at this
  rw [this, Option.bind_some]
end Go.AI.Fn

set_option linter.unusedVariables false
set_option linter.unusedSimpArgs false
namespace Go.AI.Fn

/-- All numbers below a bound. -/
def allN (n : Nat) (p : Nat → Bool) : Bool := (List.range n).all p
theorem allN_iff {n : Nat} {p : Nat → Bool} : allN n p = true ↔ ∀ j, j < n → p j = true := by simp [allN]
theorem allN_of {n : Nat} {p : Nat → Bool} (h : ∀ j, j < n → p j = true) : allN n p = true := allN_iff.2 h
theorem allN_no {n : Nat} {p : Nat → Bool} {k : Nat} (hk : k < n) (h : p k = false) : allN n p = false := by
  refine Bool.eq_false_iff.2 fun e => ?_
  rw [allN_iff.1 e k hk] at h; cases h
/-- A loop that stops at the first number that is not right. -/
theorem loop_all {E1 E2 R : Type} {step : Int → Option (Int ⊕ (E1 ⊕ E2))} (n : Nat) (p : Nat → Bool) (e1 : Nat → E1) {e2 : E2} {f : E1 → Option R} {g : E2 → Option R} {x y : R} (hs : ∀ k, k < n → p k = true → step (k : Int) = some (.inl ((k + 1 : Nat) : Int)))
    (hx : ∀ k, k < n → p k = false → step (k : Int) = some (.inr (.inl (e1 k)))) (he : step (n : Int) = some (.inr (.inr e2))) (hf : ∀ e, f e = some x) (hg : g e2 = some y) :
    (Loop step 0).bind (alt f g) = some (if allN n p = true then y else x) := by
  rcases Loop_all (step := step) (fun k => (k : Int)) n p (fun k => .inl (e1 k)) hs hx he with ⟨h1, h2⟩ | ⟨k, hk, h1, _, h2⟩
  · have h2' : Loop step 0 = _ := h2
    rw [h2', if_pos (allN_of h1), Option.bind_some, alt_inr, hg]
  · have h2' : Loop step 0 = _ := h2
    rw [h2', if_neg (by rw [allN_no hk h1]; decide), Option.bind_some, alt_inl, hf]
theorem ite_bool {b : Bool} : (if b = true then true else false) = b := by cases b <;> rfl
def h32 (x : List UInt8) : Bool := decide (x.length = 32)
theorem i_areH_eq {l : List (List UInt8)} (hl : l.length ≤ 1099511627776) : i_are_string_isHash l = some (l.all h32) := by
  unfold i_are_string_isHash slices_ContainsFunc_Lstring_string_are_string_1_isHash slices_IndexFunc_Lstring_string_are_string_1_isHash
  rw [contains_gen (step := slices_IndexFunc_Lstring_string_are_string_1_isHash_1_s l ((l.length : Nat) : Int)) (p := fun x => !h32 x) (f := i_are_string_1_isHash) hl (fun x _ => by unfold i_are_string_1_isHash; rw [i_isHash_eq]; rfl) (fun t => rfl), Option.bind_some, not_any_not]
/-- Rounds of so many elements. -/
def rndB (size : Int) (g : List Ext) : Bool := decide ((g.length : Int) = size) && g.all okEb
def rndsB (R : List (List Ext)) (many size : Int) : Bool := decide ((R.length : Int) = many) && R.all (rndB size)
/-- 'Is there one?', with a number that is carried along. -/
theorem contains_c {α C : Type} {p : α → Bool} {f : α → C → Option (Bool × C)} {l : List α} {c : C} (hl : l.length ≤ 1099511627776) (hf : ∀ x ∈ l, f x c = some (p x, c)) {step : Int × C → Option ((Int × C) ⊕ ((Int × C) ⊕ (Int × Bool × C)))}
    (hs : ∀ t, step (t, c) = br (decide (t < ((l.length : Nat) : Int))) ((atL l t).bind fun x => (f x c).bind fun r => br r.1 (some (.inr (.inl (t, r.2)))) (some (.inl (IntKind.wrap .i64 (t + 1), r.2)))) (some (.inr (.inr (t, decide (t < ((l.length : Nat) : Int)), c))))) :
    ∃ n : Int, Loop step (0, c) = some (if l.any p then .inl (n, c) else .inr (n, false, c)) ∧ 0 ≤ n := by
  have key := Loop_all (step := step) (fun k => ((k : Int), c)) l.length (fun k => !((l[k]?.map p).getD false)) (fun k => .inl ((k : Int), c)) (e := .inr ((l.length : Int), false, c)) (fun k hk hp => by
      have hb : p l[k] = false := by simpa [hk] using hp
      rw [hs, brd (by omega), atL_nat hk, Option.bind_some, hf _ (List.getElem_mem hk), Option.bind_some, hb, br_false, wrap_i64 _ (by omega) (by omega)]; rfl)
    (fun k hk hp => by
      have hb : p l[k] = true := by simpa [hk] using hp
      rw [hs, brd (by omega), atL_nat hk, Option.bind_some, hf _ (List.getElem_mem hk), Option.bind_some, hb, br_true])
    (by rw [hs, brn (by omega), decide_eq_false (by omega)])
  rcases key with ⟨h1, h2⟩ | ⟨k, hk, h1, _, h2⟩
  · exact ⟨(l.length : Int), by rw [none_of (fun k hk => by simpa [hk] using h1 k hk)]; exact h2, by omega⟩
  · exact ⟨(k : Int), by rw [any_of_bad hk (by simpa [hk] using h1)]; exact h2, by omega⟩
theorem i_areRounds_eq {R : List (List Ext)} {many size : Int} (hl : R.length ≤ 1099511627776) (hR : ∀ g ∈ R, g.length ≤ 1099511627776) : i_areRounds R many size = some (rndsB R many size) := by
  unfold i_areRounds rndsB
  by_cases h : (R.length : Int) = many
  · rw [bre h, decide_eq_true h]
    obtain ⟨n, e, hn⟩ := contains_c (c := size) (p := fun g => !rndB size g) (f := i_areRounds_1) (l := R) hl (fun x hx => by
      unfold i_areRounds_1 rndB
      by_cases h2 : (x.length : Int) = size
      · rw [brbe h2, i_areE_eq (hR x hx), Option.bind_some, decide_eq_true h2]; rfl
      · rw [brb h2, decide_eq_false h2]; rfl) (step := slices_IndexFunc_LLi_Ext_Li_Ext_areRounds_1_1_s R ((R.length : Nat) : Int)) (fun t => rfl)
    unfold slices_ContainsFunc_LLi_Ext_Li_Ext_areRounds_1 slices_IndexFunc_LLi_Ext_Li_Ext_areRounds_1
    rw [e, ← not_any_not (rndB size)]
    cases (R.any fun g => !rndB size g)
    · rfl
    · simp only [if_pos, Option.bind_some, alt_inl, decide_eq_true (show n ≥ 0 from hn)]; rfl
  · rw [brne h, decide_eq_false h]; rfl
/-- A query of an opening. -/
def pthB (vars : Int) (t : Setting) (q : Query) (j : Nat) : Bool := decide (((q.Paths.getD j []).length : Int) = vars + t.Rate - 1 - j) && (q.Paths.getD j []).all h32
def qryB (vars : Int) (t : Setting) (q : Query) : Bool := decide ((q.Pairs.length : Int) = 2 * vars) && (q.Pairs.all okEb && (decide ((q.Paths.length : Int) = vars) && allN vars.toNat (pthB vars t q)))
def okO (o : Opening) (vars : Int) (t : Setting) : Bool := decide (1 ≤ vars ∧ vars ≤ 6) && (setB t && (rndsB o.Rounds vars 3 && (decide ((o.Roots.length : Int) = vars - 1) && (o.Roots.all h32 && (okEb o.Last && (decide (0 ≤ o.Nonce ∧ o.Nonce ≤ 65535) && (decide ((o.Queries.length : Int) = t.Queries) && o.Queries.all (qryB vars t))))))))
/-- An opening that a machine has. -/
structure SmO (o : Opening) : Prop where
  rn : o.Rounds.length ≤ 1099511627776
  rr : ∀ g ∈ o.Rounds, g.length ≤ 1099511627776
  ro : o.Roots.length ≤ 1099511627776
  qn : o.Queries.length ≤ 1099511627776
  qp : ∀ q ∈ o.Queries, q.Pairs.length ≤ 1099511627776
  qt : ∀ q ∈ o.Queries, ∀ p ∈ q.Paths, p.length ≤ 1099511627776
theorem atL_gd {l : List (List (List UInt8))} {j : Nat} (h : j < l.length) : atL l (j : Int) = some (l.getD j []) := by rw [atL_nat h]; simp [h]
theorem gd_mem {l : List (List (List UInt8))} {j : Nat} (h : j < l.length) : l.getD j [] ∈ l := by simp [h]
theorem i_isQuery_eq {q : Query} {vars : Int} {t : Setting} (hv : 1 ≤ vars ∧ vars ≤ 6) (ht : setB t = true) (hp : q.Pairs.length ≤ 1099511627776) (hq : ∀ p ∈ q.Paths, p.length ≤ 1099511627776) : i_isQuery q vars t = some (qryB vars t q) := by
  have h2 := setB_in ht
  unfold i_isQuery qryB
  rw [wrap_i64 _ (by omega) (by omega)]
  by_cases c1 : (q.Pairs.length : Int) = 2 * vars
  · rw [brbe c1, decide_eq_true c1, i_areE_eq hp, Option.bind_some]
    cases hb : q.Pairs.all okEb
    · rfl
    · rw [Bool.not_true, br_false]
      by_cases c2 : (q.Paths.length : Int) = vars
      · rw [brbe c2, decide_eq_true c2]
        have hn : vars.toNat = q.Paths.length := by omega
        have key := loop_all (step := i_isQuery_1_s vars q.Paths ((q.Paths.length : Nat) : Int) q.Pairs q.Paths t.Rate t.Queries t.Grind) vars.toNat (pthB vars t q) (fun _ => ()) (e2 := ((vars.toNat : Int), false)) (f := fun _ => some false) (g := fun _ => some true) (x := false) (y := true) (fun k hk hp => by
          have hm := hq _ (gd_mem (l := q.Paths) (j := k) (by omega))
          simp only [pthB, Bool.and_eq_true, decide_eq_true_eq] at hp
          simp only [i_isQuery_1_s]
          rw [brd (by omega), atL_gd (by omega), Option.bind_some, wrap_i64 (vars + t.Rate) (by omega) (by omega), wrap_i64 (vars + t.Rate - 1) (by omega) (by omega), wrap_i64 (vars + t.Rate - 1 - k) (by omega) (by omega), brbe hp.1, i_areH_eq hm, Option.bind_some, hp.2, Bool.not_true, br_false, wrap_i64 _ (by omega) (by omega)]; rfl) (fun k hk hp => by
          have hm := hq _ (gd_mem (l := q.Paths) (j := k) (by omega))
          simp only [i_isQuery_1_s]
          rw [brd (by omega), atL_gd (by omega), Option.bind_some, wrap_i64 (vars + t.Rate) (by omega) (by omega), wrap_i64 (vars + t.Rate - 1) (by omega) (by omega), wrap_i64 (vars + t.Rate - 1 - k) (by omega) (by omega)]
          by_cases c3 : ((q.Paths.getD k []).length : Int) = vars + t.Rate - 1 - k
          · rw [brbe c3, i_areH_eq hm, Option.bind_some]
            rw [pthB, decide_eq_true c3, Bool.true_and] at hp
            rw [hp]; rfl
          · rw [brb c3]) (by
          simp only [i_isQuery_1_s]
          rw [brn (by omega), decide_eq_false (by omega)]) (fun _ => rfl) rfl
        rw [ite_bool] at key
        rw [key]; rfl
      · rw [brb c2, decide_eq_false c2]; rfl
  · rw [brb c1, decide_eq_false c1]; rfl
theorem i_OpeningOK_eq {o : Opening} {vars : Int} {t : Setting} (S : SmO o) : i_OpeningOK o vars t = some (okO o vars t) := by
  unfold i_OpeningOK okO
  rw [i_in_eq, Option.bind_some]
  by_cases hv : 1 ≤ vars ∧ vars ≤ 6
  · rw [decide_eq_true hv, decide_eq_true hv.1, decide_eq_true hv.2, Bool.and_self, br_true, i_SettingOK_eq, Option.bind_some, Bool.true_and]
    cases ht : setB t
    · rfl
    · rw [br_true, i_areRounds_eq S.rn S.rr, Option.bind_some, Bool.true_and]
      cases hr : rndsB o.Rounds vars 3
      · rfl
      · rw [br_true, wrap_i64 _ (by omega) (by omega), Bool.true_and]
        by_cases c1 : (o.Roots.length : Int) = vars - 1
        · rw [bre c1, decide_eq_true c1, i_areH_eq S.ro, Option.bind_some, Bool.true_and]
          cases hh : o.Roots.all h32
          · rfl
          · rw [br_true, i_ExtOK_eq, Option.bind_some, Bool.true_and]
            cases hl : okEb o.Last
            · rfl
            · rw [br_true, i_in_eq, Option.bind_some, Bool.true_and]
              by_cases c2 : 0 ≤ o.Nonce ∧ o.Nonce ≤ 65535
              · rw [decide_eq_true c2, decide_eq_true c2.1, decide_eq_true c2.2, Bool.and_self, br_true, Bool.true_and]
                by_cases c3 : (o.Queries.length : Int) = t.Queries
                · rw [bre c3, decide_eq_true c3, Bool.true_and]
                  obtain ⟨n, e, hn⟩ := contains_c (c := (vars, t.Rate, t.Queries, t.Grind)) (p := fun q => !qryB vars t q) (f := fun x c => (i_are_i_Query_1_OpeningOK_1 x c.1 ⟨c.2.1, c.2.2.1, c.2.2.2⟩).bind fun r => some (r.1, r.2.1, r.2.2.Rate, r.2.2.Queries, r.2.2.Grind)) (l := o.Queries) S.qn (fun x hx => by
                    unfold i_are_i_Query_1_OpeningOK_1 i_OpeningOK_1
                    show ((((i_isQuery x vars t).bind _).bind _).bind _) = _
                    rw [i_isQuery_eq hv ht (S.qp x hx) (S.qt x hx)]; rfl) (step := slices_IndexFunc_Li_Query_i_Query_are_i_Query_1_OpeningOK_1_1_s o.Queries ((o.Queries.length : Nat) : Int)) (fun z => by
                    show slices_IndexFunc_Li_Query_i_Query_are_i_Query_1_OpeningOK_1_1_s _ _ (z, vars, t.Rate, t.Queries, t.Grind) = _
                    simp only [slices_IndexFunc_Li_Query_i_Query_are_i_Query_1_OpeningOK_1_1_s]
                    congr 1
                    cases atL o.Queries z with
                    | none => rfl
                    | some x =>
                      simp only [Option.bind_some]
                      cases i_are_i_Query_1_OpeningOK_1 x vars ⟨t.Rate, t.Queries, t.Grind⟩ <;> rfl)
                  unfold i_are_i_Query_OpeningOK_1 slices_ContainsFunc_Li_Query_i_Query_are_i_Query_1_OpeningOK_1 slices_IndexFunc_Li_Query_i_Query_are_i_Query_1_OpeningOK_1
                  rw [e, ← not_any_not (qryB vars t)]
                  cases (o.Queries.any fun q => !qryB vars t q)
                  · rfl
                  · simp only [if_pos, Option.bind_some, alt_inl, decide_eq_true (show n ≥ 0 from hn)]
                · rw [brne c3, decide_eq_false c3]; rfl
              · rw [decide_eq_false c2]
                have : (decide (0 ≤ o.Nonce) && decide (o.Nonce ≤ 65535)) = false := by
                  rw [← Bool.decide_and]; exact decide_eq_false c2
                rw [this]; rfl
        · rw [brne c1, decide_eq_false c1]; rfl
  · rw [decide_eq_false hv]
    have : (decide (1 ≤ vars) && decide (vars ≤ 6)) = false := by
      rw [← Bool.decide_and]; exact decide_eq_false hv
    rw [this]; rfl
end Go.AI.Fn

set_option linter.unusedVariables false
set_option linter.unusedSimpArgs false
namespace Go.AI.Fn

theorem allN_list {α : Type} (l : List α) (d : α) (P : α → Bool) : allN l.length (fun k => P (l.getD k d)) = l.all P := by
  refine Bool.eq_iff_iff.2 ⟨fun h => List.all_eq_true.2 fun x hx => ?_, fun h => allN_of fun k hk => ?_⟩
  · obtain ⟨k, hk, rfl⟩ := List.getElem_of_mem hx
    have := allN_iff.1 h k hk
    simpa [hk] using this
  · have := List.all_eq_true.1 h _ (List.getElem_mem hk)
    simpa [hk] using this
theorem atL_gdX {α : Type} {l : List α} {d : α} {j : Nat} (h : j < l.length) : atL l (j : Int) = some (l.getD j d) := by rw [atL_nat h]; simp [h]
theorem s_opath_eq {a t9 : Int} {c30 : List (List Ext)} {c31 : List (List UInt8)} {c32 c33 c34 : Int} {c35 : List Query} {c36 c37 c38 : Int} {c39 : List Ext} {C : List (List (List UInt8))} {j : Nat} (hj : j < C.length) (hl : (C.getD j []).length ≤ 1099511627776) {R : Type} {x y : R} :
    (Loop (s_OpeningOK_4_s a t9 (j : Int) c30 c31 c32 c33 c34 c35 c36 c37 c38 c39 C) 0).bind (alt (fun _ => some x) (fun _ => some y)) = some (if (C.getD j []).all h32 = true then y else x) := by
  rw [← allN_list (C.getD j []) [] h32]
  refine loop_all (C.getD j []).length _ (fun _ => ()) (fun k hk hp => ?_) (fun k hk hp => ?_) (e2 := (((C.getD j []).length : Int), false)) ?_ (fun _ => rfl) rfl
  · simp only [s_OpeningOK_4_s]
    simp only [h32, decide_eq_true_eq] at hp
    rw [atL_gd hj, Option.bind_some, brd (by omega), Option.bind_some, atL_gdX (d := []) hk, Option.bind_some, brbe (by omega), wrap_i64 _ (by omega) (by omega)]; rfl
  · simp only [s_OpeningOK_4_s]
    simp only [h32, decide_eq_false_iff_not] at hp
    rw [atL_gd hj, Option.bind_some, brd (by omega), Option.bind_some, atL_gdX (d := []) hk, Option.bind_some, brb (by omega)]
  · simp only [s_OpeningOK_4_s]
    rw [atL_gd hj, Option.bind_some, brn (by omega), decide_eq_false (by omega)]
theorem s_paths_eq {vars : Int} {t : Setting} {q : Query} {t6 : Int} {c19 : List (List Ext)} {c20 : List (List UInt8)} {c21 c22 c23 : Int} {c24 : List Query} {c26 c27 : Int} {c28 : List Ext} (hv : 1 ≤ vars ∧ vars ≤ 6) (ht : setB t = true) (hq : (q.Paths.length : Int) = vars) (hl : ∀ p ∈ q.Paths, p.length ≤ 1099511627776) {R : Type} {x y : R} :
    (Loop (s_OpeningOK_3_s vars t6 c19 c20 c21 c22 c23 c24 t.Rate c26 c27 c28 q.Paths) 0).bind (alt (fun _ => some x) (fun _ => some y)) = some (if allN vars.toNat (pthB vars t q) = true then y else x) := by
  have h2 := setB_in ht
  refine loop_all vars.toNat _ (fun _ => ()) (fun k hk hp => ?_) (fun k hk hp => ?_) (e2 := ((vars.toNat : Int), false)) ?_ (fun _ => rfl) rfl
  · have hm := hl _ (gd_mem (l := q.Paths) (j := k) (by omega))
    simp only [pthB, Bool.and_eq_true, decide_eq_true_eq] at hp
    simp only [s_OpeningOK_3_s]
    rw [brd (by omega), atL_gd (by omega), Option.bind_some, wrap_i64 (vars + t.Rate) (by omega) (by omega), wrap_i64 (vars + t.Rate - 1) (by omega) (by omega), wrap_i64 (vars + t.Rate - 1 - k) (by omega) (by omega), brbe hp.1, s_opath_eq (by omega) hm, if_pos hp.2, wrap_i64 _ (by omega) (by omega)]; rfl
  · have hm := hl _ (gd_mem (l := q.Paths) (j := k) (by omega))
    simp only [s_OpeningOK_3_s]
    rw [brd (by omega), atL_gd (by omega), Option.bind_some, wrap_i64 (vars + t.Rate) (by omega) (by omega), wrap_i64 (vars + t.Rate - 1) (by omega) (by omega), wrap_i64 (vars + t.Rate - 1 - k) (by omega) (by omega)]
    by_cases c3 : ((q.Paths.getD k []).length : Int) = vars + t.Rate - 1 - k
    · rw [pthB, decide_eq_true c3, Bool.true_and] at hp
      rw [brbe c3, s_opath_eq (by omega) hm, if_neg (by rw [hp]; decide)]
    · rw [brb c3]
  · simp only [s_OpeningOK_3_s]
    rw [brn (by omega), decide_eq_false (by omega)]
theorem s_queries_eq {vars : Int} {t : Setting} {o : Opening} {c14 c12 c13 : Int} {c10 : List (List Ext)} {c11 : List (List UInt8)} {c17 c18 : Int} (S : SmO o) (hv : 1 ≤ vars ∧ vars ≤ 6) (ht : setB t = true) {R : Type} {x y : R} :
    (Loop (s_OpeningOK_2_s vars c10 c11 c12 c13 c14 o.Queries t.Rate c17 c18) 0).bind (alt (fun _ => some x) (fun _ => some y)) = some (if o.Queries.all (qryB vars t) = true then y else x) := by
  rw [← allN_list o.Queries ⟨[], []⟩ (qryB vars t)]
  have hQ : ∀ k, k < o.Queries.length → o.Queries.getD k ⟨[], []⟩ ∈ o.Queries := fun k hk => by simp [hk]
  have hqn := S.qn
  refine loop_all o.Queries.length _ (fun k => ((o.Queries.getD k ⟨[], []⟩).Pairs, (o.Queries.getD k ⟨[], []⟩).Paths)) (fun k hk hp => ?_) (fun k hk hp => ?_) (e2 := ((o.Queries.length : Int), false)) ?_ (fun _ => rfl) rfl
  · have hm := hQ k hk
    simp only [qryB, Bool.and_eq_true, decide_eq_true_eq] at hp
    simp only [s_OpeningOK_2_s]
    rw [brd (by omega), atL_gdX (d := ⟨[], []⟩) hk, Option.bind_some, wrap_i64 (2 * vars) (by omega) (by omega), brbe hp.1, s_listE_eq (S.qp _ hm), Option.bind_some, hp.2.1, Bool.not_true, br_false, brbe hp.2.2.1, s_paths_eq hv ht hp.2.2.1 (S.qt _ hm), if_pos hp.2.2.2, wrap_i64 _ (by omega) (by omega)]; rfl
  · have hm := hQ k hk
    simp only [s_OpeningOK_2_s]
    rw [brd (by omega), atL_gdX (d := ⟨[], []⟩) hk, Option.bind_some, wrap_i64 (2 * vars) (by omega) (by omega)]
    rw [qryB] at hp
    by_cases c1 : ((o.Queries.getD k ⟨[], []⟩).Pairs.length : Int) = 2 * vars
    · rw [brbe c1, s_listE_eq (S.qp _ hm), Option.bind_some]
      rw [decide_eq_true c1, Bool.true_and] at hp
      cases hb : (o.Queries.getD k ⟨[], []⟩).Pairs.all okEb
      · rfl
      · rw [Bool.not_true, br_false]
        rw [hb, Bool.true_and] at hp
        by_cases c2 : ((o.Queries.getD k ⟨[], []⟩).Paths.length : Int) = vars
        · rw [decide_eq_true c2, Bool.true_and] at hp
          rw [brbe c2, s_paths_eq hv ht c2 (S.qt _ hm), if_neg (by rw [hp]; decide)]
        · rw [brb c2]
    · rw [brb c1]
  · simp only [s_OpeningOK_2_s]
    rw [brn (by omega), decide_eq_false (by omega)]
theorem s_OpeningOK_eq {o : Opening} {vars : Int} {t : Setting} (S : SmO o) : s_OpeningOK o vars t = some (okO o vars t) := by
  unfold s_OpeningOK okO
  rw [s_in_eq, Option.bind_some]
  by_cases hv : 1 ≤ vars ∧ vars ≤ 6
  · rw [decide_eq_true hv, decide_eq_true hv.1, decide_eq_true hv.2, Bool.and_self, Bool.not_true, br_false, s_SettingOK_eq, Option.bind_some, Bool.true_and]
    cases ht : setB t
    · rfl
    · rw [Bool.not_true, br_false, wrap_i64 _ (by omega) (by omega), Bool.true_and, rndsB]
      by_cases c0 : (o.Rounds.length : Int) = vars
      · rw [brbe c0, decide_eq_true c0, Bool.true_and]
        by_cases c1 : (o.Roots.length : Int) = vars - 1
        · rw [brbe c1, decide_eq_true c1, Bool.true_and]
          by_cases c3 : (o.Queries.length : Int) = t.Queries
          · rw [brbe c3, decide_eq_true c3, Bool.true_and, s_ExtOK_eq, Option.bind_some]
            cases hl : okEb o.Last
            · rw [Bool.not_false, br_true]; cases o.Rounds.all (rndB 3) <;> cases o.Roots.all h32 <;> rfl
            · rw [Bool.not_true, br_false, s_in_eq, Option.bind_some, Bool.true_and]
              by_cases c2 : 0 ≤ o.Nonce ∧ o.Nonce ≤ 65535
              · rw [decide_eq_true c2, decide_eq_true c2.1, decide_eq_true c2.2, Bool.and_self, Bool.not_true, br_false, Bool.true_and]
                have key := loop_all (step := s_OpeningOK_1_s vars o.Rounds o.Roots o.Last.A o.Last.B o.Nonce o.Queries t.Rate t.Queries t.Grind) vars.toNat (fun i => rndB 3 (o.Rounds.getD i []) && (decide (i = 0) || h32 (o.Roots.getD (i - 1) []))) (fun _ => ()) (e2 := ((vars.toNat : Int), false)) (f := fun _ => some false)
                  (g := fun _ => (Loop (s_OpeningOK_2_s vars o.Rounds o.Roots o.Last.A o.Last.B o.Nonce o.Queries t.Rate t.Queries t.Grind) 0).bind (alt (fun e_11 => some false) (fun e_12 => some true))) (x := false) (y := o.Queries.all (qryB vars t)) (fun k hk hp => by
                  simp only [Bool.and_eq_true, Bool.or_eq_true, rndB, h32, decide_eq_true_eq] at hp
                  have hm := S.rr _ (show o.Rounds.getD k [] ∈ o.Rounds by simp [show k < o.Rounds.length by omega])
                  simp only [s_OpeningOK_1_s]
                  rw [brd (by omega), atL_gdX (d := []) (by omega), Option.bind_some, brbe hp.1.1, Option.bind_some, s_listE_eq hm, Option.bind_some, hp.1.2, Bool.not_true, br_false, wrap_i64 ((k : Int) + 1) (by omega) (by omega)]
                  by_cases h0 : k = 0
                  · rw [brn (by omega)]; rfl
                  · rw [brd (by omega), wrap_i64 _ (by omega) (by omega), show (k : Int) - 1 = ((k - 1 : Nat) : Int) by omega, atL_gdX (d := []) (by omega), Option.bind_some, brbe (by have := hp.2.resolve_left h0; omega)]; rfl) (fun k hk hp => by
                  have hm := S.rr _ (show o.Rounds.getD k [] ∈ o.Rounds by simp [show k < o.Rounds.length by omega])
                  simp only [s_OpeningOK_1_s]
                  rw [brd (by omega), atL_gdX (d := []) (by omega), Option.bind_some]
                  by_cases c4 : ((o.Rounds.getD k []).length : Int) = 3
                  · rw [brbe c4, Option.bind_some, s_listE_eq hm, Option.bind_some]
                    cases hb : (o.Rounds.getD k []).all okEb
                    · rfl
                    · rw [rndB, decide_eq_true c4, hb, Bool.true_and, Bool.true_and, Bool.or_eq_false_iff, decide_eq_false_iff_not, h32, decide_eq_false_iff_not] at hp
                      rw [Bool.not_true, br_false, brd (by omega), wrap_i64 _ (by omega) (by omega), show (k : Int) - 1 = ((k - 1 : Nat) : Int) by omega, atL_gdX (d := []) (by omega), Option.bind_some, brb (by omega)]
                  · rw [brb c4]) (by
                  simp only [s_OpeningOK_1_s]
                  rw [brn (by omega), decide_eq_false (by omega)]) (fun _ => rfl) (by rw [s_queries_eq S hv ht, ite_bool])
                rw [key]
                have hall : allN vars.toNat (fun i => rndB 3 (o.Rounds.getD i []) && (decide (i = 0) || h32 (o.Roots.getD (i - 1) []))) = (o.Rounds.all (rndB 3) && o.Roots.all h32) := by
                  rw [← allN_list o.Rounds [], ← allN_list o.Roots []]
                  refine Bool.eq_iff_iff.2 ⟨fun h => ?_, fun h => ?_⟩
                  · rw [Bool.and_eq_true]
                    refine ⟨allN_of fun k hk => ?_, allN_of fun k hk => ?_⟩
                    · have := allN_iff.1 h k (by omega)
                      simp only [Bool.and_eq_true] at this; exact this.1
                    · have := allN_iff.1 h (k + 1) (by omega)
                      simpa using (Bool.and_eq_true _ _ ▸ this).2
                  · rw [Bool.and_eq_true] at h
                    refine allN_of fun k hk => ?_
                    rw [Bool.and_eq_true]
                    refine ⟨allN_iff.1 h.1 k (by omega), ?_⟩
                    by_cases h0 : k = 0
                    · simp [h0]
                    · have := allN_iff.1 h.2 (k - 1) (by omega)
                      simp only [Bool.or_eq_true]; exact .inr this
                rw [hall]
                cases o.Rounds.all (rndB 3) <;> cases o.Roots.all h32 <;> simp
              · have : (decide (0 ≤ o.Nonce) && decide (o.Nonce ≤ 65535)) = false := by
                  rw [← Bool.decide_and]; exact decide_eq_false c2
                rw [decide_eq_false c2, this, Bool.not_false, br_true]
                cases o.Rounds.all (rndB 3) <;> cases o.Roots.all h32 <;> rfl
          · rw [brb c3, decide_eq_false c3]
            cases o.Rounds.all (rndB 3) <;> cases o.Roots.all h32 <;> cases okEb o.Last <;> cases decide (0 ≤ o.Nonce ∧ o.Nonce ≤ 65535) <;> rfl
        · rw [brb c1, decide_eq_false c1]; cases o.Rounds.all (rndB 3) <;> rfl
      · rw [brb c0, decide_eq_false c0]; rfl
  · rw [decide_eq_false hv]
    have : (decide (1 ≤ vars) && decide (vars ≤ 6)) = false := by
      rw [← Bool.decide_and]; exact decide_eq_false hv
    rw [this]; rfl
end Go.AI.Fn

set_option linter.unusedVariables false
set_option linter.unusedSimpArgs false
namespace Go.AI.Fn

/-! ### words, folded by a point's elements; the roots told behind each fold but the last -/
def wdK : Nat → List K → List K → List K
  | _, W, [] => W
  | m, W, r :: P => wdK (m - 1) (fwK (m - 1) W r) P
def wdsK : Nat → List K → List K → List (List K)
  | _, _, [] => []
  | m, W, r :: P => W :: wdsK (m - 1) (fwK (m - 1) W r) P
def rtsK : Nat → List K → List K → List (List UInt8)
  | _, _, [] => []
  | m, W, r :: P => (if P.length = 0 then [] else [wrK (m - 2) (fwK (m - 1) W r)]) ++ rtsK (m - 1) (fwK (m - 1) W r) P
theorem wdsK_len : ∀ (P : List K) (m : Nat) (W : List K), (wdsK m W P).length = P.length
  | [], _, _ => rfl
  | r :: P, m, W => by rw [wdsK, List.length_cons, wdsK_len P, List.length_cons]
theorem rtsK_len : ∀ (P : List K) (m : Nat) (W : List K), (rtsK m W P).length = P.length - 1
  | [], _, _ => rfl
  | r :: P, m, W => by
    rw [rtsK, List.length_append, rtsK_len P, List.length_cons]
    split
    · rw [List.length_nil]; omega
    · rw [List.length_singleton]; omega
theorem rtsK_h : ∀ (P : List K) (m : Nat) (W : List K), Hs (rtsK m W P)
  | [], _, _ => fun x hx => by simp [rtsK] at hx
  | r :: P, m, W => fun x hx => by
    rw [rtsK, List.mem_append] at hx
    rcases hx with hx | hx
    · split at hx
      · cases hx
      · rw [List.mem_singleton] at hx; subst hx; exact wrK_len _ _
    · exact rtsK_h P _ _ x hx
/-- What is done behind each round. -/
def bhO (v ρ : Nat) (W : List K) (P : List K) (s : Source) : Source := if P.length < v then tkM s (wrK (v + ρ - P.length - 1) (wdK (v + ρ) W P)) else s
theorem bhO_ok (v ρ : Nat) (W : List K) : BhOk (bhO v ρ W) := fun P s k h hk => by
  unfold bhO; split
  · exact h.take _
  · exact h.mono (by omega)
theorem s_open_loop {ρ : Nat} {bh : List K → Source → Source} (hb : BhOk bh) (hρ : ρ ≤ 3) {l3 : List Query} {c c2 c3 c8 c9 c10 c11 c13 c14 c15 c16 : Int} {c12 : List UInt8} : ∀ (v : Nat) (Q : List K) (T : List (List K)) (W : List K) (s : Source) (k : Int) (R : List (List Ext)) (Rt : List (List UInt8)) (Ws : List (List Ext)),
    OkT 1 (2 ^ v) T → W.length = 2 ^ (v + ρ) → Few s k → k + 3 * v ≤ 1000 → v ≤ 6 → R.length + v ≤ 1000 → Rt.length + v ≤ 1000 → Ws.length + v ≤ 1000 →
    (∀ (P' : List K) (s' : Source), P' ≠ [] → P'.length ≤ v → bh (Q ++ P') s' = if P'.length < v then tkM s' (wrK (v + ρ - P'.length - 1) (wdK (v + ρ) W P')) else s') →
    Loop (s_l09Open_1_s l3 c c2 c3 c8 c9 c10 c11 c12 c13 c14 c15 c16) (R, Rt, Ws, kvv T, kv W, s.Script, s.At, s.State, s.Count) =
      some (R ++ kvv (pvM 1 bh v Q T s).1, Rt ++ rtsK (v + ρ) W (pvM 1 bh v Q T s).2.1, Ws ++ kvv (wdsK (v + ρ) W (pvM 1 bh v Q T s).2.1), kvv (pvM 1 bh v Q T s).2.2.1, kv (wdK (v + ρ) W (pvM 1 bh v Q T s).2.1), false,
        (pvM 1 bh v Q T s).2.2.2.Script, (pvM 1 bh v Q T s).2.2.2.At, (pvM 1 bh v Q T s).2.2.2.State, (pvM 1 bh v Q T s).2.2.2.Count)
  | 0, Q, T, W, s, k, R, Rt, Ws, hT, hW, hf, hk, hv, h1, h2, h3, hbh => by
    have hl := hT.len
    refine Loop_inr ?_
    simp only [s_l09Open_1_s]
    rw [kvv0 (by omega), Option.bind_some, kv_len, hT.tab 0 (by omega), brn (by decide), decide_eq_false (by decide)]
    simp [pvM, kvv, rtsK, wdsK, wdK]
  | v + 1, Q, T, W, s, k, R, Rt, Ws, hT, hW, hf, hk, hv, h1, h2, h3, hbh => by
    have hl := hT.len
    have hp := p2le v (by omega)
    have hT2 := hT
    rw [two_pow] at hT2
    have hm : v + 1 + ρ - 1 = v + ρ := by omega
    have hW2 : W.length = 2 ^ (v + ρ + 1) := by rw [hW]; congr 1; omega
    have hb1 := hbh [rdM s (rdK 1 T (2 ^ v))] (nsM s (rdK 1 T (2 ^ v))) (by simp) (by simp)
    simp only [wdK, List.length_singleton, hm] at hb1
    have hin : ∀ (P' : List K) (s' : Source), P' ≠ [] → P'.length ≤ v → bh (Q ++ [rdM s (rdK 1 T (2 ^ v))] ++ P') s' = if P'.length < v then tkM s' (wrK (v + ρ - P'.length - 1) (wdK (v + ρ) (fwK (v + ρ) W (rdM s (rdK 1 T (2 ^ v)))) P')) else s' := fun P' s' hne hle => by
      have := hbh (rdM s (rdK 1 T (2 ^ v)) :: P') s' (by simp) (by rw [List.length_cons]; omega)
      rw [List.append_assoc, List.singleton_append, this, List.length_cons, wdK, hm, show v + 1 + ρ - (P'.length + 1) - 1 = v + ρ - P'.length - 1 by omega]
      by_cases hc : P'.length < v
      · rw [if_pos hc, if_pos (by omega)]
      · rw [if_neg hc, if_neg (by omega)]
    have ih := s_open_loop hb hρ (l3 := l3) (c := c) (c2 := c2) (c3 := c3) (c8 := c8) (c9 := c9) (c10 := c10) (c11 := c11) (c12 := c12) (c13 := c13) (c14 := c14) (c15 := c15) (c16 := c16) v (Q ++ [rdM s (rdK 1 T (2 ^ v))]) (bdK (rdM s (rdK 1 T (2 ^ v))) T) (fwK (v + ρ) W (rdM s (rdK 1 T (2 ^ v)))) (bh (Q ++ [rdM s (rdK 1 T (2 ^ v))]) (nsM s (rdK 1 T (2 ^ v)))) (k + 2 + 1)
      (R ++ [kv (rdK 1 T (2 ^ v))]) (Rt ++ if v = 0 then [] else [wrK (v + ρ - 1) (fwK (v + ρ) W (rdM s (rdK 1 T (2 ^ v))))]) (Ws ++ [kv W]) (hT.up _) (fwK_len _ _ _) (hb _ _ _ (ns_few hf (by omega) _) (by omega)) (by omega) (by omega) (by rw [List.length_append, List.length_singleton]; omega)
      (by rw [List.length_append]; split <;> simp only [List.length_nil, List.length_singleton] <;> omega) (by rw [List.length_append, List.length_singleton]; omega) hin
    have hpl := (pv_len (kind := 1) (bh := bh) v (Q ++ [rdM s (rdK 1 T (2 ^ v))]) (bdK (rdM s (rdK 1 T (2 ^ v))) T) (bh (Q ++ [rdM s (rdK 1 T (2 ^ v))]) (nsM s (rdK 1 T (2 ^ v))))).2
    rw [Loop_inl (s' := (R ++ [kv (rdK 1 T (2 ^ v))], (Rt ++ if v = 0 then [] else [wrK (v + ρ - 1) (fwK (v + ρ) W (rdM s (rdK 1 T (2 ^ v))))]), Ws ++ [kv W], kvv (bdK (rdM s (rdK 1 T (2 ^ v))) T), kv (fwK (v + ρ) W (rdM s (rdK 1 T (2 ^ v)))), (bh (Q ++ [rdM s (rdK 1 T (2 ^ v))]) (nsM s (rdK 1 T (2 ^ v)))).Script, (bh (Q ++ [rdM s (rdK 1 T (2 ^ v))]) (nsM s (rdK 1 T (2 ^ v)))).At, (bh (Q ++ [rdM s (rdK 1 T (2 ^ v))]) (nsM s (rdK 1 T (2 ^ v)))).State, (bh (Q ++ [rdM s (rdK 1 T (2 ^ v))]) (nsM s (rdK 1 T (2 ^ v)))).Count)) ?_]
    · rw [ih]
      simp only [pvM, rtsK, wdsK, wdK, hm, hpl, kvv, List.map_cons, List.append_assoc, List.singleton_append, show v + 1 + ρ - 2 = v + ρ - 1 by omega]
    · have hr1 : s_l08Round 1 (kvv T) = some (kv (rdK 1 T (2 ^ v))) := s_round_eq hT2 (by omega)
      simp only [s_l09Open_1_s]
      rw [kvv0 (by omega), Option.bind_some, kv_len, hT.tab 0 (by omega), two_pow, brd (by omega), br_fits (by rw [List.length_append, List.length_singleton]; omega), hr1, Option.bind_some, show Source.mk s.Script s.At s.State s.Count = s from rfl, s_absE hf.1 (by rw [rdK_len]; omega), Option.bind_some, s_drK hf, Option.bind_some]
      dsimp only
      rw [s_bind_eq hT2 (by omega), Option.bind_some, s_foldW_eq _ (by omega) hW2, Option.bind_some, br_fits (by rw [List.length_append, List.length_singleton]; omega), kvv0 (by simp [bdK]; omega), Option.bind_some, kv_len, (hT.up _).tab 0 (by simp [bdK]; omega)]
      cases v with
      | zero =>
        rw [brn (by decide)]
        rw [if_neg (by omega)] at hb1
        rw [hb1]; simp
      | succ u =>
        have hp2 := p2le u (by omega)
        rw [if_pos (by omega)] at hb1
        rw [brd (by rw [two_pow]; omega), s_leaves_eq (k := u + ρ) (by omega) (by rw [fwK_len]; congr 1; omega), Option.bind_some, s_wroot_eq _ _ (by omega), Option.bind_some, s_absorb_eq (ns_few hf (by omega) (rdK 1 T (2 ^ (u + 1)))).1.3 (by rw [wrK_len]; omega), Option.bind_some, br_fits (by rw [List.length_append, List.length_singleton]; omega), hb1, if_neg (by omega), show u + 1 + ρ - 1 = u + ρ by omega]
end Go.AI.Fn

set_option linter.unusedVariables false
set_option linter.unusedSimpArgs false
namespace Go.AI.Fn

/-! ### queries -/
def prK : Nat → List (List K) → Nat → List K
  | _, [], _ => []
  | m, W :: Ws, k => W.getD (k % 2 ^ (m - 1)) 0 :: W.getD (k % 2 ^ (m - 1) + 2 ^ (m - 1)) 0 :: prK (m - 1) Ws (k % 2 ^ (m - 1))
def ptK : Nat → List (List K) → Nat → List (List (List UInt8))
  | _, [], _ => []
  | m, W :: Ws, k => pathM ((lvK (m - 1) W).map hL) (m - 1) (k % 2 ^ (m - 1)) :: ptK (m - 1) Ws (k % 2 ^ (m - 1))
def WsOk : Nat → List (List K) → Prop
  | _, [] => True
  | m, W :: Ws => W.length = 2 ^ m ∧ 1 ≤ m ∧ WsOk (m - 1) Ws
def lastP : Nat → List (List K) → Nat → Nat
  | _, [], k => k
  | m, _ :: Ws, k => lastP (m - 1) Ws (k % 2 ^ (m - 1))
theorem wdsK_ok : ∀ (P : List K) (m : Nat) (W : List K), W.length = 2 ^ m → P.length ≤ m → WsOk m (wdsK m W P)
  | [], _, _, _, _ => trivial
  | r :: P, m, W, h, hm => by
    rw [List.length_cons] at hm
    exact ⟨h, by omega, wdsK_ok P (m - 1) _ (fwK_len _ _ _) (by omega)⟩
theorem s_query_loop {l9 : List (List Ext)} {l10 : List (List UInt8)} {l11 : List Query} {t5 : List Int} {t6 c37 c38 c39 c41 c43 c44 c45 c46 c47 c49 c50 c51 c52 c54 c56 : Int} {c40 c53 : List Ext} {c42 c48 c55 : List UInt8} : ∀ (Ws pre : List (List K)) (m : Nat) (k : Nat) (A : List Ext) (B : List (List (List UInt8))),
    WsOk m Ws → m ≤ 9 → pre.length + Ws.length ≤ 100 → A.length + 2 * Ws.length ≤ 1000 → B.length + Ws.length ≤ 1000 → k ≤ 1000000 →
    Loop (s_l09Open_3_s l9 l10 l11 (kvv (pre ++ Ws)) t5 t6 c37 c38 c39 c40 c41 c42 c43 c44 c45 c46 c47 c48 c49 c50 c51 c52 c53 c54 c55 c56) (A, B, (k : Int), (pre.length : Int)) =
      some (A ++ kv (prK m Ws k), B ++ ptK m Ws k, (lastP m Ws k : Int), ((pre ++ Ws).length : Int), false)
  | [], pre, m, k, A, B, h, hm, h1, h2, h3, hk => by
    refine Loop_inr ?_
    simp only [s_l09Open_3_s, kvv_len]
    rw [brn (by simp), decide_eq_false (by simp)]
    simp [prK, ptK, lastP, kv]
  | W :: Ws, pre, m, k, A, B, h, hm, h1, h2, h3, hk => by
    obtain ⟨hW, hm1, hws⟩ := h
    rw [List.length_cons] at h1 h2 h3
    obtain ⟨q, rfl⟩ : ∃ q, m = q + 1 := ⟨m - 1, by omega⟩
    have hp := p2_9 (q + 1) hm
    have hs : 2 ^ (q + 1) = 2 * 2 ^ q := by rw [Nat.pow_succ]; omega
    have hh := halfW q hm
    have hq : k % 2 ^ q < 2 ^ q := Nat.mod_lt _ (by omega)
    have hlt : (pre.length : Int) < ((pre ++ W :: Ws).length : Int) := by rw [List.length_append, List.length_cons]; omega
    have hget : (kvv (pre ++ W :: Ws))[pre.length]? = some (kv W) := by simp [kvv]
    have hmod : (k : Int).tmod ((2 ^ q : Nat) : Int) = ((k % 2 ^ q : Nat) : Int) := by rw [tmod_nn _ _ (by omega)]; omega
    have ih := s_query_loop (l9 := l9) (l10 := l10) (l11 := l11) (t5 := t5) (t6 := t6) (c37 := c37) (c38 := c38) (c39 := c39) (c40 := c40) (c41 := c41) (c42 := c42) (c43 := c43) (c44 := c44) (c45 := c45) (c46 := c46) (c47 := c47) (c48 := c48) (c49 := c49) (c50 := c50) (c51 := c51) (c52 := c52) (c53 := c53) (c54 := c54) (c55 := c55) (c56 := c56)
      Ws (pre ++ [W]) q (k % 2 ^ q) (A ++ [(W.getD (k % 2 ^ q) 0).1, (W.getD (k % 2 ^ q + 2 ^ q) 0).1]) (B ++ [pathM ((lvK q W).map hL) q (k % 2 ^ q)]) hws (by omega) (by rw [List.length_append, List.length_singleton]; omega)
      (by rw [List.length_append]; simp only [List.length_cons, List.length_nil]; omega) (by rw [List.length_append, List.length_singleton]; omega) (by omega)
    rw [List.append_assoc, List.singleton_append, List.length_append, List.length_singleton] at ih
    rw [Loop_inl (s' := (A ++ [(W.getD (k % 2 ^ q) 0).1, (W.getD (k % 2 ^ q + 2 ^ q) 0).1], B ++ [pathM ((lvK q W).map hL) q (k % 2 ^ q)], ((k % 2 ^ q : Nat) : Int), ((pre.length + 1 : Nat) : Int))) ?_]
    · rw [ih]
      simp [prK, ptK, lastP, kv]
    · simp only [s_l09Open_3_s, kvv_len, Int.toNat_natCast]
      rw [brd hlt, brd (by omega), brd (by omega), hget, Option.bind_some, kv_len, hW, hh, hmod, brd (by omega), brd (by omega), brd (by omega), Option.bind_some, kv_at (by omega), Option.bind_some, brd (by omega), brd (by omega), Option.bind_some, wrap_i64 (((k % 2 ^ q : Nat) : Int) + _) (by omega) (by omega), show ((k % 2 ^ q : Nat) : Int) + ((2 ^ q : Nat) : Int) = ((k % 2 ^ q + 2 ^ q : Nat) : Int) by omega, kv_at (by omega), Option.bind_some,
        br_fits (by rw [List.length_append]; simp only [List.length_cons, List.length_nil]; omega), brd (by omega), brd (by omega), Option.bind_some, s_leaves_eq hm hW, Option.bind_some, s_levels_eq (lvK_short q W) (lvK_len q W) (by omega), Option.bind_some, s_path_eq (by rw [List.length_map, lvK_len]) (by omega) hq, Option.bind_some, br_fits (by rw [List.length_append, List.length_singleton]; omega), wrap_i64 _ (by omega) (by omega)]; rfl
def qsM (m : Nat) (Ws : List (List K)) (p : Int) : Query := ⟨kv (prK m Ws p.toNat), ptK m Ws p.toNat⟩
theorem s_queries_loop {l5 : List (List Ext)} {l6 : List (List UInt8)} {c17 c18 c19 c21 c23 c24 c25 c26 c27 c29 c30 c31 c32 c34 c36 : Int} {c20 c33 : List Ext} {c22 c28 c35 : List UInt8} {Ws : List (List K)} {m : Nat} {pl : List Int} (h : WsOk m Ws) (hm : m ≤ 9) (hl : Ws.length ≤ 100) (hp : pl.length ≤ 1000) (hr : ∀ x ∈ pl, 0 ≤ x ∧ x ≤ 1000000) :
    Loop (s_l09Open_2_s l5 l6 (kvv Ws) pl c17 c18 c19 c20 c21 c22 c23 c24 c25 c26 c27 c28 c29 c30 c31 c32 c33 c34 c35 c36) ([], 0) = some (pl.map (qsM m Ws), (pl.length : Int), false) := by
  refine Loop_for (step := s_l09Open_2_s l5 l6 (kvv Ws) pl c17 c18 c19 c20 c21 c22 c23 c24 c25 c26 c27 c28 c29 c30 c31 c32 c33 c34 c35 c36) (fun j => ((pl.take j).map (qsM m Ws), (j : Int))) pl.length (fun j hj => ?_) ?_
  · have hx := hr _ (List.getElem_mem hj)
    have hq := s_query_loop (l9 := l5) (l10 := l6) (l11 := (pl.take j).map (qsM m Ws)) (t5 := pl) (t6 := (j : Int)) (c37 := c17) (c38 := c18) (c39 := c19) (c40 := c20) (c41 := c21) (c42 := c22) (c43 := c23) (c44 := c24) (c45 := c25) (c46 := c26) (c47 := c27) (c48 := c28) (c49 := c29) (c50 := c30) (c51 := c31) (c52 := c32) (c53 := c33) (c54 := c34) (c55 := c35) (c56 := c36)
      Ws [] m (pl[j].toNat) [] [] h hm (by rw [List.length_nil]; omega) (by rw [List.length_nil]; omega) (by rw [List.length_nil]; omega) (by omega)
    rw [List.nil_append, Int.toNat_of_nonneg hx.1, List.length_nil] at hq
    simp only [s_l09Open_2_s]
    rw [brd (by omega), atL_nat hj, Option.bind_some, show ((0 : Int)) = ((0 : Nat) : Int) from rfl, hq, Option.bind_some, br_fits (by rw [List.length_append, List.length_map, List.length_take, List.length_singleton]; omega), wrap_i64 _ (by omega) (by omega), take_succ hj, List.map_append]; rfl
  · simp only [s_l09Open_2_s]
    rw [brn (by omega), decide_eq_false (by omega), List.take_of_length_le (by omega)]
end Go.AI.Fn

set_option linter.unusedVariables false
set_option linter.unusedSimpArgs false
namespace Go.AI.Fn

variable {kind : Nat}
theorem s_power64 {k : Nat} (hk : k ≤ 6) : s_l04Power ((2 ^ k : Nat) : Int) 64 = some true := by
  have hp := p2le k hk
  unfold s_l04Power
  have key : Loop (s_l04Power_1_s ((2 ^ k : Nat) : Int) 64) 1 = some (.inl ()) :=
    Loop_for (step := s_l04Power_1_s ((2 ^ k : Nat) : Int) 64) (fun j => ((2 ^ j : Nat) : Int)) k (fun j hj => by
      have hj2 := p2le j (by omega)
      have hlt : 2 ^ j < 2 ^ k := Nat.pow_lt_pow_right (by omega) hj
      simp only [s_l04Power_1_s]
      rw [brd (by omega), brne (by omega), wrap_i64 _ (by omega) (by omega), Nat.pow_succ]; simp) (by
      simp only [s_l04Power_1_s]
      rw [brd (by omega), bre rfl])
  rw [key]; rfl
theorem s_TableOK_K {t : List K} {v : Nat} (hv : v ≤ 6) (h : t.length = 2 ^ v) : s_TableOK (kv t) = some true := by
  have hp := p2le v hv
  unfold s_TableOK s_l06Table
  rw [kv_len, brn (by omega), h, s_power64 hv, Option.bind_some, Option.bind_some, br_true, s_listE_eq (by rw [kv_len]; omega), Option.bind_some, allE.2 (kv_ok t)]
/-! ### what is shown -/
end Go.AI.Fn

set_option linter.unusedVariables false
set_option linter.unusedSimpArgs false
namespace Go.AI.Fn

/-- The first word, the rounds, the last value, and the source behind it. -/
def opW (v ρ : Nat) (t : List K) : List K := Enc v ρ (cfK v t)
def opQ (v ρ : Nat) (t P : List K) (s : Source) : List (List K) × List K × List (List K) × Source := pvM 1 (bhO v ρ (opW v ρ t)) v [] [t, eqK P] s
def opL (v ρ : Nat) (t P : List K) (s : Source) : K := ((opQ v ρ t P s).2.2.1.getD 0 []).getD 0 0
def opS (v ρ : Nat) (t P : List K) (s : Source) : Source := rsM (opQ v ρ t P s).2.2.2 [opL v ρ t P s]
def opT (v ρ n : Nat) (t P : List K) (s : Source) : Source := tkM (opS v ρ t P s) (four (n : Int))
def opO (v ρ nq n : Nat) (t P : List K) (s : Source) : Opening :=
  ⟨kvv (opQ v ρ t P s).1, rtsK (v + ρ) (opW v ρ t) (opQ v ρ t P s).2.1, (opL v ρ t P s).1, (n : Int), (plM (drL (opT v ρ n t P s) nq) ((2 ^ (v + ρ - 1) : Nat) : Int)).map (qsM (v + ρ) (wdsK (v + ρ) (opW v ρ t) (opQ v ρ t P s).2.1))⟩
noncomputable def opG (v ρ nq : Nat) (t P : List K) (s : Source) : Option Nat → Opening × Source × Bool
  | none => (⟨[], [], ⟨0, 0⟩, 0, []⟩, opS v ρ t P s, false)
  | some n => (opO v ρ nq n t P s, drS (opT v ρ n t P s) nq, true)
noncomputable def openM (v ρ nq bits : Nat) (t P : List K) (s : Source) : Opening × Source × Bool := opG v ρ nq t P s (grindM (opS v ρ t P s).State bits)
theorem openM_none {v ρ nq bits : Nat} {t P : List K} {s : Source} (h : grindM (opS v ρ t P s).State bits = none) : openM v ρ nq bits t P s = (⟨[], [], ⟨0, 0⟩, 0, []⟩, opS v ρ t P s, false) := by
  rw [openM, h, opG]
theorem openM_some {v ρ nq bits n : Nat} {t P : List K} {s : Source} (h : grindM (opS v ρ t P s).State bits = some n) : openM v ρ nq bits t P s = (opO v ρ nq n t P s, drS (opT v ρ n t P s) nq, true) := by
  rw [openM, h, opG]
theorem opW_len {v ρ : Nat} {t : List K} (ht : t.length = 2 ^ v) : (opW v ρ t).length = 2 ^ (v + ρ) := Enc_len (by rw [cfK_len]; exact ht)
theorem okT2 {v : Nat} {t P : List K} (ht : t.length = 2 ^ v) (hP : P.length = v) : OkT 1 (2 ^ v) [t, eqK P] := ⟨.inl rfl, rfl, fun i hi => by
  have hi2 : i < 2 := hi
  match i, hi2 with
  | 0, _ => exact ht
  | 1, _ => exact (eqK_len P).trans (by rw [hP])⟩
variable {v ρ : Nat} {t P : List K} {s : Source} {k : Int}
theorem opQ_few (hf : Few s k) (hk : k + 3 * v ≤ 900) : Few (opQ v ρ t P s).2.2.2 (k + 3 * v) := pv_few (bhO_ok v ρ _) v [] _ s k hf (by omega)
theorem opS_few (hf : Few s k) (hk : k + 3 * v ≤ 900) : Few (opS v ρ t P s) (k + 3 * v + 1) := (opQ_few hf hk).take _
theorem opT_few (hf : Few s k) (hk : k + 3 * v ≤ 900) (n : Nat) : Few (opT v ρ n t P s) (k + 3 * v + 1 + 1) := (opS_few hf hk).take _
theorem plM_ok {l : List Ext} (h : OkEs l) {m : Nat} (h1 : 1 ≤ m) (h2 : m ≤ 1000000) : ∀ x ∈ plM l (m : Int), 0 ≤ x ∧ x ≤ 1000000 := fun x hx => by
  obtain ⟨y, hy, rfl⟩ := List.mem_map.1 hx
  have h0 := Int.emod_nonneg y.A (b := (m : Int)) (by omega)
  have h3 := Int.emod_lt_of_pos y.A (b := (m : Int)) (by omega)
  omega
theorem s_open_eq {st : Setting} {nq bits : Nat} (ht : t.length = 2 ^ v) (hP : P.length = v) (hv1 : 1 ≤ v) (hv : v ≤ 6) (hρ : ρ ≤ 3) (hq1 : nq ≤ 8) (hb : bits ≤ 12) (e1 : st.Rate = (ρ : Int)) (e2 : st.Queries = (nq : Int)) (e3 : st.Grind = (bits : Int)) (hf : Few s k) (hk : k ≤ 800) :
    s_l09Open (kv t) (kv P) st s = some (openM v ρ nq bits t P s) := by
  have hk0 : 0 ≤ k := by have := hf.2; have := hf.1.4; omega
  have hp := p2_6 v hv
  have hkk : k + 3 * v ≤ 900 := by omega
  have hfQ := opQ_few (ρ := ρ) (t := t) (P := P) hf hkk
  have hfS := opS_few (ρ := ρ) (t := t) (P := P) hf hkk
  have hloop := s_open_loop (bh := bhO v ρ (opW v ρ t)) (bhO_ok v ρ _) hρ (l3 := []) (c := (ρ : Int)) (c2 := (nq : Int)) (c3 := (bits : Int)) (c8 := 0) (c9 := 0) (c10 := 0) (c11 := 0) (c12 := []) (c13 := 0) (c14 := 0) (c15 := 0) (c16 := 0)
    v [] [t, eqK P] (opW v ρ t) s k [] [] [] (okT2 ht hP) (opW_len ht) hf (by omega) hv (by rw [List.length_nil]; omega) (by rw [List.length_nil]; omega) (by rw [List.length_nil]; omega) (fun P' s' _ _ => rfl)
  have hfin : OkT 1 1 (opQ v ρ t P s).2.2.1 := pv_okT v _ _ _ (okT2 ht hP)
  have hrl := (pv_len (kind := 1) (bh := bhO v ρ (opW v ρ t)) v [] [t, eqK P] s).2
  have hpo := wdsK_ok (pvM 1 (bhO v ρ (opW v ρ t)) v [] [t, eqK P] s).2.1 (v + ρ) (opW v ρ t) (opW_len ht) (by omega)
  have hwl := wdsK_len (pvM 1 (bhO v ρ (opW v ρ t)) v [] [t, eqK P] s).2.1 (v + ρ) (opW v ρ t)
  have hT0 : (opQ v ρ t P s).2.2.1.length = 2 := hfin.len
  unfold s_l09Open
  rw [List.nil_append, br_fits (by rw [kv_len]; omega), s_eqTable_eq (kv_ok P) (by rw [kv_len]; omega), Option.bind_some, eqT_kv, e1, s_word_eq ht hv (by omega), Option.bind_some, e2, e3]
  rw [show ([kv t, kv (eqK P)] : List (List Ext)) = kvv [t, eqK P] from rfl, show Enc v ρ (cfK v t) = opW v ρ t from rfl, hloop, Option.bind_some]
  simp only [List.nil_append]
  rw [show pvM 1 (bhO v ρ (opW v ρ t)) v [] [t, eqK P] s = opQ v ρ t P s from rfl] at hrl hpo hwl ⊢
  rw [kvv0 (by omega), Option.bind_some, kv0 (by rw [hfin.tab 0 (by omega)]; omega), Option.bind_some,
    show (Source.mk (opQ v ρ t P s).2.2.2.Script (opQ v ρ t P s).2.2.2.At (opQ v ρ t P s).2.2.2.State (opQ v ρ t P s).2.2.2.Count) = (opQ v ρ t P s).2.2.2 from rfl,
    show ([(((opQ v ρ t P s).2.2.1.getD 0 []).getD 0 0).1] : List Ext) = kv [opL v ρ t P s] from rfl, s_absE hfQ.1 (by simp), Option.bind_some, show rsM (opQ v ρ t P s).2.2.2 [opL v ρ t P s] = opS v ρ t P s from rfl, s_grind_eq hfS.1.3 hb, Option.bind_some]
  cases hg : grindM (opS v ρ t P s).State bits with
  | none => rw [openM_none hg]; rfl
  | some n =>
    have hfT := opT_few (ρ := ρ) (t := t) (P := P) hf hkk n
    rw [openM_some hg]
    dsimp only
    rw [Bool.not_true, br_false, number4, Option.bind_some, s_absorb_eq hfS.1.3 (by rw [four_len]; omega), Option.bind_some, show tkM (opS v ρ t P s) (four (n : Int)) = opT v ρ n t P s from rfl, brd (by rw [kvv_len, hwl]; omega)]
    obtain ⟨q, hq⟩ : ∃ q, v + ρ = q + 1 := ⟨v + ρ - 1, by omega⟩
    have hgt : (kvv (wdsK (v + ρ) (opW v ρ t) (opQ v ρ t P s).2.1))[0]? = some (kv (opW v ρ t)) := by
      match hL : (opQ v ρ t P s).2.1, hrl with
      | r :: L, _ => rfl
      | [], h => exfalso; rw [List.length_nil] at h; omega
    have hpq := p2_9 q (by omega)
    have hpl := plM_ok (drL_ok hfT (by omega) (n := nq) (by omega)) (m := 2 ^ q) (by omega) (by omega)
    have hwl2 : (wdsK (q + 1) (opW v ρ t) (opQ v ρ t P s).2.1).length ≤ 100 := by rw [wdsK_len]; omega
    rw [hq] at hpo
    rw [hgt, Option.bind_some, kv_len, opW_len ht, hq, halfW q (by omega), s_points_eq hfT (by omega) (by omega) (by omega), Option.bind_some]
    rw [s_queries_loop hpo (by omega) hwl2 (by rw [plM, List.length_map, drL_len]; omega) hpl, Option.bind_some, opO, hq, Nat.add_sub_cancel]; rfl
/-! ### right lengths -/
theorem prK_len : ∀ (Ws : List (List K)) (m k : Nat), (prK m Ws k).length = 2 * Ws.length
  | [], _, _ => rfl
  | W :: Ws, m, k => by rw [prK, List.length_cons, List.length_cons, prK_len Ws, List.length_cons]; omega
theorem ptK_ok : ∀ (Ws : List (List K)) (m k : Nat), m ≤ 9 → WsOk m Ws → (ptK m Ws k).length = Ws.length ∧ ∀ j, j < Ws.length → ((ptK m Ws k).getD j []).length = m - 1 - j ∧ Hs ((ptK m Ws k).getD j [])
  | [], _, _, _, _ => ⟨rfl, fun j hj => absurd hj (by simp)⟩
  | W :: Ws, m, k, hm, h => by
    obtain ⟨h1, h2, h3⟩ := h
    have ih := ptK_ok Ws (m - 1) (k % 2 ^ (m - 1)) (by omega) h3
    have hp := p2_9 (m - 1) (by omega)
    refine ⟨by rw [ptK, List.length_cons, ih.1, List.length_cons], fun j hj => ?_⟩
    rw [List.length_cons] at hj
    cases j with
    | zero => exact ⟨(pathM_len _ _ _).trans (by omega), path_h (lvK_len _ _) (Nat.mod_lt _ (by omega))⟩
    | succ j =>
      have := ih.2 j (by omega)
      exact ⟨this.1.trans (by omega), this.2⟩
theorem h32_all {l : List Tx} (h : Hs l) : l.all h32 = true := List.all_eq_true.2 fun x hx => by simp only [h32, decide_eq_true_eq]; exact h x hx
theorem opQ_len (v ρ : Nat) (t P : List K) (s : Source) : (opQ v ρ t P s).1.length = v ∧ (opQ v ρ t P s).2.1.length = v := pv_len v _ _ _
theorem qsM_ok {Ws : List (List K)} {st : Setting} {p : Int} (hW : WsOk (v + ρ) Ws) (hl : Ws.length = v) (hm : v + ρ ≤ 9) (e1 : st.Rate = (ρ : Int)) (hv : 1 ≤ v) : qryB (v : Int) st (qsM (v + ρ) Ws p) = true := by
  have h1 := ptK_ok Ws (v + ρ) p.toNat hm hW
  have h2 : ((kv (prK (v + ρ) Ws p.toNat)).length : Int) = 2 * (v : Int) := by rw [kv_len, prK_len, hl]; omega
  have h3 : (((ptK (v + ρ) Ws p.toNat).length : Nat) : Int) = (v : Int) := by rw [h1.1, hl]
  unfold qryB qsM
  dsimp only
  rw [decide_eq_true h2, Bool.true_and, allE.2 (kv_ok _), Bool.true_and, decide_eq_true h3, Bool.true_and]
  refine allN_of fun j hj => ?_
  have hj2 := h1.2 j (by omega)
  unfold pthB
  dsimp only
  rw [h32_all hj2.2, Bool.and_true, decide_eq_true_eq, hj2.1, e1]; omega
theorem opO_ok {st : Setting} {nq n : Nat} (ht : t.length = 2 ^ v) (hv1 : 1 ≤ v) (hv : v ≤ 6) (hρ : ρ ≤ 3) (hst : setB st = true) (e1 : st.Rate = (ρ : Int)) (e2 : st.Queries = (nq : Int)) (hn : n < 65536) : okO (opO v ρ nq n t P s) (v : Int) st = true := by
  have hl := opQ_len v ρ t P s
  have hw := wdsK_ok (opQ v ρ t P s).2.1 (v + ρ) (opW v ρ t) (opW_len ht) (by omega)
  have hwl := wdsK_len (opQ v ρ t P s).2.1 (v + ρ) (opW v ρ t)
  have h1 : rndsB (kvv (opQ v ρ t P s).1) (v : Int) 3 = true := by
    unfold rndsB
    rw [kvv_len, hl.1, decide_eq_true rfl, Bool.true_and]
    refine List.all_eq_true.2 fun x hx => ?_
    obtain ⟨g, hg, rfl⟩ := List.mem_map.1 hx
    have := pv_rlen v _ _ _ g hg
    unfold rndB
    rw [kv_len, this, allE.2 (kv_ok g)]; rfl
  have h2 : (((rtsK (v + ρ) (opW v ρ t) (opQ v ρ t P s).2.1).length : Nat) : Int) = (v : Int) - 1 := by rw [rtsK_len, hl.2]; omega
  have h3 : ((((plM (drL (opT v ρ n t P s) nq) ((2 ^ (v + ρ - 1) : Nat) : Int)).map (qsM (v + ρ) (wdsK (v + ρ) (opW v ρ t) (opQ v ρ t P s).2.1))).length : Nat) : Int) = st.Queries := by
    rw [List.length_map, plM, List.length_map, drL_len, e2]
  unfold okO opO
  dsimp only
  rw [decide_eq_true (by omega), hst, h1, decide_eq_true h2, h32_all (rtsK_h _ _ _), okEb_iff.2 (Subtype.property _), decide_eq_true (by omega), decide_eq_true h3]
  simp only [Bool.true_and]
  refine List.all_eq_true.2 fun x hx => ?_
  obtain ⟨p, _, rfl⟩ := List.mem_map.1 hx
  exact qsM_ok hw (by omega) (by omega) e1 hv1
theorem s_OpenTable_eq {st : Setting} {nq bits : Nat} (ht : t.length = 2 ^ v) (hP : P.length = v) (hv1 : 1 ≤ v) (hv : v ≤ 6) (hst : setB st = true) (e1 : st.Rate = (ρ : Int)) (e2 : st.Queries = (nq : Int)) (e3 : st.Grind = (bits : Int)) (hf : Few s k) (hk : k ≤ 800) :
    s_OpenTable (kv t) (kv P) st s = some (match grindM (opS v ρ t P s).State bits with | none => (⟨[], [], ⟨0, 0⟩, 0, []⟩, ⟨[], 0, [], 0⟩, 14) | some n => (opO v ρ nq n t P s, drS (opT v ρ n t P s) nq, 0)) := by
  have hk0 : 0 ≤ k := by have := hf.2; have := hf.1.4; omega
  have hp := p2_6 v hv
  have hs2 := setB_in hst
  have hlen := hf.1.1
  have hg : 2 ≤ 2 ^ v := by
    obtain ⟨u, rfl⟩ : ∃ u, v = u + 1 := ⟨v - 1, by omega⟩
    have := p2_6 u (by omega)
    rw [Nat.pow_succ]; omega
  have hsp : s_l05Spent s 100 = some false := spent_no hf (by omega) (n := 100) (by omega)
  have hop := s_open_eq (ρ := ρ) (nq := nq) (bits := bits) ht hP hv1 hv (by omega) (by omega) (by omega) e1 e2 e3 hf hk
  unfold s_OpenTable s_l06Point s_l09Vars
  rw [kv_len, kv_len, brn (by omega), brn (by omega), s_TableOK_K hv ht, Option.bind_some, Bool.not_true, br_false, brd (by omega), s_listE_eq (by rw [kv_len]; omega), Option.bind_some, allE.2 (kv_ok P), Option.bind_some, Bool.not_true, br_false, s_SettingOK_eq, Option.bind_some, hst, Bool.not_true, br_false, s_SourceOK_t hf.1, Option.bind_some, Bool.not_true, br_false,
    ht, s_power64 hv, Option.bind_some, br_true, Option.bind_some, decide_eq_true (by omega), Bool.not_true, br_false, hP, wrap_u64 _ (by omega) (by omega), brd (by omega), shl1 (by omega), brbe rfl, hsp, Option.bind_some, br_false, hop, Option.bind_some]
  cases hg : grindM (opS v ρ t P s).State bits with
  | none => rw [openM_none hg]; rfl
  | some n =>
    rw [openM_some hg]
    dsimp only
    have hT := (opT_few (v := v) (ρ := ρ) (t := t) (P := P) hf (by omega) n).1.1
    rw [Bool.not_true, br_false, s_own_eq (by rw [drS_scr]; omega), Option.bind_some]
end Go.AI.Fn

set_option linter.unusedVariables false
set_option linter.unusedSimpArgs false
namespace Go.AI.Fn

theorem fm_le {α : Type} {f : α → List UInt8} {c : Nat} : ∀ {l : List α}, (∀ x ∈ l, (f x).length ≤ c) → (l.flatMap f).length ≤ l.length * c
  | [], _ => by simp
  | x :: l, h => by
    have h1 := h x (by simp)
    have h2 := fm_le (l := l) fun y hy => h y (by simp [hy])
    rw [List.flatMap_cons, List.length_append, List.length_cons, Nat.succ_mul]; omega
theorem fm_eq {α : Type} {f : α → List UInt8} {c : Nat} : ∀ {l : List α}, (∀ x ∈ l, (f x).length = c) → (l.flatMap f).length = l.length * c
  | [], _ => by simp
  | x :: l, h => by
    have h1 := h x (by simp)
    have h2 := fm_eq (l := l) fun y hy => h y (by simp [hy])
    rw [List.flatMap_cons, List.length_append, List.length_cons, Nat.succ_mul]; omega
theorem fm_take {α : Type} {f : α → List UInt8} {l : List α} {j : Nat} (hj : j < l.length) : (l.take (j + 1)).flatMap f = (l.take j).flatMap f ++ f l[j] := by
  rw [take_succ hj, List.flatMap_append, List.flatMap_singleton]
/-- A loop that writes one element's bytes after the other's. -/
theorem cat_loop {α : Type} {l : List α} {f : α → List UInt8} {c : Nat} {step : List UInt8 × Int → Option ((List UInt8 × Int) ⊕ (List UInt8 × Int × Bool))} (a0 : List UInt8) (hc : ∀ x ∈ l, (f x).length ≤ c) (hM : a0.length + l.length * c ≤ 1000000)
    (hs : ∀ (j : Nat) (hj : j < l.length) (acc : List UInt8), acc.length + c ≤ 1000000 → step (acc, (j : Int)) = some (.inl (acc ++ f l[j], ((j + 1 : Nat) : Int)))) (he : ∀ acc, step (acc, (l.length : Int)) = some (.inr (acc, (l.length : Int), false))) :
    Loop step (a0, 0) = some (a0 ++ l.flatMap f, (l.length : Int), false) := by
  have key := Loop_for (step := step) (fun j => (a0 ++ (l.take j).flatMap f, (j : Int))) l.length (e := (a0 ++ l.flatMap f, (l.length : Int), false)) (fun j hj => ?_) ?_
  · have key' : Loop step (a0 ++ [], 0) = _ := key
    rwa [List.append_nil] at key'
  · have h1 := fm_le (l := l.take j) (f := f) (c := c) fun x hx => hc x (List.mem_of_mem_take hx)
    have h2 : (l.take j).length * c + c ≤ l.length * c := by
      rw [List.length_take, Nat.min_eq_left (by omega), ← Nat.succ_mul]; exact Nat.mul_le_mul_right _ hj
    rw [hs j hj _ (by rw [List.length_append]; omega), fm_take hj, List.append_assoc]
  · rw [he, List.take_length]
def flB (P : List (List (List UInt8))) : List UInt8 := P.flatMap fun x => x.flatMap id
def qB (q : Query) : List UInt8 := q.Pairs.flatMap e8 ++ flB q.Paths
def oB (o : Opening) : List UInt8 := (o.Rounds.flatMap fun g => g.flatMap e8) ++ o.Roots.flatMap id ++ [o.Last].flatMap e8 ++ four o.Nonce ++ o.Queries.flatMap qB
/-- Bounds of an opening of right lengths. -/
structure BoO (o : Opening) : Prop where
  rn : o.Rounds.length ≤ 6
  rr : ∀ g ∈ o.Rounds, g.length ≤ 3
  ro : o.Roots.length ≤ 6
  rh : ∀ x ∈ o.Roots, x.length ≤ 32
  qn : o.Queries.length ≤ 8
  qp : ∀ q ∈ o.Queries, q.Pairs.length ≤ 12
  qt : ∀ q ∈ o.Queries, q.Paths.length ≤ 6
  qq : ∀ q ∈ o.Queries, ∀ p ∈ q.Paths, p.length ≤ 8 ∧ ∀ x ∈ p, x.length ≤ 32
theorem h32_iff {l : List (List UInt8)} : l.all h32 = true ↔ ∀ x ∈ l, x.length = 32 := by simp [List.all_eq_true, h32]
theorem qry_parts {v : Nat} {t : Setting} {q : Query} (h : qryB (v : Int) t q = true) : q.Pairs.length = 2 * v ∧ OkEs q.Pairs ∧ q.Paths.length = v ∧ ∀ j, j < v → (((q.Paths.getD j []).length : Nat) : Int) = v + t.Rate - 1 - j ∧ ∀ x ∈ q.Paths.getD j [], x.length = 32 := by
  unfold qryB at h
  simp only [Bool.and_eq_true, decide_eq_true_eq] at h
  refine ⟨by omega, allE.1 h.2.1, by omega, fun j hj => ?_⟩
  have := allN_iff.1 h.2.2.2 j (by omega)
  unfold pthB at this
  simp only [Bool.and_eq_true, decide_eq_true_eq] at this
  exact ⟨this.1, h32_iff.1 this.2⟩
structure OkO (o : Opening) (v : Nat) (t : Setting) : Prop where
  v1 : 1 ≤ v ∧ v ≤ 6
  st : setB t = true
  rn : o.Rounds.length = v
  rr : ∀ g ∈ o.Rounds, g.length = 3 ∧ OkEs g
  ro : o.Roots.length = v - 1
  rh : ∀ x ∈ o.Roots, x.length = 32
  la : okE o.Last
  no : 0 ≤ o.Nonce ∧ o.Nonce ≤ 65535
  qn : (o.Queries.length : Int) = t.Queries
  qq : ∀ q ∈ o.Queries, qryB (v : Int) t q = true
theorem okO_parts {o : Opening} {v : Nat} {t : Setting} (h : okO o (v : Int) t = true) : OkO o v t := by
  unfold okO rndsB at h
  simp only [Bool.and_eq_true, decide_eq_true_eq, List.all_eq_true] at h
  obtain ⟨h1, h2, ⟨h3, h4⟩, h5, h6, h7, h8, h9, h10⟩ := h
  refine ⟨by omega, h2, by omega, fun g hg => ?_, by omega, fun x hx => ?_, okEb_iff.1 h7, h8, h9, h10⟩
  · have := h4 g hg
    unfold rndB at this
    simp only [Bool.and_eq_true, decide_eq_true_eq] at this
    exact ⟨by omega, allE.1 this.2⟩
  · have := h6 x hx
    simpa [h32] using this
theorem OkO.path {o : Opening} {v : Nat} {t : Setting} (h : OkO o v t) {q : Query} (hq : q ∈ o.Queries) {p : List (List UInt8)} (hp : p ∈ q.Paths) : p.length ≤ 8 ∧ ∀ x ∈ p, x.length = 32 := by
  obtain ⟨_, _, h3, h4⟩ := qry_parts (h.qq q hq)
  obtain ⟨j, hj, rfl⟩ := List.getElem_of_mem hp
  have := h4 j (by omega)
  have hs := setB_in h.st
  have hv := h.v1
  rw [show q.Paths.getD j [] = q.Paths[j] by simp [hj]] at this
  exact ⟨by omega, this.2⟩
theorem OkO.bo {o : Opening} {v : Nat} {t : Setting} (h : OkO o v t) : BoO o := by
  have hv := h.v1
  have hs := setB_in h.st
  have hn := h.qn
  have hro := h.ro
  refine ⟨by rw [h.rn]; omega, fun g hg => by rw [(h.rr g hg).1]; omega, by omega, fun x hx => by rw [h.rh x hx]; omega, by omega, fun q hq => ?_, fun q hq => ?_, fun q hq p hp => ?_⟩
  · have := (qry_parts (h.qq q hq)).1; omega
  · have := (qry_parts (h.qq q hq)).2.2.1; omega
  · have := h.path hq hp
    exact ⟨this.1, fun x hx => by rw [this.2 x hx]; omega⟩
theorem BoO.sm {o : Opening} (h : BoO o) : SmO o := ⟨by have := h.rn; omega, fun g hg => by have := h.rr g hg; omega, by have := h.ro; omega, by have := h.qn; omega, fun q hq => by have := h.qp q hq; omega, fun q hq p hp => by have := (h.qq q hq p hp).1; omega⟩
theorem BoO.pth {o : Opening} (h : BoO o) {q : Query} (hq : q ∈ o.Queries) {p : List (List UInt8)} (hp : p ∈ q.Paths) : (p.flatMap id).length ≤ 256 := by
  have h1 := h.qq q hq p hp
  have := fm_le (f := id) (c := 32) h1.2
  have := h1.1; omega
theorem BoO.pths {o : Opening} (h : BoO o) {q : Query} (hq : q ∈ o.Queries) : (flB q.Paths).length ≤ 1536 := by
  have := fm_le (f := fun x : List (List UInt8) => x.flatMap id) (c := 256) fun p hp => h.pth hq hp
  have h2 := h.qt q hq
  unfold flB; omega
theorem BoO.qry {o : Opening} (h : BoO o) {q : Query} (hq : q ∈ o.Queries) : (qB q).length ≤ 1632 := by
  have h1 := h.pths hq
  have h2 := h.qp q hq
  unfold qB
  rw [List.length_append, e8s_len]; omega
theorem BoO.rnd {o : Opening} (h : BoO o) {g : List Ext} (hg : g ∈ o.Rounds) : (g.flatMap e8).length ≤ 24 := by
  have := h.rr g hg
  rw [e8s_len]; omega
theorem gdm {α : Type} {l : List α} {j : Nat} (h : j < l.length) : l[j] ∈ l := List.getElem_mem h
theorem i_Obytes_eq {o : Opening} (h : BoO o) : i_Opening_bytes o = some (oB o) := by
  have h1 := h.rn
  have h3 := h.ro
  have h5 := h.qn
  unfold i_Opening_bytes
  have k1 := cat_loop (l := o.Rounds) (f := fun g => g.flatMap e8) (c := 24) (step := i_Opening_bytes_1_s o.Rounds ((o.Rounds.length : Nat) : Int) o.Rounds o.Roots o.Last.A o.Last.B o.Nonce o.Queries) [] (fun g hg => h.rnd hg) (by rw [List.length_nil]; omega) (fun j hj acc ha => by
    have hb := h.rnd (gdm hj)
    simp only [i_Opening_bytes_1_s]
    rw [brd (by omega), atL_nat hj, Option.bind_some, i_extBytes_eq (by have := h.rr _ (gdm hj); omega), Option.bind_some, br_fits (by rw [List.length_append]; omega), wrap_i64 _ (by omega) (by omega)]; rfl) (fun acc => by
    simp only [i_Opening_bytes_1_s]
    rw [brn (by omega), decide_eq_false (by omega)])
  rw [k1, Option.bind_some]
  have l1 := fm_le (l := o.Rounds) (f := fun g : List Ext => g.flatMap e8) (c := 24) (fun g hg => h.rnd hg)
  generalize hA : ([] : List UInt8) ++ o.Rounds.flatMap (fun g => g.flatMap e8) = A
  have lA : A.length ≤ 144 := by rw [← hA, List.nil_append]; omega
  have k2 := cat_loop (l := o.Roots) (f := id) (c := 32) (step := i_Opening_bytes_2_s o.Roots ((o.Roots.length : Nat) : Int) o.Rounds o.Roots o.Last.A o.Last.B o.Nonce o.Queries) A (fun x hx => h.rh x hx) (by omega) (fun j hj acc ha => by
    have hb := h.rh _ (gdm hj)
    simp only [i_Opening_bytes_2_s]
    rw [brd (by omega), atL_nat hj, Option.bind_some, br_fits (by rw [List.length_append]; omega), wrap_i64 _ (by omega) (by omega)]; rfl) (fun acc => by
    simp only [i_Opening_bytes_2_s]
    rw [brn (by omega), decide_eq_false (by omega)])
  rw [k2, Option.bind_some]
  have l2 := fm_le (l := o.Roots) (f := id) (c := 32) (fun x hx => h.rh x hx)
  dsimp only
  rw [i_extBytes_eq (by simp), Option.bind_some, br_fits (by rw [List.length_append, List.length_append, e8s_len, List.length_singleton]; omega), i_fouro_eq (by rw [List.length_append, List.length_append, e8s_len, List.length_singleton]; omega), Option.bind_some]
  have k3 := cat_loop (l := o.Queries) (f := qB) (c := 1632) (step := i_Opening_bytes_3_s o.Queries ((o.Queries.length : Nat) : Int) o.Rounds o.Roots o.Last.A o.Last.B o.Nonce o.Queries) (A ++ o.Roots.flatMap id ++ [o.Last].flatMap e8 ++ four o.Nonce) (fun q hq => h.qry hq)
    (by simp only [List.length_append, e8s_len, List.length_singleton, four_len]; omega) (fun j hj acc ha => by
    have hm := gdm hj
    have hp := h.qp _ hm
    have ht := h.qt _ hm
    have hql := h.qry hm
    have k4 := cat_loop (l := (o.Queries[j]).Paths) (f := fun x => x.flatMap id) (c := 256) (step := i_Opening_bytes_4_s o.Queries ((o.Queries.length : Nat) : Int) (j : Int) (o.Queries[j]).Paths (((o.Queries[j]).Paths.length : Nat) : Int) o.Rounds o.Roots o.Last.A o.Last.B o.Nonce o.Queries (o.Queries[j]).Pairs (o.Queries[j]).Paths) (acc ++ (o.Queries[j]).Pairs.flatMap e8) (fun p hpp => h.pth hm hpp)
      (by rw [List.length_append, e8s_len]; omega) (fun i hi ac2 ha2 => by
      have hpm := gdm hi
      have hpl := (h.qq _ hm _ hpm).1
      have k5 := cat_loop (l := ((o.Queries[j]).Paths[i])) (f := id) (c := 32) (step := i_Opening_bytes_5_s o.Queries ((o.Queries.length : Nat) : Int) (j : Int) (o.Queries[j]).Paths (((o.Queries[j]).Paths.length : Nat) : Int) (i : Int) ((o.Queries[j]).Paths[i]) ((((o.Queries[j]).Paths[i]).length : Nat) : Int) o.Rounds o.Roots o.Last.A o.Last.B o.Nonce o.Queries (o.Queries[j]).Pairs (o.Queries[j]).Paths) ac2 (fun x hx => (h.qq _ hm _ hpm).2 x hx)
        (by omega) (fun m hm2 ac3 ha3 => by
        have hx := (h.qq _ hm _ hpm).2 _ (gdm hm2)
        simp only [i_Opening_bytes_5_s]
        rw [brd (by omega), atL_nat hm2, Option.bind_some, br_fits (by rw [List.length_append]; omega), wrap_i64 _ (by omega) (by omega)]; rfl) (fun ac3 => by
        simp only [i_Opening_bytes_5_s]
        rw [brn (by omega), decide_eq_false (by omega)])
      simp only [i_Opening_bytes_4_s]
      rw [brd (by omega), atL_nat hi, Option.bind_some, k5, Option.bind_some, wrap_i64 _ (by omega) (by omega)]; rfl) (fun ac2 => by
      simp only [i_Opening_bytes_4_s]
      rw [brn (by omega), decide_eq_false (by omega)])
    simp only [i_Opening_bytes_3_s]
    rw [brd (by omega), atL_nat hj, Option.bind_some, i_extBytes_eq (by omega), Option.bind_some, br_fits (by rw [List.length_append, e8s_len]; omega), k4, Option.bind_some, wrap_i64 _ (by omega) (by omega), List.append_assoc]; rfl) (fun acc => by
    simp only [i_Opening_bytes_3_s]
    rw [brn (by omega), decide_eq_false (by omega)])
  rw [k3, Option.bind_some, ← hA]; rfl
theorem s_Obytes_eq {o : Opening} (h : BoO o) : s_l09Bytes o = some (oB o) := by
  have h1 := h.rn
  have h3 := h.ro
  have h5 := h.qn
  unfold s_l09Bytes
  have k1 := cat_loop (l := o.Rounds) (f := fun g => g.flatMap e8) (c := 24) (step := s_l09Bytes_1_s o.Rounds o.Roots o.Last.A o.Last.B o.Nonce o.Queries) [] (fun g hg => h.rnd hg) (by rw [List.length_nil]; omega) (fun j hj acc ha => by
    have hb := h.rnd (gdm hj)
    simp only [s_l09Bytes_1_s]
    rw [brd (by omega), atL_nat hj, Option.bind_some, s_bytes_eq (by have := h.rr _ (gdm hj); omega), Option.bind_some, br_fits (by rw [List.length_append]; omega), wrap_i64 _ (by omega) (by omega)]; rfl) (fun acc => by
    simp only [s_l09Bytes_1_s]
    rw [brn (by omega), decide_eq_false (by omega)])
  rw [k1, Option.bind_some]
  have l1 := fm_le (l := o.Rounds) (f := fun g : List Ext => g.flatMap e8) (c := 24) (fun g hg => h.rnd hg)
  generalize hA : ([] : List UInt8) ++ o.Rounds.flatMap (fun g => g.flatMap e8) = A
  have lA : A.length ≤ 144 := by rw [← hA, List.nil_append]; omega
  have k2 := cat_loop (l := o.Roots) (f := id) (c := 32) (step := s_l09Bytes_2_s o.Rounds o.Roots o.Last.A o.Last.B o.Nonce o.Queries) A (fun x hx => h.rh x hx) (by omega) (fun j hj acc ha => by
    have hb := h.rh _ (gdm hj)
    simp only [s_l09Bytes_2_s]
    rw [brd (by omega), atL_nat hj, Option.bind_some, br_fits (by rw [List.length_append]; omega), wrap_i64 _ (by omega) (by omega)]; rfl) (fun acc => by
    simp only [s_l09Bytes_2_s]
    rw [brn (by omega), decide_eq_false (by omega)])
  rw [k2, Option.bind_some]
  have l2 := fm_le (l := o.Roots) (f := id) (c := 32) (fun x hx => h.rh x hx)
  dsimp only
  rw [s_bytes_eq (by simp), Option.bind_some, br_fits (by rw [List.length_append, List.length_append, e8s_len, List.length_singleton]; omega), number4, Option.bind_some, br_fits (by simp only [List.length_append, e8s_len, List.length_singleton, four_len]; omega)]
  have k3 := cat_loop (l := o.Queries) (f := qB) (c := 1632) (step := s_l09Bytes_3_s o.Rounds o.Roots o.Last.A o.Last.B o.Nonce o.Queries) (A ++ o.Roots.flatMap id ++ [o.Last].flatMap e8 ++ four o.Nonce) (fun q hq => h.qry hq)
    (by simp only [List.length_append, e8s_len, List.length_singleton, four_len]; omega) (fun j hj acc ha => by
    have hm := gdm hj
    have hp := h.qp _ hm
    have ht := h.qt _ hm
    have hql := h.qry hm
    have k4 := cat_loop (l := (o.Queries[j]).Paths) (f := fun x => x.flatMap id) (c := 256) (step := s_l09Bytes_4_s (j : Int) o.Rounds o.Roots o.Last.A o.Last.B o.Nonce o.Queries (o.Queries[j]).Pairs (o.Queries[j]).Paths) (acc ++ (o.Queries[j]).Pairs.flatMap e8) (fun p hpp => h.pth hm hpp)
      (by rw [List.length_append, e8s_len]; omega) (fun i hi ac2 ha2 => by
      have hpm := gdm hi
      have hpl := (h.qq _ hm _ hpm).1
      have k5 := cat_loop (l := ((o.Queries[j]).Paths[i])) (f := id) (c := 32) (step := s_l09Bytes_5_s (j : Int) (i : Int) o.Rounds o.Roots o.Last.A o.Last.B o.Nonce o.Queries (o.Queries[j]).Pairs (o.Queries[j]).Paths) ac2 (fun x hx => (h.qq _ hm _ hpm).2 x hx)
        (by omega) (fun m hm2 ac3 ha3 => by
        have hx := (h.qq _ hm _ hpm).2 _ (gdm hm2)
        simp only [s_l09Bytes_5_s]
        rw [atL_nat hi, Option.bind_some, brd (by omega), Option.bind_some, atL_nat hm2, Option.bind_some, br_fits (by rw [List.length_append]; omega), wrap_i64 _ (by omega) (by omega)]; rfl) (fun ac3 => by
        simp only [s_l09Bytes_5_s]
        rw [atL_nat hi, Option.bind_some, brn (by omega), decide_eq_false (by omega)])
      simp only [s_l09Bytes_4_s]
      rw [brd (by omega), k5, Option.bind_some, wrap_i64 _ (by omega) (by omega)]; rfl) (fun ac2 => by
      simp only [s_l09Bytes_4_s]
      rw [brn (by omega), decide_eq_false (by omega)])
    simp only [s_l09Bytes_3_s]
    rw [brd (by omega), atL_nat hj, Option.bind_some, s_bytes_eq (by omega), Option.bind_some, br_fits (by rw [List.length_append, e8s_len]; omega), k4, Option.bind_some, wrap_i64 _ (by omega) (by omega), List.append_assoc]; rfl) (fun acc => by
    simp only [s_l09Bytes_3_s]
    rw [brn (by omega), decide_eq_false (by omega)])
  rw [k3, Option.bind_some, ← hA]; rfl
variable {o : Opening} {v : Nat} {t : Setting}
theorem i_OpeningBytes_ok (h : okO o (v : Int) t = true) : i_OpeningBytes o (v : Int) t = some (oB o, 0) := by
  have hb := (okO_parts h).bo
  unfold i_OpeningBytes
  rw [i_OpeningOK_eq hb.sm, Option.bind_some, h, Bool.not_true, br_false, i_Obytes_eq hb]; rfl
theorem s_OpeningBytes_ok (h : okO o (v : Int) t = true) : s_OpeningBytes o (v : Int) t = some (oB o, 0) := by
  have hb := (okO_parts h).bo
  unfold s_OpeningBytes
  rw [s_OpeningOK_eq hb.sm, Option.bind_some, h, Bool.not_true, br_false, s_Obytes_eq hb]; rfl
end Go.AI.Fn

set_option linter.unusedVariables false
set_option linter.unusedSimpArgs false
namespace Go.AI.Fn

def hsA (m : Nat) : Nat → Nat
  | 0 => 0
  | j + 1 => hsA m j + (m - j)
theorem hsA_le {m : Nat} (hm : m ≤ 8) : ∀ j, hsA m j ≤ 8 * j
  | 0 => Nat.le_refl 0
  | j + 1 => by have := hsA_le hm j; rw [hsA]; omega
def szO (v : Nat) (t : Setting) : Int := 24 * v + 32 * ((v : Int) - 1) + 8 + 4 + t.Queries * (16 * v + 32 * hsA (v + t.Rate.toNat - 1) v)
variable {o : Opening} {v : Nat} {t : Setting}
theorem szq (h : setB t = true) {X : Int} (h0 : 0 ≤ X) (h1 : X ≤ 2000) : 0 ≤ t.Queries * X ∧ t.Queries * X ≤ 16000 := by
  have hs := setB_in h
  refine ⟨Int.mul_nonneg (by omega) h0, ?_⟩
  exact Int.le_trans (Int.mul_le_mul_of_nonneg_right hs.2.1.2 h0) (by omega)
theorem i_openingSize_eq (hv : 1 ≤ v ∧ v ≤ 6) (h : setB t = true) : i_openingSize (v : Int) t = some (szO v t) := by
  have hs := setB_in h
  unfold i_openingSize
  have key := Loop_for (step := i_openingSize_1_s (v : Int) (v : Int) t.Rate t.Queries t.Grind) (fun j => ((hsA (v + t.Rate.toNat - 1) j : Int), (j : Int))) v (e := ((hsA (v + t.Rate.toNat - 1) v : Int), (v : Int), false)) (fun j hj => ?_) ?_
  · have key' : Loop (i_openingSize_1_s (v : Int) (v : Int) t.Rate t.Queries t.Grind) (0, 0) = _ := key
    have hb := hsA_le (m := v + t.Rate.toNat - 1) (by omega) v
    have hq := szq h (X := 16 * v + 32 * hsA (v + t.Rate.toNat - 1) v) (by omega) (by omega)
    rw [key', Option.bind_some]
    dsimp only
    rw [wrap_i64 (24 * (v : Int)) (by omega) (by omega), wrap_i64 ((v : Int) - 1) (by omega) (by omega), wrap_i64 (32 * ((v : Int) - 1)) (by omega) (by omega), wrap_i64 (24 * (v : Int) + 32 * ((v : Int) - 1)) (by omega) (by omega), wrap_i64 (24 * (v : Int) + 32 * ((v : Int) - 1) + 8) (by omega) (by omega), wrap_i64 (24 * (v : Int) + 32 * ((v : Int) - 1) + 8 + 4) (by omega) (by omega),
      wrap_i64 (16 * (v : Int)) (by omega) (by omega), wrap_i64 (32 * (hsA (v + t.Rate.toNat - 1) v : Int)) (by omega) (by omega), wrap_i64 (16 * (v : Int) + 32 * (hsA (v + t.Rate.toNat - 1) v : Int)) (by omega) (by omega), wrap_i64 (t.Queries * (16 * (v : Int) + 32 * (hsA (v + t.Rate.toNat - 1) v : Int))) (by omega) (by omega), wrap_i64 _ (by omega) (by omega)]; rfl
  · have hb := hsA_le (m := v + t.Rate.toNat - 1) (by omega) j
    simp only [i_openingSize_1_s]
    rw [brd (by omega), wrap_i64 ((v : Int) + t.Rate) (by omega) (by omega), wrap_i64 ((v : Int) + t.Rate - 1) (by omega) (by omega), wrap_i64 ((v : Int) + t.Rate - 1 - (j : Int)) (by omega) (by omega), wrap_i64 ((hsA (v + t.Rate.toNat - 1) j : Int) + _) (by omega) (by omega), wrap_i64 ((j : Int) + 1) (by omega) (by omega), hsA]
    rw [show (hsA (v + t.Rate.toNat - 1) j : Int) + ((v : Int) + t.Rate - 1 - (j : Int)) = ((hsA (v + t.Rate.toNat - 1) j + (v + t.Rate.toNat - 1 - j) : Nat) : Int) by omega]; rfl
  · simp only [i_openingSize_1_s]
    rw [brn (by omega), decide_eq_false (by omega)]
theorem i_openingCode_eq (hv : 1 ≤ v ∧ v ≤ 6) (h : setB t = true) : i_openingCode (v : Int) t = some 0 := by
  unfold i_openingCode
  rw [i_SettingOK_eq, Option.bind_some, h, Bool.not_true, br_false, i_in_eq, Option.bind_some, decide_eq_true (by omega), decide_eq_true (by omega)]; rfl
theorem i_OpeningSize_ok (hv : 1 ≤ v ∧ v ≤ 6) (h : setB t = true) : i_OpeningSize (v : Int) t = some (szO v t, 0) := by
  unfold i_OpeningSize
  rw [i_openingCode_eq hv h, Option.bind_some, brbe rfl, i_openingSize_eq hv h]; rfl
theorem flB_len {P : List (List (List UInt8))} {m : Nat} (h : ∀ j, j < P.length → (P.getD j []).length = m - j ∧ ∀ x ∈ P.getD j [], x.length = 32) : ∀ j, j ≤ P.length → (flB (P.take j)).length = 32 * hsA m j
  | 0, _ => rfl
  | j + 1, hj => by
    have h1 := flB_len h j (by omega)
    have h2 := h j (by omega)
    rw [show P.getD j [] = P[j]'hj by simp [show j < P.length from hj]] at h2
    have h3 := fm_eq (l := P[j]'hj) (f := id) (c := 32) h2.2
    unfold flB at h1 ⊢
    rw [fm_take hj, List.length_append, h1, h3, h2.1, hsA]; omega
theorem qB_len (h : OkO o v t) {q : Query} (hq : q ∈ o.Queries) : (qB q).length = 16 * v + 32 * hsA (v + t.Rate.toNat - 1) v := by
  obtain ⟨h1, h2, h3, h4⟩ := qry_parts (h.qq q hq)
  have hs := setB_in h.st
  have hv := h.v1
  have := flB_len (P := q.Paths) (m := v + t.Rate.toNat - 1) (fun j hj => by
    have := h4 j (by omega)
    exact ⟨by omega, this.2⟩) v (by omega)
  rw [List.take_of_length_le (by omega)] at this
  unfold qB
  rw [List.length_append, e8s_len, this, h1]; omega
theorem oB_len (h : OkO o v t) : ((oB o).length : Int) = szO v t := by
  have hv := h.v1
  have hn := h.qn
  have hs := setB_in h.st
  have h1 := fm_eq (l := o.Rounds) (f := fun g : List Ext => g.flatMap e8) (c := 24) (fun g hg => by rw [e8s_len, (h.rr g hg).1])
  have h2 := fm_eq (l := o.Roots) (f := id) (c := 32) h.rh
  have h3 := fm_eq (l := o.Queries) (f := qB) (c := 16 * v + 32 * hsA (v + t.Rate.toNat - 1) v) fun q hq => qB_len h hq
  unfold oB szO
  rw [List.length_append, List.length_append, List.length_append, List.length_append, h1, h2, h3, e8s_len, four_len, h.rn, h.ro, List.length_singleton, ← hn]
  rw [show ((o.Queries.length : Int)) * (16 * (v : Int) + 32 * (hsA (v + t.Rate.toNat - 1) v : Int)) = ((o.Queries.length * (16 * v + 32 * hsA (v + t.Rate.toNat - 1) v) : Nat) : Int) by simp]
  omega
/-! ### reading back -/
theorem read_loop {α : Type} {l : List α} {enc : α → List UInt8} {step : List α × Int × List UInt8 → Option ((List α × Int × List UInt8) ⊕ (List α × Int × Bool × List UInt8))} (r : List UInt8)
    (hs : ∀ (j : Nat) (hj : j < l.length) (rest : List UInt8), step (l.take j, (j : Int), enc l[j] ++ rest) = some (.inl (l.take j ++ [l[j]], ((j + 1 : Nat) : Int), rest))) (he : step (l, (l.length : Int), r) = some (.inr (l, (l.length : Int), false, r))) :
    Loop step ([], 0, l.flatMap enc ++ r) = some (l, (l.length : Int), false, r) := by
  have key := Loop_for (step := step) (fun j => (l.take j, (j : Int), (l.drop j).flatMap enc ++ r)) l.length (e := (l, (l.length : Int), false, r)) (fun j hj => ?_) ?_
  · exact key
  · rw [List.drop_eq_getElem_cons hj, List.flatMap_cons, List.append_assoc, hs j hj, take_succ hj]
  · rw [List.drop_length, List.take_length]; exact he
theorem rd_take {n : Int} {x r : List UInt8} (h : (x.length : Int) = n) : i_byteReader_take n ⟨x ++ r⟩ = some (x, ⟨r⟩) := by
  subst h
  unfold i_byteReader_take
  dsimp only
  rw [subL_of (by omega) (by omega) (by rw [List.length_append]; omega), Option.bind_some, subL_of (by omega) (by rw [List.length_append]; omega) (by omega), Option.bind_some]
  have e : (((x ++ r).length : Nat) : Int).toNat - ((x.length : Nat) : Int).toNat = r.length := by rw [List.length_append]; omega
  rw [e]; simp
theorem rd_hash {x r : List UInt8} (h : x.length = 32) : i_byteReader_hash ⟨x ++ r⟩ = some (x, ⟨r⟩) := by
  unfold i_byteReader_hash
  rw [rd_take (by omega), Option.bind_some]
theorem rd_exts {n : Int} {l : List Ext} {r : List UInt8} (h : (l.length : Int) = n) (hn : n ≤ 1000) (ok : OkEs l) : i_byteReader_exts n ⟨l.flatMap e8 ++ r⟩ = some (l, ⟨r⟩) := by
  unfold i_byteReader_exts
  rw [wrap_i64 _ (by omega) (by omega), rd_take (by rw [e8s_len]; omega), Option.bind_some, i_readExts_eq (by rw [e8s_len]; omega), Option.bind_some, dec_e8 ok]
theorem rd_rounds {n size : Int} {R : List (List Ext)} {r : List UInt8} (h : (R.length : Int) = n) (hn : n ≤ 1000) (hs : size ≤ 1000) (hR : ∀ g ∈ R, (g.length : Int) = size ∧ OkEs g) : i_byteReader_rounds n size ⟨(R.flatMap fun g => g.flatMap e8) ++ r⟩ = some (R, ⟨r⟩) := by
  subst h
  unfold i_byteReader_rounds
  have key := read_loop (l := R) (enc := fun g => g.flatMap e8) (step := i_byteReader_rounds_1_s size (R.length : Int)) r (fun j hj rest => by
    have hg := hR _ (gdm hj)
    simp only [i_byteReader_rounds_1_s]
    rw [brd (by omega), rd_exts hg.1 hs hg.2, Option.bind_some, br_fits (by rw [List.length_append, List.length_take, List.length_singleton]; omega), wrap_i64 _ (by omega) (by omega)]; rfl) (by
    simp only [i_byteReader_rounds_1_s]
    rw [brn (by omega), decide_eq_false (by omega)])
  dsimp only
  rw [key]; rfl
theorem i_number_four {n : Int} (h : okF n) : i_number (four n) = some n := by
  unfold four
  rw [i_number_eq, be_four h]
theorem i_reader_eq (h : OkO o v t) (r : List UInt8) : i_byteReader_opening (v : Int) t ⟨oB o ++ r⟩ = some (o, ⟨r⟩) := by
  have hv := h.v1
  have hn := h.qn
  have hs := setB_in h.st
  have hno := h.no
  have hro := h.ro
  unfold i_byteReader_opening oB
  rw [List.append_assoc, List.append_assoc, List.append_assoc, List.append_assoc]
  rw [rd_rounds (by rw [h.rn]) (by omega) (by omega) (fun g hg => ⟨by rw [(h.rr g hg).1]; rfl, (h.rr g hg).2⟩), Option.bind_some]
  dsimp only
  rw [wrap_i64 ((v : Int) - 1) (by omega) (by omega), show (v : Int) - 1 = (o.Roots.length : Int) by omega]
  rw [read_loop (l := o.Roots) (enc := id) (step := i_byteReader_opening_1_s (v : Int) (o.Roots.length : Int) t.Rate t.Queries t.Grind 0 0 0 o.Rounds 0 0 0) _ (fun j hj rest => by
    simp only [i_byteReader_opening_1_s, id]
    rw [brd (by omega), rd_hash (h.rh _ (gdm hj)), Option.bind_some, br_fits (by rw [List.length_append, List.length_take, List.length_singleton]; omega), wrap_i64 _ (by omega) (by omega)]; rfl) (by
    simp only [i_byteReader_opening_1_s]
    rw [brn (by omega), decide_eq_false (by omega)]), Option.bind_some]
  dsimp only
  rw [rd_exts (n := 1) (l := [o.Last]) rfl (by omega) (fun x hx => by rw [List.mem_singleton] at hx; subst hx; exact h.la), Option.bind_some]
  dsimp only
  rw [show atL [o.Last] 0 = some o.Last from rfl, Option.bind_some, rd_take (by rw [four_len]; rfl), Option.bind_some]
  dsimp only
  rw [i_number_four ⟨by omega, by omega⟩, Option.bind_some, ← hn]
  rw [read_loop (l := o.Queries) (enc := qB) (step := i_byteReader_opening_2_s o.Roots (v : Int) (o.Queries.length : Int) t.Rate (o.Queries.length : Int) t.Grind 0 0 0 o.Rounds o.Last.A o.Last.B o.Nonce) r (fun j hj rest => by
    have hm := gdm hj
    obtain ⟨h1, h2, h3, h4⟩ := qry_parts (h.qq _ hm)
    have k3 := read_loop (l := (o.Queries[j]).Paths) (enc := fun x => x.flatMap id) (step := i_byteReader_opening_3_s o.Roots (o.Queries.take j) (v : Int) (o.Queries.length : Int) (j : Int) (v : Int) t.Rate (o.Queries.length : Int) t.Grind 0 0 0 o.Rounds o.Last.A o.Last.B o.Nonce (o.Queries[j]).Pairs) rest (fun i hi rest2 => by
      have h5 := h4 i (by omega)
      rw [show (o.Queries[j]).Paths.getD i [] = (o.Queries[j]).Paths[i] by simp [hi]] at h5
      have k4 := read_loop (l := (o.Queries[j]).Paths[i]) (enc := id) (step := i_byteReader_opening_4_s o.Roots (o.Queries.take j) ((o.Queries[j]).Paths.take i) (v : Int) (o.Queries.length : Int) (j : Int) (v : Int) (i : Int) (((o.Queries[j]).Paths[i]).length : Int) t.Rate (o.Queries.length : Int) t.Grind 0 0 0 o.Rounds o.Last.A o.Last.B o.Nonce (o.Queries[j]).Pairs) rest2 (fun m hm2 rest3 => by
        simp only [i_byteReader_opening_4_s, id]
        rw [brd (by omega), rd_hash (h5.2 _ (gdm hm2)), Option.bind_some, br_fits (by rw [List.length_append, List.length_take, List.length_singleton]; omega), wrap_i64 _ (by omega) (by omega)]; rfl) (by
        simp only [i_byteReader_opening_4_s]
        rw [brn (by omega), decide_eq_false (by omega)])
      simp only [i_byteReader_opening_3_s]
      rw [brd (by omega), wrap_i64 ((v : Int) + t.Rate) (by omega) (by omega), wrap_i64 ((v : Int) + t.Rate - 1) (by omega) (by omega), wrap_i64 ((v : Int) + t.Rate - 1 - (i : Int)) (by omega) (by omega), ← h5.1, k4, Option.bind_some, br_fits (by rw [List.length_append, List.length_take, List.length_singleton]; omega), wrap_i64 _ (by omega) (by omega)]; rfl) (by
      simp only [i_byteReader_opening_3_s]
      rw [brn (by omega), decide_eq_false (by omega)])
    simp only [i_byteReader_opening_2_s]
    unfold qB flB
    rw [brd (by omega), wrap_i64 (2 * (v : Int)) (by omega) (by omega), List.append_assoc, rd_exts (by omega) (by omega) h2, Option.bind_some]
    dsimp only
    rw [k3, Option.bind_some, br_fits (by rw [List.length_append, List.length_take, List.length_singleton]; omega), wrap_i64 _ (by omega) (by omega)]; rfl) (by
    simp only [i_byteReader_opening_2_s]
    rw [brn (by omega), decide_eq_false (by omega)]), Option.bind_some]
theorem szO_le (hv : 1 ≤ v ∧ v ≤ 6) (h : setB t = true) : 0 ≤ szO v t ∧ szO v t ≤ 20000 := by
  have hs := setB_in h
  have hb := hsA_le (m := v + t.Rate.toNat - 1) (by omega) v
  have hq := szq h (X := 16 * v + 32 * hsA (v + t.Rate.toNat - 1) v) (by omega) (by omega)
  unfold szO; omega
theorem i_ReadOpening_back (h : okO o (v : Int) t = true) : i_ReadOpening (oB o) (v : Int) t = some (o, 0) := by
  have hp := okO_parts h
  have hl := oB_len hp
  have hz := szO_le hp.v1 hp.st
  have hr := i_reader_eq hp []
  rw [List.append_nil] at hr
  unfold i_ReadOpening
  rw [brn (by omega), i_openingCode_eq hp.v1 hp.st, Option.bind_some, brbe rfl, i_openingSize_eq hp.v1 hp.st, Option.bind_some, brbe hl, hr, Option.bind_some, i_OpeningOK_eq hp.bo.sm, Option.bind_some, h, Bool.not_true, br_false]
theorem i_ReadOpening_bent {b : List UInt8} (hv : 1 ≤ v ∧ v ≤ 6) (h : setB t = true) (hb : (b.length : Int) ≤ 65536) (hne : (b.length : Int) ≠ szO v t) : ∃ x, i_ReadOpening b (v : Int) t = some (x, 3) := by
  unfold i_ReadOpening
  rw [brn (by omega), i_openingCode_eq hv h, Option.bind_some, brbe rfl, i_openingSize_eq hv h, Option.bind_some, brb hne]
  exact ⟨_, rfl⟩
end Go.AI.Fn

set_option linter.unusedVariables false
set_option linter.unusedSimpArgs false
namespace Go.AI.Fn

theorem ob_texts {l : List (List UInt8)} (hl : l.length ≤ 1000) : w_sameTexts l l = some true := by
  unfold w_sameTexts
  have key : Loop (w_sameTexts_1_s l l) 0 = some (.inr ((l.length : Int), false)) :=
    Loop_for (step := w_sameTexts_1_s l l) (fun j => (j : Int)) l.length (fun j hj => by
      simp only [w_sameTexts_1_s]
      rw [brd (by omega), atL_nat hj, Option.bind_some, Option.bind_some, br_no (by simp), wrap_i64 _ (by omega) (by omega)]; rfl) (by
      simp only [w_sameTexts_1_s]
      rw [brn (by omega), decide_eq_false (by omega)])
  rw [brbe rfl, key]; rfl
theorem ob_rounds {R : List (List Ext)} (hl : R.length ≤ 1000) (h : ∀ g ∈ R, g.length ≤ 1000) : w_sameRounds R R = some true := by
  unfold w_sameRounds
  have key : Loop (w_sameRounds_1_s R R) 0 = some (.inr ((R.length : Int), false)) :=
    Loop_for (step := w_sameRounds_1_s R R) (fun j => (j : Int)) R.length (fun j hj => by
      have hg := h _ (List.getElem_mem hj)
      simp only [w_sameRounds_1_s]
      rw [brd (by omega), atL_nat hj, Option.bind_some, Option.bind_some, sameExts_self (by omega), Option.bind_some, Bool.not_true, br_false, wrap_i64 _ (by omega) (by omega)]; rfl) (by
      simp only [w_sameRounds_1_s]
      rw [brn (by omega), decide_eq_false (by omega)])
  rw [brbe rfl, key]; rfl
theorem ob_self {o : Opening} (h : BoO o) : w_sameOpening o o = some true := by
  have h1 := h.rn
  have h3 := h.ro
  have h5 := h.qn
  unfold w_sameOpening
  rw [ob_rounds (by omega) (fun g hg => by have := h.rr g hg; omega), Option.bind_some, Bool.not_true, br_false, ob_texts (by omega), Option.bind_some, Bool.not_true, br_false, bre rfl, bre rfl, brbe rfl, brbe rfl]
  have key : Loop (w_sameOpening_1_s o.Rounds o.Roots o.Last.A o.Last.B o.Nonce o.Queries o.Rounds o.Roots o.Last.A o.Last.B o.Nonce o.Queries) 0 = some (.inr ((o.Queries.length : Int), false)) :=
    Loop_for (step := w_sameOpening_1_s o.Rounds o.Roots o.Last.A o.Last.B o.Nonce o.Queries o.Rounds o.Roots o.Last.A o.Last.B o.Nonce o.Queries) (fun j => (j : Int)) o.Queries.length (fun j hj => by
      have hm := gdm hj
      have hp := h.qp _ hm
      have ht := h.qt _ hm
      have k2 : Loop (w_sameOpening_2_s (j : Int) o.Rounds o.Roots o.Last.A o.Last.B o.Nonce o.Queries o.Rounds o.Roots o.Last.A o.Last.B o.Nonce o.Queries (o.Queries[j]).Pairs (o.Queries[j]).Paths (o.Queries[j]).Pairs (o.Queries[j]).Paths) 0 = some (.inr ((((o.Queries[j]).Paths.length : Nat) : Int), false)) :=
        Loop_for (step := w_sameOpening_2_s (j : Int) o.Rounds o.Roots o.Last.A o.Last.B o.Nonce o.Queries o.Rounds o.Roots o.Last.A o.Last.B o.Nonce o.Queries (o.Queries[j]).Pairs (o.Queries[j]).Paths (o.Queries[j]).Pairs (o.Queries[j]).Paths) (fun i => (i : Int)) (o.Queries[j]).Paths.length (fun i hi => by
          have hq := (h.qq _ hm _ (gdm hi)).1
          simp only [w_sameOpening_2_s]
          rw [brd (by omega), atL_nat hi, Option.bind_some, Option.bind_some, ob_texts (by omega), Option.bind_some, Bool.not_true, br_false, wrap_i64 _ (by omega) (by omega)]; rfl) (by
          simp only [w_sameOpening_2_s]
          rw [brn (by omega), decide_eq_false (by omega)])
      simp only [w_sameOpening_1_s]
      rw [brd (by omega), atL_nat hj, Option.bind_some, Option.bind_some, sameExts_self (by omega), Option.bind_some, Bool.not_true, br_false, brbe rfl, k2, Option.bind_some, alt_inr, wrap_i64 _ (by omega) (by omega)]; rfl) (by
      simp only [w_sameOpening_1_s]
      rw [brn (by omega), decide_eq_false (by omega)])
  rw [key]; rfl
theorem law_FnOpeningBytes (a b : List UInt8) (ha : bdL bdT a) (hb : bdL bdT b) : w_FnOpeningBytes a b = some true := by
  unfold w_FnOpeningBytes
  by_cases c1 : ((a.length : Nat) : Int) > 1048576
  · rw [brd c1]
  rw [brn c1]
  by_cases c2 : ((b.length : Nat) : Int) > 1048576
  · rw [brd c2]
  rw [brn c2]
  obtain ⟨x, e1, x0, x1⟩ := at_ok (a := b) (i := 0) (n := 3) (by omega) (by omega) (by omega) (by omega)
  obtain ⟨st, e2, t1, t2, t3⟩ := SettingOf_ok (code := b) (by omega)
  have hst : setB st = true := by unfold setB; simp only [Bool.and_eq_true, decide_eq_true_eq]; omega
  obtain ⟨v, hv⟩ : ∃ v : Nat, 1 + x = (v : Int) := ⟨(1 + x).toNat, by omega⟩
  have hp := p2_6 v (by omega)
  obtain ⟨ρ, hρ⟩ : ∃ n : Nat, st.Rate = (n : Int) := ⟨st.Rate.toNat, by omega⟩
  obtain ⟨nq, hq⟩ : ∃ n : Nat, st.Queries = (n : Int) := ⟨st.Queries.toNat, by omega⟩
  obtain ⟨bits, hbt⟩ : ∃ n : Nat, st.Grind = (n : Int) := ⟨st.Grind.toNat, by omega⟩
  obtain ⟨T, e3, tl, tok⟩ := ExtsOf_ok (code := a) (n := ((2 ^ v : Nat) : Int)) (by omega) (by omega) (by omega)
  obtain ⟨Q, e4, ql, qok⟩ := ExtsOf_ok (code := b) (n := (v : Int)) (by omega) (by omega) (by omega)
  obtain ⟨s, e5, hf⟩ := SourceOf_ok (code := a) (by omega)
  obtain ⟨t, rfl⟩ := kv_lift (L := T) tok
  obtain ⟨P, rfl⟩ := kv_lift (L := Q) qok
  rw [kv_len] at tl ql
  have ht : t.length = 2 ^ v := by omega
  have hP : P.length = v := by omega
  have hop := s_OpenTable_eq (ρ := ρ) (nq := nq) (bits := bits) ht hP (by omega) (by omega) hst hρ hq hbt hf (by omega)
  rw [e1, Option.bind_some, hv, wrap_i64 (v : Int) (by omega) (by omega), e2, Option.bind_some, wrap_u64 _ (by omega) (by omega), brd (by omega), shl1 (by omega), e3, Option.bind_some, e4, Option.bind_some, e5, Option.bind_some, hop, Option.bind_some]
  cases hg : grindM (opS v ρ t P s).State bits with
  | none => rfl
  | some n =>
    have hn := (grind_spec hg).1
    have hok := opO_ok (s := s) (P := P) ht (by omega) (by omega) (by omega) hst hρ hq hn
    dsimp only
    generalize opO v ρ nq n t P s = o at hok ⊢
    have hpt := okO_parts hok
    have hl := oB_len hpt
    have hz := szO_le hpt.v1 hst
    have hgt : 1 < ((oB o).length : Int) := by
      have : (four o.Nonce).length ≤ (oB o).length := by unfold oB; simp only [List.length_append]; omega
      rw [four_len] at this; omega
    obtain ⟨y, e6, y0, y1⟩ := at_ok (a := b) (i := 1) (n := (((oB o).length : Nat) : Int)) (by omega) (by omega) (by omega) hgt
    obtain ⟨u, e7⟩ := i_ReadOpening_bent (b := ((oB o).drop (0 : Int).toNat).take (y.toNat - (0 : Int).toNat)) (t := st) hpt.v1 hst (by rw [List.length_take]; omega) (by rw [List.length_take]; omega)
    obtain ⟨w, e8'⟩ := i_ReadOpening_bent (b := (([] : List UInt8) ++ oB o) ++ [(0 : UInt8)]) (t := st) hpt.v1 hst (by simp only [List.length_append, List.length_nil, List.length_singleton]; omega) (by simp only [List.length_append, List.length_nil, List.length_singleton]; omega)
    rw [brbe rfl, i_OpeningBytes_ok hok, Option.bind_some, s_OpeningBytes_ok hok, Option.bind_some, i_OpeningSize_ok hpt.v1 hst, Option.bind_some]
    dsimp only
    rw [i_ReadOpening_back hok, Option.bind_some]
    dsimp only
    rw [brbe rfl, br_no (by simp), brbe rfl, brbe hl, brbe rfl, ob_self hpt.bo, Option.bind_some, Bool.not_true, br_false, e6, Option.bind_some, subL_of (by omega) y0 (by omega), Option.bind_some, e7, Option.bind_some,
      br_fits (by simp only [List.length_append, List.length_nil]; omega), br_fits (by simp only [List.length_append, List.length_nil, List.length_singleton]; omega), e8', Option.bind_some]
    rfl
end Go.AI.Fn
