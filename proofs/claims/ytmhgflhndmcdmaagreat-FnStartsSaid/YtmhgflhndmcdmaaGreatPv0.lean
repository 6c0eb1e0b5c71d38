/- Plain laws for printed functions: loops whose states are told in advance; numbers; places. -/
import Derived.Test.YtmhgflhndmcdmaaGreatAiW
import Derived.Test.YtmhgflhndmcdmaaGreatFx0
import Derived.KernelRfl
set_option linter.unusedVariables false
namespace Go.AI

theorem Loop_inl {S E : Type} {step : S → Option (S ⊕ E)} {s s' : S} (h : step s = some (.inl s')) : Loop step s = Loop step s' := by rw [Loop_eq, h]; rfl
theorem Loop_inr {S E : Type} {step : S → Option (S ⊕ E)} {s : S} {e : E} (h : step s = some (.inr e)) : Loop step s = some e := by rw [Loop_eq, h]; rfl
/-- A loop that goes through states that are told. -/
theorem Loop_for {S E : Type} {step : S → Option (S ⊕ E)} (F : Nat → S) (n : Nat) {e : E} (hs : ∀ k, k < n → step (F k) = some (.inl (F (k + 1)))) (he : step (F n) = some (.inr e)) : Loop step (F 0) = some e := by
  have key : ∀ m k, k + m = n → Loop step (F k) = some e := by
    intro m
    induction m with
    | zero => intro k hk; have : k = n := by omega
              subst this; exact Loop_inr he
    | succ m ih => intro k hk; rw [Loop_inl (hs k (by omega))]; exact ih (k + 1) (by omega)
  exact key n 0 (by omega)
/-- The first place where something fails. -/
theorem first_bad (P : Nat → Bool) : ∀ n, (∀ k, k < n → P k = true) ∨ ∃ k, k < n ∧ P k = false ∧ ∀ j, j < k → P j = true
  | 0 => .inl (by omega)
  | n + 1 => by
    rcases first_bad P n with h | ⟨k, hk, h1, h2⟩
    · cases hn : P n
      · exact .inr ⟨n, by omega, hn, h⟩
      · refine .inl fun k hk => ?_
        by_cases e : k = n
        · subst e; exact hn
        · exact h k (by omega)
    · exact .inr ⟨k, by omega, h1, h2⟩
/-- A loop that goes on as long as something holds. -/
theorem Loop_all {S E : Type} {step : S → Option (S ⊕ E)} (F : Nat → S) (n : Nat) (P : Nat → Bool) (x : Nat → E) {e : E} (hs : ∀ k, k < n → P k = true → step (F k) = some (.inl (F (k + 1))))
    (hx : ∀ k, k < n → P k = false → step (F k) = some (.inr (x k))) (he : step (F n) = some (.inr e)) :
    ((∀ k, k < n → P k = true) ∧ Loop step (F 0) = some e) ∨ ∃ k, k < n ∧ P k = false ∧ (∀ j, j < k → P j = true) ∧ Loop step (F 0) = some (x k) := by
  rcases first_bad P n with h | ⟨k, hk, h1, h2⟩
  · exact .inl ⟨h, Loop_for F n (fun k hk => hs k hk (h k hk)) he⟩
  · exact .inr ⟨k, hk, h1, h2, Loop_for F k (fun j hj => hs j (by omega) (h2 j hj)) (hx k hk h1)⟩
/-- A loop with an invariant, a measure, a postcondition. -/
theorem Loop_inv {S E : Type} {step : S → Option (S ⊕ E)} (Inv : S → Prop) (me : S → Nat) (Post : E → Prop)
    (hs : ∀ s, Inv s → (∃ s', step s = some (.inl s') ∧ Inv s' ∧ me s' < me s) ∨ (∃ e, step s = some (.inr e) ∧ Post e)) :
    ∀ s, Inv s → ∃ e, Loop step s = some e ∧ Post e := by
  intro s
  generalize hm : me s = m
  induction m using Nat.strongRecOn generalizing s with
  | _ m ih =>
    intro hi
    rw [Loop_eq]
    rcases hs s hi with ⟨s', h1, h2, h3⟩ | ⟨e, h1, h2⟩
    · rw [h1]; exact ih (me s') (by omega) s' rfl h2
    · rw [h1]; exact ⟨e, rfl, h2⟩

theorem br_of {α : Type} {c : Bool} {x y : α} (h : c = true) : br c x y = x := by subst h; rfl
theorem br_no {α : Type} {c : Bool} {x y : α} (h : c = false) : br c x y = y := by subst h; rfl
theorem brd {α : Type} {p : Prop} [Decidable p] {x y : α} (h : p) : br (decide p) x y = x := br_of (decide_eq_true h)
theorem brn {α : Type} {p : Prop} [Decidable p] {x y : α} (h : ¬p) : br (decide p) x y = y := br_no (decide_eq_false h)
theorem brdd {α : Type} {p q : Prop} [Decidable p] [Decidable q] {x y : α} (h : p) (g : q) : br (decide p && decide q) x y = x := br_of (by simp [h, g])
theorem bre {α : Type} {a b : Int} {x y : α} (h : a = b) : br (a == b) x y = x := br_of (by simp [h])
theorem brne {α : Type} {a b : Int} {x y : α} (h : a ≠ b) : br (a == b) x y = y := br_no (by simp [h])
theorem brb {α : Type} {a b : Int} {x y : α} (h : a ≠ b) : br (a != b) x y = x := br_of (by simp [h])
theorem brbe {α : Type} {a b : Int} {x y : α} (h : a = b) : br (a != b) x y = y := br_no (by simp [h])
theorem notd {α : Type} {p : Prop} [Decidable p] {x y : α} (h : p) : br (!decide p) x y = y := br_no (by simp [h])
theorem notn {α : Type} {p : Prop} [Decidable p] {x y : α} (h : ¬p) : br (!decide p) x y = x := br_of (by simp [h])
theorem tmod_nn (a b : Int) (h : 0 ≤ a) : a.tmod b = a % b := Int.tmod_eq_emod_of_nonneg h
theorem tdiv_nn (a b : Int) (h : 0 ≤ a) : a.tdiv b = a / b := Int.tdiv_eq_ediv_of_nonneg h
theorem u8_lt (x : UInt8) : (x.toNat : Int) < 256 := by have := x.toNat_lt; omega
theorem fits_of {n b : Nat} (h : n * b ≤ 1099511627776) : fits n b = true := by simp [fits, okBound, h]
theorem br_fits {α : Type} {n b : Nat} {x y : α} (h : n * b ≤ 1099511627776) : br (fits n b) x y = x := br_of (fits_of h)
theorem mkOK_of {l c : Int} {b : Nat} (h0 : 0 ≤ l) (h1 : l ≤ c) (h2 : c * b ≤ 1099511627776) : mkOK l c b = true := by simp [mkOK, okBound, h0, h1, h2]
theorem br_mk {α : Type} {l c : Int} {b : Nat} {x y : α} (h0 : 0 ≤ l) (h1 : l ≤ c) (h2 : c * b ≤ 1099511627776) : br (mkOK l c b) x y = x := br_of (mkOK_of h0 h1 h2)

theorem atL_get {α : Type} {l : List α} {i : Int} (h0 : 0 ≤ i) {x : α} (h : l[i.toNat]? = some x) : atL l i = some x := by simp [atL, h0, h]
theorem atL_nat {α : Type} {l : List α} {k : Nat} (h : k < l.length) : atL l (k : Int) = some l[k] := by simp [atL, h]
theorem atL_int {α : Type} {l : List α} {i : Int} (h0 : 0 ≤ i) (h : i.toNat < l.length) : atL l i = some l[i.toNat] := by simp [atL, h0, h]
theorem get_bind {β : Type} {l : List Int} {i : Nat} {f : Int → Option β} (h : i < l.length) : (l[i]?).bind f = f (l.getD i 0) := by simp [h]
theorem get_some {α : Type} {l : List α} {i : Nat} (h : i < l.length) : l[i]? = some l[i] := List.getElem?_eq_getElem h
theorem atL_of {α : Type} {l : List α} {i : Int} (h0 : 0 ≤ i) (h1 : i < l.length) : ∃ x, atL l i = some x ∧ l[i.toNat]? = some x ∧ x ∈ l := by
  have h : i.toNat < l.length := by omega
  exact ⟨l[i.toNat], by simp [atL, h0, h], by simp [h], List.getElem_mem h⟩
theorem drop_cons {α : Type} {l : List α} {i : Nat} (h : i < l.length) : ∃ x r, l.drop i = x :: r ∧ l.drop (i + 1) = r ∧ l[i]? = some x :=
  ⟨l[i], l.drop (i + 1), List.drop_eq_getElem_cons h, rfl, by simp [h]⟩
theorem subL_of {α : Type} {l : List α} {a b : Int} (h0 : 0 ≤ a) (h1 : a ≤ b) (h2 : b ≤ l.length) : subL l a b = some ((l.drop a.toNat).take (b.toNat - a.toNat)) := by
  simp [subL, h0, h1, h2, List.drop_take]
theorem take_succ {α : Type} {l : List α} {k : Nat} (h : k < l.length) : l.take (k + 1) = l.take k ++ [l[k]] := by rw [List.take_succ_eq_append_getElem h]
theorem cast_succ (k : Nat) : ((k + 1 : Nat) : Int) = (k : Int) + 1 := by omega
theorem nZ_len (n : Nat) : (nZ n).length = n := by simp [nZ]
/-- A state that is turned step by step. -/
def iU {α : Type} (f : Nat → α → α) : Nat → α → α
  | 0, l => l
  | k + 1, l => f k (iU f k l)
theorem iU_len {f : Nat → List Int → List Int} (hf : ∀ k l, (f k l).length = l.length) : ∀ (k : Nat) (l : List Int), (iU f k l).length = l.length
  | 0, l => rfl
  | k + 1, l => by rw [iU, hf, iU_len hf k l]
end Go.AI

set_option linter.unusedVariables false
set_option linter.unusedSimpArgs false
namespace Go.AI.Fn

def okF (a : Int) : Prop := 0 ≤ a ∧ a ≤ 2130706432
def okE (x : Ext) : Prop := okF x.A ∧ okF x.B
def okFb (a : Int) : Bool := decide (0 ≤ a) && decide (a ≤ 2130706432)
def okEb (x : Ext) : Bool := okFb x.A && okFb x.B
theorem okFb_iff {a : Int} : okFb a = true ↔ okF a := by simp [okFb, okF]
theorem okEb_iff {x : Ext} : okEb x = true ↔ okE x := by simp [okEb, okE, okFb_iff]

def aF (a b : Int) : Int := (a + b) % 2130706433
def sF (a b : Int) : Int := (a - b) % 2130706433
def mF (a b : Int) : Int := (a * b) % 2130706433
def eA (x y : Ext) : Ext := ⟨(x.A + y.A) % 2130706433, (x.B + y.B) % 2130706433⟩
def eS (x y : Ext) : Ext := ⟨(x.A - y.A) % 2130706433, (x.B - y.B) % 2130706433⟩
def eM (x y : Ext) : Ext := ⟨(x.A * y.A + 3 * (x.B * y.B)) % 2130706433, (x.A * y.B + x.B * y.A) % 2130706433⟩
def eC (x : Ext) (n : Int) : Ext := ⟨(x.A * n) % 2130706433, (x.B * n) % 2130706433⟩
def e0 : Ext := ⟨0, 0⟩
def e1 : Ext := ⟨1, 0⟩
def eN (n : Int) : Ext := ⟨n, 0⟩

theorem okF3 : okF 3 := ⟨by decide, by decide⟩
theorem okF0 : okF 0 := ⟨by decide, by decide⟩
theorem okF_mod (a : Int) : okF (a % 2130706433) := ⟨by omega, by omega⟩
theorem mF_ok (a b : Int) : okF (mF a b) := okF_mod _
theorem eA_ok (x y : Ext) : okE (eA x y) := ⟨okF_mod _, okF_mod _⟩
theorem eS_ok (x y : Ext) : okE (eS x y) := ⟨okF_mod _, okF_mod _⟩
theorem eM_ok (x y : Ext) : okE (eM x y) := ⟨okF_mod _, okF_mod _⟩
theorem eC_ok (x : Ext) (n : Int) : okE (eC x n) := ⟨okF_mod _, okF_mod _⟩
theorem e0_ok : okE e0 := ⟨⟨by decide, by decide⟩, ⟨by decide, by decide⟩⟩
theorem e1_ok : okE e1 := ⟨⟨by decide, by decide⟩, ⟨by decide, by decide⟩⟩
theorem eN_ok {n : Int} (h : okF n) : okE (eN n) := ⟨h, okF0⟩

theorem mul_bd {a b : Int} (ha : okF a) (hb : okF b) : 0 ≤ a * b ∧ a * b ≤ 4539909900063178624 :=
  ⟨Int.mul_nonneg ha.1 hb.1, Int.le_trans (Int.mul_le_mul ha.2 hb.2 hb.1 (by decide)) (by decide)⟩
theorem mod_self {a : Int} (h : okF a) : a % 2130706433 = a := by obtain ⟨h1, h2⟩ := h; omega

/-! ### remainders of remainders -/
theorem ext_eq {x y : Ext} (h1 : x.A = y.A) (h2 : x.B = y.B) : x = y := by cases x; cases y; cases h1; cases h2; rfl
theorem mA1 (a b : Int) : (a % 2130706433 + b) % 2130706433 = (a + b) % 2130706433 := Int.emod_add_emod _ _ _
theorem mA2 (a b : Int) : (a + b % 2130706433) % 2130706433 = (a + b) % 2130706433 := Int.add_emod_emod _ _ _
theorem mM1 (a b : Int) : (a % 2130706433 * b) % 2130706433 = (a * b) % 2130706433 := by rw [Int.mul_emod, Int.emod_emod, ← Int.mul_emod]
theorem mM2 (a b : Int) : (a * (b % 2130706433)) % 2130706433 = (a * b) % 2130706433 := by rw [Int.mul_emod, Int.emod_emod, ← Int.mul_emod]
theorem mX1 (a b c : Int) : (a % 2130706433 * b + c) % 2130706433 = (a * b + c) % 2130706433 := by rw [← mA1, mM1, mA1]
theorem mX4 (a b c : Int) : (c + a * (b % 2130706433)) % 2130706433 = (c + a * b) % 2130706433 := by rw [← mA2, mM2, mA2]
/-! ### the program -/
theorem i_add_eq {a b : Int} (ha : okF a) (hb : okF b) : i_add a b = some (aF a b) := by
  obtain ⟨h1, h2⟩ := ha; obtain ⟨h3, h4⟩ := hb
  unfold i_add aF; rw [wrap_i64 _ (by omega) (by omega), tmod_nn _ _ (by omega)]
theorem i_sub_eq {a b : Int} (ha : okF a) (hb : okF b) : i_sub a b = some (sF a b) := by
  obtain ⟨h1, h2⟩ := ha; obtain ⟨h3, h4⟩ := hb
  unfold i_sub sF; rw [wrap_i64 (a - b) (by omega) (by omega), wrap_i64 _ (by omega) (by omega), tmod_nn _ _ (by omega)]
  congr 1; omega
theorem i_mul_eq {a b : Int} (ha : okF a) (hb : okF b) : i_mul a b = some (mF a b) := by
  have h := mul_bd ha hb
  unfold i_mul mF; rw [wrap_i64 _ (by omega) (by omega), tmod_nn _ _ (by omega)]
theorem i_plus_eq {x y : Ext} (hx : okE x) (hy : okE y) : i_Ext_plus x y = some (eA x y) := by
  unfold i_Ext_plus; rw [i_add_eq hx.1 hy.1, i_add_eq hx.2 hy.2]; rfl
theorem i_minus_eq {x y : Ext} (hx : okE x) (hy : okE y) : i_Ext_minus x y = some (eS x y) := by
  unfold i_Ext_minus; rw [i_sub_eq hx.1 hy.1, i_sub_eq hx.2 hy.2]; rfl
theorem eM_form (x y : Ext) : eM x y = ⟨aF (mF x.A y.A) (mF 3 (mF x.B y.B)), aF (mF x.A y.B) (mF x.B y.A)⟩ := by
  unfold eM aF mF
  congr 1
  · rw [mA1, mA2, mX4]
  · rw [mA1, mA2]
theorem i_times_eq {x y : Ext} (hx : okE x) (hy : okE y) : i_Ext_times x y = some (eM x y) := by
  unfold i_Ext_times
  rw [i_mul_eq hx.1 hy.1, i_mul_eq hx.2 hy.2]
  simp only [Option.bind_some]
  rw [i_mul_eq okF3 (mF_ok _ _)]
  simp only [Option.bind_some]
  rw [i_add_eq (mF_ok _ _) (mF_ok _ _), i_mul_eq hx.1 hy.2, i_mul_eq hx.2 hy.1]
  simp only [Option.bind_some]
  rw [i_add_eq (mF_ok _ _) (mF_ok _ _), eM_form]; rfl
theorem i_scaled_eq {x : Ext} {n : Int} (hx : okE x) (hn : okF n) : i_Ext_scaled x n = some (eC x n) := by
  unfold i_Ext_scaled; rw [i_mul_eq hx.1 hn, i_mul_eq hx.2 hn]; rfl
theorem i_one_eq : i_one = some e1 := rfl
theorem i_in_eq (n a b : Int) : i_in n a b = some (decide (a ≤ n) && decide (n ≤ b)) := by
  unfold i_in; cases decide (a ≤ n) <;> rfl
theorem i_FieldOK_eq (a : Int) : i_FieldOK a = some (okFb a) := by
  unfold i_FieldOK; rw [i_in_eq]; rfl
theorem i_ExtOK_eq (x : Ext) : i_ExtOK x = some (okEb x) := by
  unfold i_ExtOK okEb; rw [i_FieldOK_eq, i_FieldOK_eq]; cases okFb x.A <;> rfl
/-! ### the reference -/
theorem s_in_eq (n a b : Int) : s_l01In n a b = some (decide (a ≤ n) && decide (n ≤ b)) := by
  unfold s_l01In; cases decide (a ≤ n) <;> rfl
theorem s_FieldOK_eq (a : Int) : s_FieldOK a = some (okFb a) := by
  unfold s_FieldOK; rw [s_in_eq]; rfl
theorem s_ExtOK_eq (x : Ext) : s_ExtOK x = some (okEb x) := by
  unfold s_ExtOK okEb; rw [s_FieldOK_eq, s_FieldOK_eq]; cases okFb x.A <;> rfl

/-! ### laws -/
theorem sub_self (x : Ext) : eS x x = e0 := by
  apply ext_eq <;> simp [eS, e0]
theorem eC_eq (x : Ext) (n : Int) : eC x n = eM x (eN n) := by
  apply ext_eq <;> (simp only [eC, eM, eN]; congr 1; grind)
end Go.AI.Fn

set_option linter.unusedVariables false
set_option linter.unusedSimpArgs false
namespace Go.AI.Fn

/-! ### powers of two -/
def isP (n : Nat) : Bool := n == 1 || n == 2 || n == 4 || n == 8 || n == 16 || n == 32 || n == 64 || n == 128 || n == 256 || n == 512
/-- A power of two, at most a greatest one. -/
def powB (n most : Int) : Bool := decide (1 ≤ n) && decide (n ≤ most) && isP n.toNat
theorem and_isP : ∀ n : Nat, n < 513 → 1 ≤ n → (and64 .i64 (n : Int) ((n : Int) - 1) == 0) = isP n := by decide +kernel
theorem i_isPower_eq {n most : Int} (h : most ≤ 512) : i_isPower n most = some (powB n most) := by
  unfold i_isPower powB
  rw [i_in_eq, Option.bind_some]
  by_cases h1 : 1 ≤ n
  · by_cases h2 : n ≤ most
    · rw [decide_eq_true h1, decide_eq_true h2, Bool.and_true, br_true, Bool.true_and, wrap_i64 _ (by omega) (by omega)]
      have := and_isP n.toNat (by omega) (by omega)
      rw [Int.toNat_of_nonneg (by omega)] at this
      rw [this]
    · rw [decide_eq_false h2]; simp [br]
  · rw [decide_eq_false h1]; simp [br]
end Go.AI.Fn

set_option linter.unusedVariables false
namespace Go.AI.Fn

structure Src (B : Int) (m : l00Src) : Prop where
  at0 : 0 ≤ m.at_
  at1 : m.at_ ≤ B
  sd0 : 0 ≤ m.seed
  sd1 : m.seed < 2147483648
  len : m.code.length ≤ 1048600
theorem Src.mono {B C : Int} {m : l00Src} (h : Src B m) (hc : B ≤ C) : Src C m := ⟨h.at0, by have := h.at1; omega, h.sd0, h.sd1, h.len⟩
abbrev Big : Int := 4611686018427387904

theorem source_ok {code : List UInt8} (h : code.length ≤ 1048600) : ∃ m, s_l00Source code = some m ∧ Src 0 m := by
  refine ⟨_, rfl, ?_⟩
  have : (((code.length : Nat) : Int).tmod (1000 : Int)) = (code.length : Int) % 1000 := tmod_nn _ _ (by omega)
  constructor <;> dsimp only <;> omega

theorem byte_ok {B : Int} {m : l00Src} (h : Src B m) (hB : B < Big) : ∃ x m', s_l00Src_byte m = some (x, m') ∧ 0 ≤ x ∧ x < 256 ∧ Src (B + 1) m' := by
  obtain ⟨h1, h2, h3, h4, h5⟩ := h
  rcases m with ⟨code, at_, seed⟩
  dsimp only at h1 h2 h3 h4 h5
  unfold s_l00Src_byte
  dsimp only
  simp only [Big] at hB
  rw [wrap_i64 (at_ + 1) (by omega) (by omega)]
  by_cases c : at_ + 1 ≤ ((code.length : Nat) : Int)
  · rw [brd c, wrap_i64 (at_ + 1 - 1) (by omega) (by omega)]
    obtain ⟨x, hx, _, _⟩ := atL_of (l := code) (i := at_ + 1 - 1) (by omega) (by omega)
    have := u8_lt x
    rw [hx]
    simp only [Option.bind_some]
    rw [wrap_i64 (x.toNat : Int) (by omega) (by omega), wrap_i64 (seed * 31) (by omega) (by omega), wrap_i64 (seed * 31 + (x.toNat : Int)) (by omega) (by omega), wrap_i64 _ (by omega) (by omega), tmod_nn _ _ (by omega)]
    refine ⟨_, _, rfl, by omega, by omega, ?_⟩
    constructor <;> dsimp only <;> omega
  · rw [brn c]
    by_cases c2 : at_ + 1 > 3000
    · rw [brd c2]
      refine ⟨_, _, rfl, by omega, by omega, ?_⟩
      constructor <;> dsimp only <;> omega
    · rw [brn c2, wrap_i64 (seed * 1103515245) (by omega) (by omega), wrap_i64 (seed * 1103515245 + 12345) (by omega) (by omega), tmod_nn (seed * 1103515245 + 12345) _ (by omega), tdiv_nn _ _ (by omega), wrap_i64 _ (by omega) (by omega), tmod_nn _ _ (by omega)]
      refine ⟨_, _, rfl, by omega, by omega, ?_⟩
      constructor <;> dsimp only <;> omega

theorem next_ok {B n : Int} {m : l00Src} (h : Src B m) (hB : B + 3 < Big) : ∃ x m', s_l00Src_next n m = some (x, m') ∧ 0 ≤ x ∧ (1 < n → x < n) ∧ (n ≤ 1 → x = 0) ∧ Src (B + 3) m' := by
  unfold s_l00Src_next
  by_cases c : n ≤ 1
  · rw [brd c]; exact ⟨_, _, rfl, by omega, by omega, fun _ => rfl, h.mono (by omega)⟩
  · rw [brn c]
    by_cases c2 : n ≤ 256
    · rw [brd c2]
      obtain ⟨x, m1, e1, x0, x1, s1⟩ := byte_ok h (by omega)
      rw [e1]
      simp only [Option.bind_some]
      rw [brd (by omega), tmod_nn _ _ x0]
      exact ⟨_, _, rfl, Int.emod_nonneg _ (by omega), fun _ => Int.emod_lt_of_pos _ (by omega), by omega, s1.mono (by omega)⟩
    · rw [brn c2]
      obtain ⟨x, m1, e1, x0, x1, s1⟩ := byte_ok h (by omega)
      obtain ⟨y, m2, e2, y0, y1, s2⟩ := byte_ok s1 (by omega)
      obtain ⟨z, m3, e3, z0, z1, s3⟩ := byte_ok s2 (by omega)
      rw [e1]
      simp only [Option.bind_some]
      rw [e2]
      simp only [Option.bind_some]
      rw [e3]
      simp only [Option.bind_some]
      rw [brd (by omega), wrap_i64 (x * 65536) (by omega) (by omega), wrap_i64 (y * 256) (by omega) (by omega), wrap_i64 (x * 65536 + y * 256) (by omega) (by omega), wrap_i64 _ (by omega) (by omega), tmod_nn _ _ (by omega)]
      exact ⟨_, _, rfl, Int.emod_nonneg _ (by omega), fun _ => Int.emod_lt_of_pos _ (by omega), by omega, s3.mono (by omega)⟩

theorem chance_ok {B n : Int} {m : l00Src} (h : Src B m) (hB : B + 3 < Big) : ∃ x m', s_l00Src_chance n m = some (x, m') ∧ Src (B + 3) m' := by
  unfold s_l00Src_chance
  obtain ⟨x, m1, e1, _, _, _, s1⟩ := next_ok (n := n) h hB
  rw [e1]
  exact ⟨_, _, rfl, s1⟩

theorem field_ok {B : Int} {m : l00Src} (h : Src B m) (hB : B + 18 < Big) : ∃ x m', s_l00Src_field m = some (x, m') ∧ okF x ∧ Src (B + 18) m' := by
  unfold s_l00Src_field
  obtain ⟨x, m1, e1, x0, x1, _, s1⟩ := next_ok (n := 5) h (by omega)
  have := x1 (by omega)
  rw [e1]
  simp only [Option.bind_some]
  by_cases c : x = 0
  · rw [bre c]
    obtain ⟨y, m2, e2, y0, y1, _, s2⟩ := next_ok (n := 4) s1 (by omega)
    have := y1 (by omega)
    rw [e2]
    exact ⟨_, _, rfl, ⟨by omega, by omega⟩, s2.mono (by omega)⟩
  · rw [brne c]
    by_cases c2 : x = 1
    · rw [bre c2]
      obtain ⟨y, m2, e2, y0, y1, _, s2⟩ := next_ok (n := 3) s1 (by omega)
      have := y1 (by omega)
      rw [e2]
      refine ⟨_, _, rfl, ⟨?_, ?_⟩, s2.mono (by omega)⟩ <;> rw [wrap_i64 _ (by omega) (by omega)] <;> omega
    · rw [brne c2]
      have key := Loop_inv (step := s_l00Src_field_1_s)
        (fun s => okF s.1 ∧ 0 ≤ s.2.1 ∧ s.2.1 ≤ 5 ∧ Src (B + 3 + 3 * s.2.1) ⟨s.2.2.1, s.2.2.2.1, s.2.2.2.2⟩) (fun s => (5 - s.2.1).toNat)
        (fun e => okF e.1 ∧ Src (B + 18) ⟨e.2.2.2.1, e.2.2.2.2.1, e.2.2.2.2.2⟩) ?_ ((0 : Int), (0 : Int), m1.code, m1.at_, m1.seed) ⟨⟨by first | omega | (dsimp only; omega), by first | omega | (dsimp only; omega)⟩, by first | omega | (dsimp only; omega), by first | omega | (dsimp only; omega), s1.mono (by first | omega | (dsimp only; omega))⟩
      · obtain ⟨e, he, h1, h2⟩ := key
        rw [he]
        exact ⟨_, _, rfl, h1, h2⟩
      · rintro ⟨n, i, c, c2, c3⟩ ⟨⟨n0, n1⟩, i0, i1, hs⟩
        dsimp only at n0 n1 i0 i1 hs
        by_cases hi : i < 5
        · left
          obtain ⟨y, m2, e2, y0, y1, _, s2⟩ := next_ok (n := 256) hs (by omega)
          have := y1 (by omega)
          simp only [s_l00Src_field_1_s]
          rw [brd hi, e2]
          simp only [Option.bind_some]
          rw [wrap_i64 (n * 256) (by omega) (by omega), wrap_i64 (n * 256 + y) (by omega) (by omega), wrap_i64 (i + 1) (by omega) (by omega), tmod_nn _ _ (by omega)]
          refine ⟨_, rfl, ⟨⟨?_, ?_⟩, ?_, ?_, s2.mono ?_⟩, ?_⟩ <;> dsimp only <;> omega
        · right
          simp only [s_l00Src_field_1_s]
          rw [brn hi]
          exact ⟨_, rfl, ⟨n0, n1⟩, hs.mono (by first | omega | (dsimp only; omega))⟩
end Go.AI.Fn

set_option linter.unusedVariables false
namespace Go.AI.Fn
theorem ext_ok {B : Int} {m : l00Src} (h : Src B m) (hB : B + 40 < Big) : ∃ x m', s_l00Src_ext m = some (x, m') ∧ okE x ∧ Src (B + 40) m' := by
  unfold s_l00Src_ext
  obtain ⟨x, m1, e1, s1⟩ := chance_ok (n := 4) h (by omega)
  rw [e1]
  simp only [Option.bind_some]
  obtain ⟨y, m2, e2, y0, s2⟩ := field_ok s1 (by omega)
  obtain ⟨z, m3, e3, z0, s3⟩ := field_ok s2 (by omega)
  rw [e2]
  cases x
  · simp only [br_false, Option.bind_some]
    rw [e3]
    exact ⟨_, _, rfl, ⟨y0, z0⟩, s3.mono (by omega)⟩
  · exact ⟨_, _, rfl, ⟨y0, ⟨by first | omega | (dsimp only; omega), by first | omega | (dsimp only; omega)⟩⟩, s2.mono (by omega)⟩

theorem exts_ok {B n : Int} {m : l00Src} (h : Src B m) (hn0 : 0 ≤ n) (hn1 : n ≤ 1048576) (hB : B + 40 * n < Big) : ∃ l m', s_l00Src_exts n m = some (l, m') ∧ (l.length : Int) = n ∧ (∀ x ∈ l, okE x) ∧ Src (B + 40 * n) m' := by
  unfold s_l00Src_exts
  have key := Loop_inv (step := s_l00Src_exts_1_s n)
    (fun s => (s.1.length : Int) = s.2.1 ∧ (∀ x ∈ s.1, okE x) ∧ s.2.1 ≤ n ∧ Src (B + 40 * s.2.1) ⟨s.2.2.1, s.2.2.2.1, s.2.2.2.2⟩) (fun s => (n - s.2.1).toNat)
    (fun e => (e.1.length : Int) = n ∧ (∀ x ∈ e.1, okE x) ∧ Src (B + 40 * n) ⟨e.2.2.2.1, e.2.2.2.2.1, e.2.2.2.2.2⟩) ?_ (([] : List Ext), (0 : Int), m.code, m.at_, m.seed) ⟨by simp, by simp, by dsimp only; omega, h.mono (by first | omega | (dsimp only; omega))⟩
  · obtain ⟨e, he, h1, h2, h3⟩ := key
    rw [he]
    exact ⟨_, _, rfl, h1, h2, h3⟩
  · rintro ⟨l, i, c, c2, c3⟩ ⟨hl, ha, i1, hs⟩
    dsimp only at hl ha i1 hs
    by_cases hi : i < n
    · left
      obtain ⟨y, m2, e2, y0, s2⟩ := ext_ok hs (by omega)
      simp only [s_l00Src_exts_1_s]
      rw [brd hi, e2]
      simp only [Option.bind_some]
      rw [br_of (fits_of (by simp only [List.length_append, List.length_cons, List.length_nil]; omega)), wrap_i64 (i + 1) (by omega) (by omega)]
      refine ⟨_, rfl, ⟨?_, ?_, ?_, s2.mono ?_⟩, ?_⟩
      · simp only [List.length_append, List.length_cons, List.length_nil]; omega
      · intro x hx
        rcases List.mem_append.1 hx with hx | hx
        · exact ha x hx
        · rw [List.mem_singleton] at hx; subst hx; exact y0
      all_goals dsimp only; omega
    · right
      simp only [s_l00Src_exts_1_s]
      rw [brn hi]
      exact ⟨_, rfl, by dsimp only; omega, ha, hs.mono (by first | omega | (dsimp only; omega))⟩

theorem ExtsOf_ok {code : List UInt8} {n : Int} (h : code.length ≤ 1048600) (hn0 : 0 ≤ n) (hn1 : n ≤ 1048576) : ∃ l, s_ExtsOf code n = some l ∧ (l.length : Int) = n ∧ ∀ x ∈ l, okE x := by
  unfold s_ExtsOf
  obtain ⟨m, e1, s1⟩ := source_ok (show code.length ≤ 1048600 by omega)
  rw [e1]
  simp only [Option.bind_some]
  obtain ⟨l, m2, e2, h1, h2, _⟩ := exts_ok (n := n) s1 hn0 hn1 (by simp only [Big]; omega)
  rw [e2]
  exact ⟨_, rfl, h1, h2⟩
end Go.AI.Fn

set_option linter.unusedVariables false
set_option linter.unusedSimpArgs false
namespace Go.AI.Fn

/-! ### shapes of loops -/
theorem any_of_bad {α : Type} {p : α → Bool} {l : List α} {k : Nat} (hk : k < l.length) (h : p l[k] = true) : l.any p = true := List.any_eq_true.2 ⟨l[k], List.getElem_mem hk, h⟩
theorem none_of {α : Type} {p : α → Bool} {l : List α} (h : ∀ k (hk : k < l.length), p l[k] = false) : l.any p = false := by
  rw [List.any_eq_false]
  intro x hx
  obtain ⟨k, hk, rfl⟩ := List.getElem_of_mem hx
  simp [h k hk]
/-- 'the first place where something holds', as the library's IndexFunc and ContainsFunc look for it. -/
theorem contains_gen {α : Type} {p : α → Bool} {f : α → Option Bool} {l : List α} (hl : l.length ≤ 1099511627776) (hf : ∀ x ∈ l, f x = some (p x)) {step : Int → Option (Int ⊕ (Int ⊕ (Int × Bool)))}
    (hs : ∀ t, step t = br (decide (t < ((l.length : Nat) : Int))) ((atL l t).bind fun x => (f x).bind fun r => br r (some (.inr (.inl t))) (some (.inl (IntKind.wrap .i64 (t + 1))))) (some (.inr (.inr (t, decide (t < ((l.length : Nat) : Int))))))) :
    ((Loop step 0).bind (alt (fun e => some e) (fun _ => some (-1)))).bind (fun r => some (decide (r ≥ 0))) = some (l.any p) := by
  have key := Loop_all (step := step) (fun k => (k : Int)) l.length (fun k => !((l[k]?.map p).getD false)) (fun k => .inl (k : Int)) (e := .inr ((l.length : Int), false)) (fun k hk hp => by
      have hb : p l[k] = false := by simpa [hk] using hp
      rw [hs, brd (by omega), atL_nat hk, Option.bind_some, hf _ (List.getElem_mem hk), Option.bind_some, hb, br_false, wrap_i64 _ (by omega) (by omega)]; rfl)
    (fun k hk hp => by
      have hb : p l[k] = true := by simpa [hk] using hp
      rw [hs, brd (by omega), atL_nat hk, Option.bind_some, hf _ (List.getElem_mem hk), Option.bind_some, hb, br_true])
    (by rw [hs, brn (by omega), decide_eq_false (by omega)])
  rcases key with ⟨h1, h2⟩ | ⟨k, hk, h1, _, h2⟩
  · have e : Loop step 0 = some (.inr ((l.length : Int), false)) := h2
    rw [e, none_of (fun k hk => by simpa [hk] using h1 k hk)]; rfl
  · have e : Loop step 0 = some (.inl (k : Int)) := h2
    rw [e, any_of_bad hk (by simpa [hk] using h1)]
    simp only [Option.bind_some, alt_inl]
    rw [decide_eq_true (by omega)]
/-- 'false at the first that is not right'. -/
theorem all_gen {α : Type} {p : α → Bool} {f : α → Option Bool} {l : List α} (hl : l.length ≤ 1099511627776) (hf : ∀ x ∈ l, f x = some (p x)) {step : Int → Option (Int ⊕ (Unit ⊕ (Int × Bool)))}
    (hs : ∀ t, step t = br (decide (t < ((l.length : Nat) : Int))) ((atL l t).bind fun x => (f x).bind fun r => br (!r) (some (.inr (.inl ()))) (some (.inl (IntKind.wrap .i64 (t + 1))))) (some (.inr (.inr (t, decide (t < ((l.length : Nat) : Int))))))) :
    (Loop step 0).bind (alt (fun _ => some false) (fun _ => some true)) = some (l.all p) := by
  have key := Loop_all (step := step) (fun k => (k : Int)) l.length (fun k => ((l[k]?.map p).getD false)) (fun k => .inl ()) (e := .inr ((l.length : Int), false)) (fun k hk hp => by
      have hb : p l[k] = true := by simpa [hk] using hp
      rw [hs, brd (by omega), atL_nat hk, Option.bind_some, hf _ (List.getElem_mem hk), Option.bind_some, hb, Bool.not_true, br_false, wrap_i64 _ (by omega) (by omega)]; rfl)
    (fun k hk hp => by
      have hb : p l[k] = false := by simpa [hk] using hp
      rw [hs, brd (by omega), atL_nat hk, Option.bind_some, hf _ (List.getElem_mem hk), Option.bind_some, hb, Bool.not_false, br_true])
    (by rw [hs, brn (by omega), decide_eq_false (by omega)])
  rcases key with ⟨h1, h2⟩ | ⟨k, hk, h1, _, h2⟩
  · have e : Loop step 0 = some (.inr ((l.length : Int), false)) := h2
    have ha : l.all p = true := List.all_eq_true.2 fun x hx => by
      obtain ⟨k, hk, rfl⟩ := List.getElem_of_mem hx
      simpa [hk] using h1 k hk
    rw [e, ha]; rfl
  · have e : Loop step 0 = some (.inl ()) := h2
    have ha : l.all p = false := by
      rw [List.all_eq_false]
      exact ⟨l[k], List.getElem_mem hk, by simpa [hk] using h1⟩
    rw [e, ha]; rfl
theorem not_any_not {α : Type} (p : α → Bool) (l : List α) : (!l.any fun x => !p x) = l.all p := by
  induction l with
  | nil => rfl
  | cons x l ih => simp only [List.any_cons, List.all_cons, ← ih]; cases p x <;> simp

theorem i_areF_eq {l : List Int} (hl : l.length ≤ 1099511627776) : i_are_int_FieldOK l = some (l.all okFb) := by
  unfold i_are_int_FieldOK slices_ContainsFunc_Lint_int_are_int_1_FieldOK slices_IndexFunc_Lint_int_are_int_1_FieldOK
  rw [contains_gen (step := slices_IndexFunc_Lint_int_are_int_1_FieldOK_1_s l ((l.length : Nat) : Int)) (p := fun x => !okFb x) (f := i_are_int_1_FieldOK) hl (fun x _ => by unfold i_are_int_1_FieldOK; rw [i_FieldOK_eq]; rfl) (fun t => rfl), Option.bind_some, not_any_not]
theorem i_areE_eq {l : List Ext} (hl : l.length ≤ 1099511627776) : i_are_i_Ext_ExtOK l = some (l.all okEb) := by
  unfold i_are_i_Ext_ExtOK slices_ContainsFunc_Li_Ext_i_Ext_are_i_Ext_1_ExtOK slices_IndexFunc_Li_Ext_i_Ext_are_i_Ext_1_ExtOK
  rw [contains_gen (step := slices_IndexFunc_Li_Ext_i_Ext_are_i_Ext_1_ExtOK_1_s l ((l.length : Nat) : Int)) (p := fun x => !okEb x) (f := i_are_i_Ext_1_ExtOK) hl (fun x _ => by unfold i_are_i_Ext_1_ExtOK; rw [i_ExtOK_eq]; rfl) (fun t => rfl), Option.bind_some, not_any_not]
theorem s_listE_eq {l : List Ext} (hl : l.length ≤ 1099511627776) : s_l02List l = some (l.all okEb) := by
  unfold s_l02List
  exact all_gen (f := s_ExtOK) hl (fun x _ => s_ExtOK_eq x) (fun t => rfl)
theorem s_fields_eq {l : List Int} (hl : l.length ≤ 1099511627776) : s_l10Fields l = some (l.all okFb) := by
  unfold s_l10Fields
  exact all_gen (f := s_FieldOK) hl (fun x _ => s_FieldOK_eq x) (fun t => rfl)

def OkEs (l : List Ext) : Prop := ∀ x ∈ l, okE x
def OkFs (l : List Int) : Prop := ∀ x ∈ l, okF x
theorem allE {l : List Ext} : l.all okEb = true ↔ OkEs l := by
  rw [List.all_eq_true]; exact ⟨fun h x hx => okEb_iff.1 (h x hx), fun h x hx => okEb_iff.2 (h x hx)⟩
theorem allF {l : List Int} : l.all okFb = true ↔ OkFs l := by
  rw [List.all_eq_true]; exact ⟨fun h x hx => okFb_iff.1 (h x hx), fun h x hx => okFb_iff.2 (h x hx)⟩
theorem OkEs.get {l : List Ext} (h : OkEs l) {k : Nat} (hk : k < l.length) : okE l[k] := h _ (List.getElem_mem hk)
theorem OkFs.get {l : List Int} (h : OkFs l) {k : Nat} (hk : k < l.length) : okF l[k] := h _ (List.getElem_mem hk)
theorem OkEs.app {l m : List Ext} (h : OkEs l) (h2 : OkEs m) : OkEs (l ++ m) := fun x hx => (List.mem_append.1 hx).elim (h x) (h2 x)
theorem OkEs.nil : OkEs [] := fun x hx => by cases hx
theorem OkEs.one {x : Ext} (h : okE x) : OkEs [x] := fun y hy => by rw [List.mem_singleton.1 hy]; exact h
theorem OkEs.map {α : Type} {f : α → Ext} (l : List α) (h : ∀ x ∈ l, okE (f x)) : OkEs (l.map f) := fun y hy => by obtain ⟨x, hx, rfl⟩ := List.mem_map.1 hy; exact h x hx
theorem OkEs.take {l : List Ext} (h : OkEs l) (k : Nat) : OkEs (l.take k) := fun x hx => h x (List.mem_of_mem_take hx)
theorem OkEs.drop {l : List Ext} (h : OkEs l) (k : Nat) : OkEs (l.drop k) := fun x hx => h x (List.mem_of_mem_drop hx)

/-! ### sums of products -/
def dotM (a b : List Ext) : Ext := (a.zip b).foldl (fun c p => eA c (eM p.1 p.2)) e0
theorem zip_take_succ {α β : Type} {a : List α} {b : List β} {k : Nat} (ha : k < a.length) (hb : k < b.length) : (a.zip b).take (k + 1) = (a.zip b).take k ++ [(a[k], b[k])] := by
  rw [take_succ (by rw [List.length_zip]; omega), List.getElem_zip]
theorem dot_ok (l : List (Ext × Ext)) {c : Ext} (h : okE c) : okE (l.foldl (fun c p => eA c (eM p.1 p.2)) c) := by
  induction l generalizing c with
  | nil => exact h
  | cons p l ih => exact ih (eA_ok _ _)
theorem i_dot_eq {a b : List Ext} (ha : OkEs a) (hb : OkEs b) (hl : a.length ≤ b.length) (hn : a.length ≤ 1099511627776) : i_dot a b = some (dotM a b) := by
  unfold i_dot
  have key : Loop (i_dot_1_s b a ((a.length : Nat) : Int) 0 0) ((0 : Int), (0 : Int), (0 : Int)) = some ((a.length : Int), false, (dotM a b).A, (dotM a b).B) :=
    Loop_for (fun k => ((k : Int), (((a.zip b).take k).foldl (fun c p => eA c (eM p.1 p.2)) e0).A, (((a.zip b).take k).foldl (fun c p => eA c (eM p.1 p.2)) e0).B)) a.length (fun k hk => by
      simp only [i_dot_1_s]
      have hc := dot_ok ((a.zip b).take k) e0_ok
      rw [brd (by omega), atL_nat hk, Option.bind_some, atL_nat (by omega), Option.bind_some, i_times_eq (ha.get hk) (hb.get (by omega)), Option.bind_some, i_plus_eq hc (eM_ok _ _), Option.bind_some, wrap_i64 _ (by omega) (by omega), zip_take_succ hk (by omega), List.foldl_append]
      rfl) (by
      simp only [i_dot_1_s]
      rw [brn (by omega), decide_eq_false (by omega), List.take_of_length_le (by rw [List.length_zip]; omega)]
      rfl)
  rw [key]; rfl

/-! ### the table of a point -/
def eqS (out : List Ext) (p : Ext) : List Ext := out.map (fun a => eM a (eS e1 p)) ++ out.map (fun a => eM a p)
def eqT (pt : List Ext) : List Ext := pt.foldl eqS [e1]
theorem eqS_len (out : List Ext) (p : Ext) : (eqS out p).length = 2 * out.length := by simp [eqS]; omega
theorem eqS_ok (out : List Ext) (p : Ext) : OkEs (eqS out p) := OkEs.app (OkEs.map _ fun x _ => eM_ok _ _) (OkEs.map _ fun x _ => eM_ok _ _)
theorem eqT_snoc (l : List Ext) (p : Ext) : eqT (l ++ [p]) = eqS (eqT l) p := by simp [eqT, List.foldl_append]
theorem eqF_ok {l out : List Ext} (h : OkEs out) : OkEs (l.foldl eqS out) := by
  induction l generalizing out with
  | nil => exact h
  | cons p l ih => exact ih (eqS_ok _ _)
theorem eqT_ok (l : List Ext) : OkEs (eqT l) := eqF_ok (OkEs.one e1_ok)
theorem eqF_len (l out : List Ext) : (l.foldl eqS out).length = 2 ^ l.length * out.length := by
  induction l generalizing out with
  | nil => simp
  | cons p l ih => rw [List.foldl_cons, ih, eqS_len, List.length_cons, Nat.pow_succ]; rw [Nat.mul_assoc]
theorem eqT_len (l : List Ext) : (eqT l).length = 2 ^ l.length := by rw [eqT, eqF_len]; simp
theorem pow2_6 : ∀ k : Nat, k ≤ 6 → 2 ^ k ≤ 64 := by decide
theorem i_eq2 {t : List Ext} {t2 t3 : Int} {out : List Ext} {p : Ext} (ho : OkEs out) (hp : okE p) (hn : out.length ≤ 1000000000) :
    Loop (i_eqTable_2_s t t2 t3 out ((out.length : Nat) : Int) p.A p.B) ([], [], 0) = some (out.map (fun a => eM a (eS e1 p)), out.map (fun a => eM a p), (out.length : Int), false) :=
  Loop_for (fun k => ((out.take k).map (fun a => eM a (eS e1 p)), (out.take k).map (fun a => eM a p), (k : Int))) out.length (fun k hk => by
    have he : Ext.mk p.A p.B = p := rfl
    simp only [i_eqTable_2_s, he]
    rw [brd (by omega), atL_nat hk, Option.bind_some, i_one_eq, Option.bind_some, i_minus_eq e1_ok hp, Option.bind_some, i_times_eq (ho.get hk) (eS_ok _ _), Option.bind_some,
      br_fits (by simp only [List.length_append, List.length_map, List.length_take, List.length_singleton]; omega), i_times_eq (ho.get hk) hp, Option.bind_some,
      br_fits (by simp only [List.length_append, List.length_map, List.length_take, List.length_singleton]; omega), wrap_i64 _ (by omega) (by omega), take_succ hk, List.map_append, List.map_append]
    rfl) (by
    simp only [i_eqTable_2_s]
    rw [brn (by omega), decide_eq_false (by omega), List.take_length])
theorem i_eqTable_eq {l : List Ext} (h : OkEs l) (hn : l.length ≤ 6) : i_eqTable l = some (eqT l) := by
  unfold i_eqTable
  have key : Loop (i_eqTable_1_s l ((l.length : Nat) : Int)) ([e1], 0) = some (eqT l, (l.length : Int), false) :=
    Loop_for (fun k => (eqT (l.take k), (k : Int))) l.length (fun k hk => by
      have hl := eqT_len (l.take k)
      have hb := pow2_6 (l.take k).length (by rw [List.length_take]; omega)
      simp only [i_eqTable_1_s]
      rw [brd (by omega), atL_nat hk, Option.bind_some, i_eq2 (eqT_ok _) (h.get hk) (by omega), Option.bind_some]
      dsimp only
      rw [br_fits (by simp only [List.length_append, List.length_map]; omega), wrap_i64 _ (by omega) (by omega), take_succ hk, eqT_snoc]
      rfl) (by
      simp only [i_eqTable_1_s]
      rw [brn (by omega), decide_eq_false (by omega), List.take_length])
  rw [i_one_eq, Option.bind_some, key]; rfl

theorem atL_e {l : List Ext} {k : Nat} (h : k < l.length) : atL l (k : Int) = some (l.getD k e0) := by simp [atL, h]
theorem OkEs.getD {l : List Ext} (h : OkEs l) (k : Nat) : okE (l.getD k e0) := by
  by_cases hk : k < l.length
  · simp [hk]; exact h.get hk
  · simp [List.getElem?_eq_none (Nat.le_of_not_lt hk)]; exact e0_ok
end Go.AI.Fn

set_option linter.unusedVariables false
set_option linter.unusedSimpArgs false
namespace Go.AI.Fn

end Go.AI.Fn

set_option linter.unusedVariables false
namespace Go.AI.Fn

theorem cmp_eq (x y : Int) : cmp_Compare_int x y = some (if x < y then -1 else if x > y then 1 else 0) := by
  unfold cmp_Compare_int cmp_isNaN_int
  simp only [Option.bind_some, bne_self_eq_false, br_false]
  by_cases h : x < y
  · rw [brd h, if_pos h]
  · rw [brn h, if_neg h]
    by_cases h2 : x > y
    · rw [brd h2, if_pos h2]
    · rw [brn h2, if_neg h2]
theorem or_step0 (a b : Int) : cmp_Or_int_1_s 0 [a, b] (([a, b].length : Nat) : Int) 0 = br (a != 0) (some (.inr (.inl a))) (some (.inl 1)) := by
  simp only [cmp_Or_int_1_s]
  rw [brd (by simp), show atL [a, b] 0 = some a by simp [atL], show IntKind.wrap .i64 (0 + 1) = 1 by decide]; rfl
theorem or_step1 (a b : Int) : cmp_Or_int_1_s 0 [a, b] (([a, b].length : Nat) : Int) 1 = br (b != 0) (some (.inr (.inl b))) (some (.inl 2)) := by
  simp only [cmp_Or_int_1_s]
  rw [brd (by simp), show atL [a, b] 1 = some b by simp [atL], show IntKind.wrap .i64 (1 + 1) = 2 by decide]; rfl
theorem or_step2 (a b : Int) : cmp_Or_int_1_s 0 [a, b] (([a, b].length : Nat) : Int) 2 = some (.inr (.inr (2, false))) := by
  simp only [cmp_Or_int_1_s]
  rw [brn (by simp)]; simp
theorem or_eq (a b : Int) : cmp_Or_int [a, b] = some (if a = 0 then b else a) := by
  unfold cmp_Or_int
  by_cases ha : a = 0
  · rw [Loop_inl (s' := 1) (by rw [or_step0, brbe ha]), if_pos ha]
    by_cases hb : b = 0
    · rw [Loop_inl (s' := 2) (by rw [or_step1, brbe hb]), Loop_inr (or_step2 a b), hb]; rfl
    · rw [Loop_inr (e := .inl b) (by rw [or_step1, brb hb])]; rfl
  · rw [Loop_inr (e := .inl a) (by rw [or_step0, brb ha]), if_neg ha]; rfl
def ltE (y x : Entry) : Prop := y.Row < x.Row ∨ (y.Row = x.Row ∧ y.Col < x.Col)
theorem order_eq (y x : Entry) : ∃ c, i_Entry_order y x = some c ∧ (c ≥ 0 ↔ ¬ ltE y x) := by
  unfold i_Entry_order
  rw [cmp_eq, cmp_eq]
  simp only [Option.bind_some, or_eq]
  refine ⟨_, rfl, ?_⟩
  unfold ltE
  by_cases h1 : y.Row < x.Row
  · simp [h1]
  · by_cases h2 : y.Row > x.Row
    · simp [h1, h2]; omega
    · have h3 : y.Row = x.Row := by omega
      by_cases h4 : y.Col < x.Col
      · simp [h3, h4]
      · by_cases h5 : y.Col > x.Col
        · simp [h3, h4, h5]
        · simp [h3, h4, h5]

def inE (R C : Int) (x : Entry) : Prop := (0 ≤ x.Row ∧ x.Row ≤ R - 1) ∧ (0 ≤ x.Col ∧ x.Col ≤ C - 1) ∧ 1 ≤ x.Value ∧ x.Value ≤ 2130706432
def badE (l : List Entry) (R C : Int) (t : Nat) : Prop := ∃ x, l[t]? = some x ∧ (¬ inE R C x ∨ (0 < t ∧ ∃ y, l[t - 1]? = some y ∧ ¬ ltE y x))
open Classical in
noncomputable def matB (l : List Entry) (R C : Int) : Bool := decide (l.length ≤ 200 ∧ ∀ t, ¬ badE l R C t)

open Classical in
theorem matB_t {l : List Entry} {R C : Int} (h : l.length ≤ 200) (g : ∀ t, ¬ badE l R C t) : matB l R C = true := by unfold matB; exact decide_eq_true ⟨h, g⟩
open Classical in
theorem matB_f {l : List Entry} {R C : Int} (h : l.length ≤ 200 → ¬ ∀ t, ¬ badE l R C t) : matB l R C = false := by unfold matB; exact decide_eq_false fun g => h g.1 g.2
open Classical in
theorem matB_len {l : List Entry} {R C : Int} (h : matB l R C = true) : l.length ≤ 200 := by unfold matB at h; exact (of_decide_eq_true h).1
theorem i_inA (n a b : Int) : i_in n a b = some (decide (a ≤ n ∧ n ≤ b)) := by
  unfold i_in
  by_cases h : a ≤ n
  · rw [brd h]; simp [h]
  · rw [brn h]; simp [h]
theorem s_inA (n a b : Int) : s_l01In n a b = some (decide (a ≤ n ∧ n ≤ b)) := by
  unfold s_l01In
  by_cases h : a ≤ n
  · rw [brd h]; simp [h]
  · rw [brn h]; simp [h]
theorem isMatrix_eq {l : List Entry} {R C : Int} (hl : l.length ≤ 1099511627776) (hR : 1 ≤ R ∧ R ≤ 4096) (hC : 1 ≤ C ∧ C ≤ 4096) : i_isMatrix l R C = some (matB l R C) := by
  unfold i_isMatrix
  have key := Loop_inv (step := i_isMatrix_1_s l R C l ((l.length : Nat) : Int)) (fun t => 0 ≤ t ∧ t ≤ l.length ∧ ∀ k : Nat, (k : Int) < t → ¬ badE l R C k) (fun t => (l.length - t).toNat)
    (fun e => (∃ x, e = .inl x ∧ ∃ k, badE l R C k) ∨ (∃ x, e = .inr x ∧ ∀ k, ¬ badE l R C k)) ?_ 0 ⟨by omega, by omega, by omega⟩
  · obtain ⟨e, he, ⟨x, rfl, k, hk⟩ | ⟨x, rfl, hk⟩⟩ := key
    · rw [he]
      simp only [Option.bind_some, alt_inl]
      rw [matB_f fun _ h => h k hk]
    · rw [he]
      simp only [Option.bind_some, alt_inr]
      by_cases h : l.length ≤ 200
      · rw [decide_eq_true (by omega), matB_t h hk]
      · rw [decide_eq_false (by omega), matB_f fun g => absurd g h]
  · intro t ⟨h0, h1, h2⟩
    simp only [i_isMatrix_1_s]
    by_cases c : t < (l.length : Int)
    · obtain ⟨x, r, e1, e2, e3⟩ := drop_cons (l := l) (i := t.toNat) (by omega)
      have next : ¬ badE l R C t.toNat → (fun t : Int => 0 ≤ t ∧ t ≤ l.length ∧ ∀ k : Nat, (k : Int) < t → ¬ badE l R C k) (t + 1) := by
        intro hn
        refine ⟨by omega, by omega, fun k hk => ?_⟩
        by_cases e : k = t.toNat
        · subst e; exact hn
        · exact h2 k (by omega)
      rw [brd c, atL_get h0 e3]
      simp only [Option.bind_some, i_inA]
      rw [wrap_i64 (R - 1) (by omega) (by omega), wrap_i64 (C - 1) (by omega) (by omega), wrap_i64 (t + 1) (by omega) (by omega)]
      by_cases i1 : 0 ≤ x.Row ∧ x.Row ≤ R - 1
      · rw [notd i1]
        by_cases i2 : 0 ≤ x.Col ∧ x.Col ≤ C - 1
        · rw [notd i2]
          by_cases i3 : 1 ≤ x.Value ∧ x.Value ≤ 2130706432
          · rw [notd i3]
            by_cases c3 : t > 0
            · rw [brd c3, wrap_i64 (t - 1) (by omega) (by omega)]
              obtain ⟨y, r2, f1, f2, f3⟩ := drop_cons (l := l) (i := (t - 1).toNat) (by omega)
              rw [atL_get (by omega) f3]
              simp only [Option.bind_some]
              obtain ⟨d, hd, hd2⟩ := order_eq y x
              rw [hd]
              simp only [Option.bind_some]
              rw [show (t - 1).toNat = t.toNat - 1 by omega] at f3
              by_cases c4 : d ≥ 0
              · rw [brd c4]
                exact .inr ⟨_, rfl, .inl ⟨_, rfl, t.toNat, x, e3, .inr ⟨by omega, y, f3, hd2.1 c4⟩⟩⟩
              · rw [brn c4]
                refine .inl ⟨_, rfl, next ?_, by omega⟩
                rintro ⟨x', g1, g | ⟨_, y', g2, g3⟩⟩
                · rw [e3] at g1; cases g1; exact g ⟨i1, i2, i3⟩
                · rw [e3] at g1; cases g1; rw [f3] at g2; cases g2; exact c4 (hd2.2 g3)
            · rw [brn c3]
              refine .inl ⟨_, rfl, next ?_, by omega⟩
              rintro ⟨x', g1, g | ⟨g0, _⟩⟩
              · rw [e3] at g1; cases g1; exact g ⟨i1, i2, i3⟩
              · omega
          · rw [notn i3]
            exact .inr ⟨_, rfl, .inl ⟨_, rfl, t.toNat, x, e3, .inl fun g => i3 g.2.2⟩⟩
        · rw [notn i2]
          exact .inr ⟨_, rfl, .inl ⟨_, rfl, t.toNat, x, e3, .inl fun g => i2 g.2.1⟩⟩
      · rw [notn i1]
        exact .inr ⟨_, rfl, .inl ⟨_, rfl, t.toNat, x, e3, .inl fun g => i1 g.1⟩⟩
    · rw [brn c]
      refine .inr ⟨_, rfl, .inr ⟨_, rfl, fun k hk => ?_⟩⟩
      have hkl : k < l.length := by
        obtain ⟨x, hx, _⟩ := hk
        obtain ⟨h, _⟩ := List.getElem?_eq_some_iff.1 hx
        exact h
      exact h2 k (by omega) hk

theorem list_eq {l : List Entry} {r c : Int} (hr : 0 ≤ r ∧ r ≤ 5) (hc : 0 ≤ c ∧ c ≤ 5) {R C : Int} (hR : shl64 .i64 1 r = R) (hC : shl64 .i64 1 c = C) (hR' : 1 ≤ R ∧ R ≤ 4096) (hC' : 1 ≤ C ∧ C ≤ 4096) : s_l10List l r c = some (matB l R C) := by
  unfold s_l10List
  by_cases hl : (l.length : Int) > 200
  · rw [brd hl]
    rw [matB_f (by omega)]
  rw [brn hl]
  have key := Loop_inv (step := s_l10List_1_s l r c) (fun t => 0 ≤ t ∧ t ≤ l.length ∧ ∀ k : Nat, (k : Int) < t → ¬ badE l R C k) (fun t => (l.length - t).toNat)
    (fun e => (∃ x, e = .inl x ∧ ∃ k, badE l R C k) ∨ (∃ x, e = .inr x ∧ ∀ k, ¬ badE l R C k)) ?_ 0 ⟨by omega, by omega, by omega⟩
  · obtain ⟨e, he, ⟨x, rfl, k, hk⟩ | ⟨x, rfl, hk⟩⟩ := key
    · rw [he]
      simp only [Option.bind_some, alt_inl]
      rw [matB_f fun _ h => h k hk]
    · rw [he]
      simp only [Option.bind_some, alt_inr]
      rw [matB_t (by omega) hk]
  · intro t ⟨h0, h1, h2⟩
    simp only [s_l10List_1_s]
    rw [wrap_u64 r (by omega) (by omega), wrap_u64 c (by omega) (by omega), hR, hC]
    by_cases ct : t < (l.length : Int)
    · obtain ⟨x, rest, e1, e2, e3⟩ := drop_cons (l := l) (i := t.toNat) (by omega)
      have next : ¬ badE l R C t.toNat → (fun t : Int => 0 ≤ t ∧ t ≤ l.length ∧ ∀ k : Nat, (k : Int) < t → ¬ badE l R C k) (t + 1) := by
        intro hn
        refine ⟨by omega, by omega, fun k hk => ?_⟩
        by_cases e : k = t.toNat
        · subst e; exact hn
        · exact h2 k (by omega)
      rw [brd ct, atL_get h0 e3]
      simp only [Option.bind_some, s_inA]
      rw [brd hr.1]
      rw [wrap_i64 (R - 1) (by omega) (by omega), wrap_i64 (C - 1) (by omega) (by omega), wrap_i64 (t + 1) (by omega) (by omega)]
      by_cases i1 : 0 ≤ x.Row ∧ x.Row ≤ R - 1
      · rw [notd i1, brd hc.1]
        by_cases i2 : 0 ≤ x.Col ∧ x.Col ≤ C - 1
        · rw [notd i2]
          by_cases i3 : 1 ≤ x.Value ∧ x.Value ≤ 2130706432
          · rw [notd i3]
            by_cases c3 : t > 0
            · rw [brd c3, wrap_i64 (t - 1) (by omega) (by omega)]
              obtain ⟨y, r2, f1, f2, f3⟩ := drop_cons (l := l) (i := (t - 1).toNat) (by omega)
              rw [atL_get (by omega) f3]
              simp only [Option.bind_some]
              rw [show (t - 1).toNat = t.toNat - 1 by omega] at f3
              have good : ltE y x → ¬ badE l R C t.toNat := by
                rintro hlt ⟨x', g1, g | ⟨_, y', g2, g3⟩⟩
                · rw [e3] at g1; cases g1; exact g ⟨i1, i2, i3⟩
                · rw [e3] at g1; cases g1; rw [f3] at g2; cases g2; exact g3 hlt
              have bad : ¬ ltE y x → badE l R C t.toNat := fun h => ⟨x, e3, .inr ⟨by omega, y, f3, h⟩⟩
              by_cases c4 : y.Row > x.Row
              · rw [brd c4]
                exact .inr ⟨_, rfl, .inl ⟨_, rfl, _, bad (by unfold ltE; omega)⟩⟩
              · rw [brn c4]
                by_cases c5 : y.Row = x.Row
                · rw [bre c5]
                  by_cases c6 : y.Col ≥ x.Col
                  · rw [brd c6]
                    exact .inr ⟨_, rfl, .inl ⟨_, rfl, _, bad (by unfold ltE; omega)⟩⟩
                  · rw [brn c6]
                    exact .inl ⟨_, rfl, next (good (by unfold ltE; omega)), by omega⟩
                · rw [brne c5]
                  exact .inl ⟨_, rfl, next (good (by unfold ltE; omega)), by omega⟩
            · rw [brn c3]
              refine .inl ⟨_, rfl, next ?_, by omega⟩
              rintro ⟨x', g1, g | ⟨g0, _⟩⟩
              · rw [e3] at g1; cases g1; exact g ⟨i1, i2, i3⟩
              · omega
          · rw [notn i3]
            exact .inr ⟨_, rfl, .inl ⟨_, rfl, t.toNat, x, e3, .inl fun g => i3 g.2.2⟩⟩
        · rw [notn i2]
          exact .inr ⟨_, rfl, .inl ⟨_, rfl, t.toNat, x, e3, .inl fun g => i2 g.2.1⟩⟩
      · rw [notn i1]
        exact .inr ⟨_, rfl, .inl ⟨_, rfl, t.toNat, x, e3, .inl fun g => i1 g.1⟩⟩
    · rw [brn ct]
      refine .inr ⟨_, rfl, .inr ⟨_, rfl, fun k hk => ?_⟩⟩
      have hkl : k < l.length := by
        obtain ⟨x, hx, _⟩ := hk
        obtain ⟨h, _⟩ := List.getElem?_eq_some_iff.1 hx
        exact h
      exact h2 k (by omega) hk
end Go.AI.Fn

set_option linter.unusedVariables false
namespace Go.AI.Fn

theorem shl_ok {k : Int} (h : 0 ≤ k ∧ k ≤ 5) : 1 ≤ shl64 .i64 1 k ∧ shl64 .i64 1 k ≤ 4096 := by
  have : k = 0 ∨ k = 1 ∨ k = 2 ∨ k = 3 ∨ k = 4 ∨ k = 5 := by omega
  rcases this with rfl | rfl | rfl | rfl | rfl | rfl <;> decide

noncomputable def sysB (s : System) : Bool :=
  decide (1 ≤ s.Rows ∧ s.Rows ≤ 5) && (decide (2 ≤ s.Cols ∧ s.Cols ≤ 5) && (decide (0 ≤ s.Publics ∧ s.Publics ≤ shl64 .i64 1 (s.Cols - 1) - 1) &&
    (matB s.A (shl64 .i64 1 s.Rows) (shl64 .i64 1 s.Cols) && (matB s.B (shl64 .i64 1 s.Rows) (shl64 .i64 1 s.Cols) && matB s.C (shl64 .i64 1 s.Rows) (shl64 .i64 1 s.Cols)))))
theorem i_SystemOK_eq {s : System} (hA : s.A.length ≤ 1099511627776) (hB : s.B.length ≤ 1099511627776) (hC : s.C.length ≤ 1099511627776) : i_SystemOK s = some (sysB s) := by
  unfold i_SystemOK sysB
  simp only [i_inA, Option.bind_some]
  by_cases h1 : 1 ≤ s.Rows ∧ s.Rows ≤ 5
  · rw [notd h1]
    by_cases h2 : 2 ≤ s.Cols ∧ s.Cols ≤ 5
    · rw [notd h2]
      have k1 := shl_ok (k := s.Rows) (by omega)
      have k2 := shl_ok (k := s.Cols) (by omega)
      have k3 := shl_ok (k := s.Cols - 1) (by omega)
      unfold i_System_half i_System_matrices
      rw [wrap_i64 (s.Cols - 1) (by omega) (by omega), brd (by omega)]
      simp only [Option.bind_some]
      rw [wrap_i64 (shl64 .i64 1 (s.Cols - 1) - 1) (by omega) (by omega)]
      by_cases h3 : 0 ≤ s.Publics ∧ s.Publics ≤ shl64 .i64 1 (s.Cols - 1) - 1
      · rw [notd h3, brd (by omega), brd (by omega), isMatrix_eq hA k1 k2]
        simp only [Option.bind_some]
        rw [decide_eq_true h1, decide_eq_true h2, decide_eq_true h3]
        cases matB s.A (shl64 .i64 1 s.Rows) (shl64 .i64 1 s.Cols)
        · rfl
        · simp only [Bool.not_true, br_false]
          rw [brd (by omega), brd (by omega), isMatrix_eq hB k1 k2]
          simp only [Option.bind_some]
          cases matB s.B (shl64 .i64 1 s.Rows) (shl64 .i64 1 s.Cols)
          · rfl
          · simp only [Bool.not_true, br_false]
            rw [brd (by omega), brd (by omega), isMatrix_eq hC k1 k2]
            simp only [Option.bind_some]
            cases matB s.C (shl64 .i64 1 s.Rows) (shl64 .i64 1 s.Cols) <;> rfl
      · rw [notn h3, decide_eq_true h1, decide_eq_true h2, decide_eq_false h3]; rfl
    · rw [notn h2, decide_eq_true h1, decide_eq_false h2]; rfl
  · rw [notn h1, decide_eq_false h1]; rfl
theorem s_SystemOK_eq (s : System) : s_SystemOK s = some (sysB s) := by
  unfold s_SystemOK sysB
  simp only [s_inA, Option.bind_some]
  by_cases h1 : 1 ≤ s.Rows ∧ s.Rows ≤ 5
  · rw [brd h1]
    by_cases h2 : 2 ≤ s.Cols ∧ s.Cols ≤ 5
    · rw [brd h2]
      have k1 := shl_ok (k := s.Rows) (by omega)
      have k2 := shl_ok (k := s.Cols) (by omega)
      have k3 := shl_ok (k := s.Cols - 1) (by omega)
      rw [wrap_i64 (s.Cols - 1) (by omega) (by omega), wrap_u64 (s.Cols - 1) (by omega) (by omega), brd (by omega), wrap_i64 (shl64 .i64 1 (s.Cols - 1) - 1) (by omega) (by omega)]
      by_cases h3 : 0 ≤ s.Publics ∧ s.Publics ≤ shl64 .i64 1 (s.Cols - 1) - 1
      · rw [brd h3, list_eq (by omega) (by omega) rfl rfl k1 k2, list_eq (by omega) (by omega) rfl rfl k1 k2, list_eq (by omega) (by omega) rfl rfl k1 k2]
        rw [decide_eq_true h1, decide_eq_true h2, decide_eq_true h3]
        cases matB s.A (shl64 .i64 1 s.Rows) (shl64 .i64 1 s.Cols) <;> cases matB s.B (shl64 .i64 1 s.Rows) (shl64 .i64 1 s.Cols) <;> cases matB s.C (shl64 .i64 1 s.Rows) (shl64 .i64 1 s.Cols) <;> rfl
      · rw [brn h3, decide_eq_true h1, decide_eq_true h2, decide_eq_false h3]; rfl
    · rw [brn h2, decide_eq_true h1, decide_eq_false h2]; rfl
  · rw [brn h1, decide_eq_false h1]; rfl
theorem sysB_in {s : System} (h : sysB s = true) : (1 ≤ s.Rows ∧ s.Rows ≤ 5) ∧ (2 ≤ s.Cols ∧ s.Cols ≤ 5) ∧ (0 ≤ s.Publics ∧ s.Publics ≤ 4096) ∧ s.A.length ≤ 200 ∧ s.B.length ≤ 200 ∧ s.C.length ≤ 200 := by
  unfold sysB at h
  simp only [Bool.and_eq_true, decide_eq_true_eq] at h
  obtain ⟨h1, h2, h3, h4, h5, h6⟩ := h
  have k3 := shl_ok (k := s.Cols - 1) (by omega)
  exact ⟨h1, h2, by omega, matB_len h4, matB_len h5, matB_len h6⟩

def setB (t : Setting) : Bool := decide (1 ≤ t.Rate ∧ t.Rate ≤ 3) && (decide (1 ≤ t.Queries ∧ t.Queries ≤ 8) && decide (0 ≤ t.Grind ∧ t.Grind ≤ 12))
theorem i_SettingOK_eq (t : Setting) : i_SettingOK t = some (setB t) := by
  unfold i_SettingOK setB
  simp only [i_inA, Option.bind_some]
  cases decide (1 ≤ t.Rate ∧ t.Rate ≤ 3) <;> cases decide (1 ≤ t.Queries ∧ t.Queries ≤ 8) <;> rfl
theorem s_SettingOK_eq (t : Setting) : s_SettingOK t = some (setB t) := by
  unfold s_SettingOK setB
  simp only [s_inA, Option.bind_some]
  cases decide (1 ≤ t.Rate ∧ t.Rate ≤ 3) <;> cases decide (1 ≤ t.Queries ∧ t.Queries ≤ 8) <;> rfl
end Go.AI.Fn

set_option linter.unusedVariables false
set_option linter.unusedSimpArgs false
namespace Go.AI.Fn

theorem shl1 {k : Nat} (h : k ≤ 62) : shl64 .i64 1 (k : Int) = ((2 ^ k : Nat) : Int) := by
  have h2 : ∀ k : Nat, k < 63 → (2 : Int) ^ k ≤ 4611686018427387904 ∧ 0 < (2 : Int) ^ k := by decide
  obtain ⟨h3, h4⟩ := h2 k (by omega)
  show IntKind.wrap .i64 (1 * 2 ^ (min ((k : Int).toNat) 64)) = _
  rw [Int.toNat_natCast, Nat.min_eq_left (by omega), Int.one_mul, wrap_i64 _ (by omega) (by omega)]
  simp
theorem pow2_5 : ∀ k : Nat, k ≤ 5 → 1 ≤ 2 ^ k ∧ 2 ^ k ≤ 32 := by decide
end Go.AI.Fn

set_option linter.unusedVariables false
set_option linter.unusedSimpArgs false
namespace Go.AI.Fn

abbrev xo (a b : Int) : Int := xor64 .u64 a b
/-- Turned left. -/
def rot (x s : Int) : Int := if s = 0 then x else or64 .u64 (shl64 .u64 x s) (shr64 .u64 x (64 - s))
def u64b (x : Int) : Prop := 0 ≤ x ∧ x < 18446744073709551616
theorem wrapu_b (x : Int) : u64b (IntKind.wrap .u64 x) := by
  unfold u64b; simp [IntKind.wrap, IntKind.bits, IntKind.signed]; omega
theorem xo_b (a b : Int) : u64b (xo a b) := wrapu_b _
theorem bv_toNat {x : Int} (h : u64b x) : ((BitVec.ofInt 64 x).toNat : Int) = x := by
  obtain ⟨h0, h1⟩ := h
  rw [BitVec.toNat_ofInt]; omega
theorem xo_zero {a : Int} (h : u64b a) : xo 0 a = a := by
  show IntKind.wrap .u64 _ = a
  have : (BitVec.ofInt 64 0 ^^^ BitVec.ofInt 64 a) = BitVec.ofInt 64 a := by simp
  show IntKind.wrap .u64 ((BitVec.ofInt 64 0 ^^^ BitVec.ofInt 64 a).toNat : Int) = a
  rw [this, bv_toNat h, wrap_u64 a h.1 h.2]
theorem or_zero {a : Int} (h : u64b a) : or64 .u64 a 0 = a := by
  have : (BitVec.ofInt 64 a ||| BitVec.ofInt 64 0) = BitVec.ofInt 64 a := by simp
  show IntKind.wrap .u64 ((BitVec.ofInt 64 a ||| BitVec.ofInt 64 0).toNat : Int) = a
  rw [this, bv_toNat h, wrap_u64 a h.1 h.2]
theorem andn_eq (x y : Int) : andn64 .u64 x y = and64 .u64 (not64 .u64 y) x := by
  show IntKind.wrap .u64 ((BitVec.ofInt 64 x &&& ~~~ BitVec.ofInt 64 y).toNat : Int) = IntKind.wrap .u64 ((BitVec.ofInt 64 (not64 .u64 y) &&& BitVec.ofInt 64 x).toNat : Int)
  have h : BitVec.ofInt 64 (not64 .u64 y) = ~~~ BitVec.ofInt 64 y := by
    show BitVec.ofInt 64 (IntKind.wrap .u64 ((BitVec.ofInt 64 18446744073709551615 ^^^ BitVec.ofInt 64 y).toNat : Int)) = _
    have e : (BitVec.ofInt 64 18446744073709551615 ^^^ BitVec.ofInt 64 y) = ~~~ BitVec.ofInt 64 y := by
      rw [show BitVec.ofInt 64 18446744073709551615 = BitVec.allOnes 64 by decide, BitVec.allOnes_xor]
    rw [e, wrap_u64 _ (by omega) (by have := (~~~ BitVec.ofInt 64 y).isLt; omega)]
    rw [BitVec.ofInt_natCast, BitVec.ofNat_toNat]; simp
  rw [h, BitVec.and_comm]
theorem turn_eq {x s : Int} (hs : 0 ≤ s ∧ s < 64) : s_l03Turn x s = some (rot x s) := by
  unfold s_l03Turn rot
  by_cases h : s = 0
  · rw [bre h, if_pos h]
  · rw [brne h, if_neg h, brd hs.1, wrap_u64 (64 - s) (by omega) (by omega), brd (by omega)]
end Go.AI.Fn

set_option linter.unusedVariables false
set_option linter.unusedSimpArgs false
namespace Go.AI.Fn

theorem and63 : ∀ k : Nat, k < 64 → and64 .u64 (IntKind.wrap .u64 (k : Int)) 63 = (k : Int) := by decide
theorem rotl_eq {x s : Int} (hs : 0 ≤ s ∧ s < 64) (hx : s ≠ 0 ∨ u64b x) : math_bits_RotateLeft64 x s = some (rot x s) := by
  have e : and64 .u64 (IntKind.wrap .u64 s) 63 = s := by
    have := and63 s.toNat (by omega)
    rwa [Int.toNat_of_nonneg hs.1] at this
  unfold math_bits_RotateLeft64 rot
  rw [e, brd hs.1, wrap_u64 (64 - s) (by omega) (by omega), brd (by omega)]
  by_cases h : s = 0
  · subst h
    have hx : u64b x := hx.resolve_left (fun h => h rfl)
    have e1 : shl64 .u64 x 0 = x := by
      show IntKind.wrap .u64 (x * 2 ^ 0) = x
      rw [Int.pow_zero, Int.mul_one, wrap_u64 x hx.1 hx.2]
    have e2 : shr64 .u64 x (64 - 0) = 0 := by
      show x.fdiv (2 ^ 64) = 0
      rw [Int.fdiv_eq_ediv_of_nonneg _ (by decide)]
      exact Int.ediv_eq_zero_of_lt hx.1 hx.2
    rw [e1, e2, or_zero hx, if_pos rfl]
  · rw [if_neg h]

abbrev g (l : List Int) (i : Int) : Int := l.getD i.toNat 0

def shiftL : List Int := [0, 1, 62, 28, 27, 36, 44, 6, 55, 20, 3, 10, 43, 25, 39, 41, 45, 15, 21, 8, 18, 2, 61, 56, 14]
theorem shift_ok : ∀ k : Nat, k < 25 → 0 ≤ shiftL.getD k 0 ∧ shiftL.getD k 0 < 64 := by decide

-- the program
def p2 (m : List Int) (k : Nat) (l : List Int) : List Int := l.set ((k : Int) % 5).toNat (xo (g l ((k : Int) % 5)) (g m k))
def p3 (m c : List Int) (k : Nat) (l : List Int) : List Int :=
  l.set ((k : Int) / 5 + 5 * ((2 * ((k : Int) % 5) + 3 * ((k : Int) / 5)) % 5)).toNat (rot (xo (g m k) (xo (g c (((k : Int) % 5 + 4) % 5)) (rot (g c (((k : Int) % 5 + 1) % 5)) 1))) (g shiftL k))
def p4 (b : List Int) (k : Nat) (l : List Int) : List Int :=
  l.set k (xo (g b k) (andn64 .u64 (g b ((k : Int) - (k : Int) % 5 + ((k : Int) % 5 + 2) % 5)) (g b ((k : Int) - (k : Int) % 5 + ((k : Int) % 5 + 1) % 5))))
-- the reference
def q2 (m : List Int) (k : Nat) (l : List Int) : List Int := l.set k (xo (xo (xo (xo (g m k) (g m ((k : Int) + 5))) (g m ((k : Int) + 10))) (g m ((k : Int) + 15))) (g m ((k : Int) + 20)))
def q3 (c : List Int) (k : Nat) (l : List Int) : List Int := l.set k (xo (g l k) (xo (g c (((k : Int) + 4) % 5)) (rot (g c (((k : Int) + 1) % 5)) 1)))
def q5 (m : List Int) (x : Int) (y : Nat) (l : List Int) : List Int := l.set ((y : Int) + 5 * ((2 * x + 3 * (y : Int)) % 5)).toNat (rot (g m (x + 5 * (y : Int))) (g shiftL (x + 5 * (y : Int))))
def q4 (m : List Int) (x : Nat) (l : List Int) : List Int := iU (q5 m x) 5 l
def q7 (b : List Int) (x : Int) (y : Nat) (l : List Int) : List Int := l.set (x + 5 * (y : Int)).toNat (xo (g b (x + 5 * (y : Int))) (and64 .u64 (not64 .u64 (g b ((x + 1) % 5 + 5 * (y : Int)))) (g b ((x + 2) % 5 + 5 * (y : Int)))))
def q6 (b : List Int) (x : Nat) (l : List Int) : List Int := iU (q7 b x) 5 l

theorem p2_len (m : List Int) (k : Nat) (l : List Int) : (iU (p2 m) k l).length = l.length := iU_len (fun _ _ => List.length_set) k l
theorem p3_len (m c : List Int) (k : Nat) (l : List Int) : (iU (p3 m c) k l).length = l.length := iU_len (fun _ _ => List.length_set) k l
theorem p4_len (b : List Int) (k : Nat) (l : List Int) : (iU (p4 b) k l).length = l.length := iU_len (fun _ _ => List.length_set) k l
theorem q2_len (m : List Int) (k : Nat) (l : List Int) : (iU (q2 m) k l).length = l.length := iU_len (fun _ _ => List.length_set) k l
theorem q3_len (c : List Int) (k : Nat) (l : List Int) : (iU (q3 c) k l).length = l.length := iU_len (fun _ _ => List.length_set) k l
theorem q5_len (m : List Int) (x : Int) (k : Nat) (l : List Int) : (iU (q5 m x) k l).length = l.length := iU_len (fun _ _ => List.length_set) k l
theorem q7_len (m : List Int) (x : Int) (k : Nat) (l : List Int) : (iU (q7 m x) k l).length = l.length := iU_len (fun _ _ => List.length_set) k l
theorem q4_len (m : List Int) (k : Nat) (l : List Int) : (iU (q4 m) k l).length = l.length := iU_len (fun x l => q5_len m x 5 l) k l
theorem q6_len (m : List Int) (k : Nat) (l : List Int) : (iU (q6 m) k l).length = l.length := iU_len (fun x l => q7_len m x 5 l) k l

theorem loop_p2 {m5 m6 m7 m9 t4 : List Int} {t3 t5 : Int} (h : m5.length = 25) : Loop (i_lanes_permute_2_s m5 m6 m7 m9 t3 t4 t5) (nZ 5, 0) = some (iU (p2 m5) 25 (nZ 5), 25, false) :=
  Loop_for (fun k => (iU (p2 m5) k (nZ 5), (k : Int))) 25 (fun k hk => by
    have hl := p2_len m5 k (nZ 5)
    rw [nZ_len] at hl
    simp only [i_lanes_permute_2_s]
    simp (disch := omega) only [brd, tmod_nn, brdd, get_bind, wrap_i64]
    simp only [iU, p2, Int.toNat_natCast, cast_succ]
    rfl) (by
    simp (disch := omega) only [i_lanes_permute_2_s, brn]; rfl)

theorem loop_q2 {m5 m6 m7 m8 : List Int} {t2 : Int} (h : m5.length = 25) : Loop (s_l03Permute_2_s m5 m6 m7 m8 t2) (nZ 5, 0) = some (iU (q2 m5) 5 (nZ 5), 5, false) :=
  Loop_for (fun k => (iU (q2 m5) k (nZ 5), (k : Int))) 5 (fun k hk => by
    have hl := q2_len m5 k (nZ 5)
    rw [nZ_len] at hl
    simp only [s_l03Permute_2_s]
    simp (disch := omega) only [brd, tmod_nn, brdd, get_bind, wrap_i64]
    simp only [iU, q2, Int.toNat_natCast, cast_succ]
    rfl) (by
    simp (disch := omega) only [s_l03Permute_2_s, brn]; rfl)

theorem shift_at (k : Nat) (hk : k < 25) : 0 ≤ shiftL.getD k 0 ∧ shiftL.getD k 0 < 64 := shift_ok k hk
theorem shift_len : shiftL.length = 25 := rfl
theorem loop_p3 {m10 m12 c t8 : List Int} {t7 t9 : Int} (h : m10.length = 25) (hc : c.length = 5) : Loop (i_lanes_permute_3_s m10 shiftL m12 c t7 t8 t9) (nZ 25, 0) = some (iU (p3 m10 c) 25 (nZ 25), 25, false) :=
  Loop_for (fun k => (iU (p3 m10 c) k (nZ 25), (k : Int))) 25 (fun k hk => by
    have hl := p3_len m10 c k (nZ 25)
    rw [nZ_len] at hl
    have hs := shift_at k hk
    have hs1 := shift_len
    simp only [i_lanes_permute_3_s]
    simp (disch := omega) only [brd, tmod_nn, tdiv_nn, brdd, get_bind, wrap_i64]
    rw [rotl_eq ⟨by decide, by decide⟩ (.inl (by decide))]
    simp only [Option.bind_some]
    simp only [Int.toNat_natCast]
    rw [rotl_eq hs (.inr (xo_b _ _))]
    simp only [Option.bind_some]
    rfl) (by
    simp (disch := omega) only [i_lanes_permute_3_s, brn]; rfl)
theorem loop_p4 {m16 m17 m18 b t12 : List Int} {t11 t13 : Int} {m : List Int} (h : m.length = 25) (hb : b.length = 25) : Loop (i_lanes_permute_4_s m16 m17 m18 b t11 t12 t13 b) (m, 0) = some (iU (p4 b) 25 m, 25, false) :=
  Loop_for (fun k => (iU (p4 b) k m, (k : Int))) 25 (fun k hk => by
    have hl := p4_len b k m
    simp only [i_lanes_permute_4_s]
    simp (disch := omega) only [brd, tmod_nn, tdiv_nn, brdd, get_bind, wrap_i64]
    rfl) (by
    simp (disch := omega) only [i_lanes_permute_4_s, brn]; rfl)
theorem loop_q3 {m11 m12 m13 c m : List Int} {t4 : Int} (h : m.length = 25) (hc : c.length = 5) : Loop (s_l03Permute_3_s m11 m12 m13 c t4) (m, 0) = some (iU (q3 c) 25 m, 25, false) :=
  Loop_for (fun k => (iU (q3 c) k m, (k : Int))) 25 (fun k hk => by
    have hl := q3_len c k m
    simp only [s_l03Permute_3_s]
    simp (disch := omega) only [brd, tmod_nn, tdiv_nn, brdd, get_bind, wrap_i64]
    rw [turn_eq ⟨by decide, by decide⟩]
    simp only [Option.bind_some]
    rfl) (by
    simp (disch := omega) only [s_l03Permute_3_s, brn]; rfl)
theorem loop_q5 {a m22 m23 m25 m : List Int} {t8 : Int} {x : Nat} (hx : x < 5) (h : m.length = 25) (ha : a.length = 25) : Loop (s_l03Permute_5_s a m22 m23 shiftL m25 t8 x) (m, 0) = some (iU (q5 a x) 5 m, 5, false) :=
  Loop_for (fun k => (iU (q5 a x) k m, (k : Int))) 5 (fun k hk => by
    have hl := q5_len a x k m
    have hs := shift_at ((x : Int) + 5 * (k : Int)).toNat (by omega)
    have hs1 := shift_len
    simp only [s_l03Permute_5_s]
    simp (disch := omega) only [brd, tmod_nn, tdiv_nn, brdd, get_bind, wrap_i64]
    rw [turn_eq hs]
    simp only [Option.bind_some]
    rfl) (by
    simp (disch := omega) only [s_l03Permute_5_s, brn]; rfl)
theorem loop_q4 {a m16 m17 m19 m : List Int} {t6 : Int} (h : m.length = 25) (ha : a.length = 25) : Loop (s_l03Permute_4_s a m16 m17 shiftL m19 t6) (m, 0) = some (iU (q4 a) 5 m, 5, false) :=
  Loop_for (fun k => (iU (q4 a) k m, (k : Int))) 5 (fun k hk => by
    have hl := q4_len a k m
    simp only [s_l03Permute_4_s]
    rw [brd (by omega), loop_q5 hk (by omega) ha, Option.bind_some, wrap_i64 _ (by omega) (by omega)]
    rfl) (by
    simp (disch := omega) only [s_l03Permute_4_s, brn]; rfl)
theorem loop_q7 {m34 m35 m36 m37 b m : List Int} {t13 : Int} {x : Nat} (hx : x < 5) (h : m.length = 25) (hb : b.length = 25) : Loop (s_l03Permute_7_s m34 m35 m36 m37 b t13 x) (m, 0) = some (iU (q7 b x) 5 m, 5, false) :=
  Loop_for (fun k => (iU (q7 b x) k m, (k : Int))) 5 (fun k hk => by
    have hl := q7_len b x k m
    simp only [s_l03Permute_7_s]
    simp (disch := omega) only [brd, tmod_nn, tdiv_nn, brdd, get_bind, wrap_i64]
    rfl) (by
    simp (disch := omega) only [s_l03Permute_7_s, brn]; rfl)
theorem loop_q6 {m28 m29 m30 m31 b m : List Int} {t11 : Int} (h : m.length = 25) (hb : b.length = 25) : Loop (s_l03Permute_6_s m28 m29 m30 m31 b t11) (m, 0) = some (iU (q6 b) 5 m, 5, false) :=
  Loop_for (fun k => (iU (q6 b) k m, (k : Int))) 5 (fun k hk => by
    have hl := q6_len b k m
    simp only [s_l03Permute_6_s]
    rw [brd (by omega), loop_q7 hk (by omega) hb, Option.bind_some, wrap_i64 _ (by omega) (by omega)]
    rfl) (by
    simp (disch := omega) only [s_l03Permute_6_s, brn]; rfl)

/-- One round, as the program and as the reference do it. -/
def roundP (m : List Int) (rc : Int) : List Int :=
  let c := iU (p2 m) 25 (nZ 5)
  let b := iU (p3 m c) 25 (nZ 25)
  let r := iU (p4 b) 25 m
  r.set 0 (xo (r.getD 0 0) rc)
def roundQ (m : List Int) (rc : Int) : List Int :=
  let c := iU (q2 m) 5 (nZ 5)
  let a := iU (q3 c) 25 m
  let b := iU (q4 a) 5 (nZ 25)
  let r := iU (q6 b) 5 a
  r.set 0 (xo (r.getD 0 0) rc)
end Go.AI.Fn

set_option linter.unusedVariables false
set_option linter.unusedSimpArgs false
namespace Go.AI.Fn

theorem len_split {l : List Int} {n : Nat} (h : l.length = n + 1) : ∃ a r, l = a :: r ∧ r.length = n := by
  cases l with
  | nil => simp at h
  | cons a r => exact ⟨a, r, rfl, by simpa using h⟩
theorem len_nil {l : List Int} (h : l.length = 0) : l = [] := List.eq_nil_of_length_eq_zero h

theorem len25 {l : List Int} (h : l.length = 25) : ∃ a0 a1 a2 a3 a4 a5 a6 a7 a8 a9 a10 a11 a12 a13 a14 a15 a16 a17 a18 a19 a20 a21 a22 a23 a24, l = [a0, a1, a2, a3, a4, a5, a6, a7, a8, a9, a10, a11, a12, a13, a14, a15, a16, a17, a18, a19, a20, a21, a22, a23, a24] := by
  obtain ⟨a0, r0, rfl, h0⟩ := len_split h
  obtain ⟨a1, r1, rfl, h1⟩ := len_split h0
  obtain ⟨a2, r2, rfl, h2⟩ := len_split h1
  obtain ⟨a3, r3, rfl, h3⟩ := len_split h2
  obtain ⟨a4, r4, rfl, h4⟩ := len_split h3
  obtain ⟨a5, r5, rfl, h5⟩ := len_split h4
  obtain ⟨a6, r6, rfl, h6⟩ := len_split h5
  obtain ⟨a7, r7, rfl, h7⟩ := len_split h6
  obtain ⟨a8, r8, rfl, h8⟩ := len_split h7
  obtain ⟨a9, r9, rfl, h9⟩ := len_split h8
  obtain ⟨a10, r10, rfl, h10⟩ := len_split h9
  obtain ⟨a11, r11, rfl, h11⟩ := len_split h10
  obtain ⟨a12, r12, rfl, h12⟩ := len_split h11
  obtain ⟨a13, r13, rfl, h13⟩ := len_split h12
  obtain ⟨a14, r14, rfl, h14⟩ := len_split h13
  obtain ⟨a15, r15, rfl, h15⟩ := len_split h14
  obtain ⟨a16, r16, rfl, h16⟩ := len_split h15
  obtain ⟨a17, r17, rfl, h17⟩ := len_split h16
  obtain ⟨a18, r18, rfl, h18⟩ := len_split h17
  obtain ⟨a19, r19, rfl, h19⟩ := len_split h18
  obtain ⟨a20, r20, rfl, h20⟩ := len_split h19
  obtain ⟨a21, r21, rfl, h21⟩ := len_split h20
  obtain ⟨a22, r22, rfl, h22⟩ := len_split h21
  obtain ⟨a23, r23, rfl, h23⟩ := len_split h22
  obtain ⟨a24, r24, rfl, h24⟩ := len_split h23
  obtain rfl := len_nil h24
  exact ⟨_, _, _, _, _, _, _, _, _, _, _, _, _, _, _, _, _, _, _, _, _, _, _, _, _, rfl⟩

/-- 25 lanes. -/
def okLanes (m : List Int) : Prop := m.length = 25 ∧ ∀ x ∈ m, u64b x

/-- The five sums. -/
def cs (m : List Int) : List Int := iU (q2 m) 5 (nZ 5)
theorem sums_eq {m : List Int} (h : okLanes m) : iU (p2 m) 25 (nZ 5) = cs m := by
  obtain ⟨hl, hb⟩ := h
  obtain ⟨a0, a1, a2, a3, a4, a5, a6, a7, a8, a9, a10, a11, a12, a13, a14, a15, a16, a17, a18, a19, a20, a21, a22, a23, a24, rfl⟩ := len25 hl
  have e0 := xo_zero (hb a0 (by simp))
  have e1 := xo_zero (hb a1 (by simp))
  have e2 := xo_zero (hb a2 (by simp))
  have e3 := xo_zero (hb a3 (by simp))
  have e4 := xo_zero (hb a4 (by simp))
  have k : iU (p2 [a0, a1, a2, a3, a4, a5, a6, a7, a8, a9, a10, a11, a12, a13, a14, a15, a16, a17, a18, a19, a20, a21, a22, a23, a24]) 25 (nZ 5) = [xo (xo (xo (xo (xo 0 a0) a5) a10) a15) a20, xo (xo (xo (xo (xo 0 a1) a6) a11) a16) a21, xo (xo (xo (xo (xo 0 a2) a7) a12) a17) a22, xo (xo (xo (xo (xo 0 a3) a8) a13) a18) a23, xo (xo (xo (xo (xo 0 a4) a9) a14) a19) a24] := by kernel_rfl
  have k2 : cs [a0, a1, a2, a3, a4, a5, a6, a7, a8, a9, a10, a11, a12, a13, a14, a15, a16, a17, a18, a19, a20, a21, a22, a23, a24] =
    [xo (xo (xo (xo a0 a5) a10) a15) a20, xo (xo (xo (xo a1 a6) a11) a16) a21, xo (xo (xo (xo a2 a7) a12) a17) a22, xo (xo (xo (xo a3 a8) a13) a18) a23, xo (xo (xo (xo a4 a9) a14) a19) a24] := by kernel_rfl
  rw [k, k2, e0, e1, e2, e3, e4]

theorem p3_form {c : List Int} (a0 a1 a2 a3 a4 a5 a6 a7 a8 a9 a10 a11 a12 a13 a14 a15 a16 a17 a18 a19 a20 a21 a22 a23 a24 : Int) : iU (p3 [a0, a1, a2, a3, a4, a5, a6, a7, a8, a9, a10, a11, a12, a13, a14, a15, a16, a17, a18, a19, a20, a21, a22, a23, a24] c) 25 (nZ 25) = [rot (xo a0 (xo (g c 4) (rot (g c 1) 1))) 0, rot (xo a6 (xo (g c 0) (rot (g c 2) 1))) 44, rot (xo a12 (xo (g c 1) (rot (g c 3) 1))) 43, rot (xo a18 (xo (g c 2) (rot (g c 4) 1))) 21, rot (xo a24 (xo (g c 3) (rot (g c 0) 1))) 14, rot (xo a3 (xo (g c 2) (rot (g c 4) 1))) 28, rot (xo a9 (xo (g c 3) (rot (g c 0) 1))) 20, rot (xo a10 (xo (g c 4) (rot (g c 1) 1))) 3, rot (xo a16 (xo (g c 0) (rot (g c 2) 1))) 45, rot (xo a22 (xo (g c 1) (rot (g c 3) 1))) 61, rot (xo a1 (xo (g c 0) (rot (g c 2) 1))) 1, rot (xo a7 (xo (g c 1) (rot (g c 3) 1))) 6, rot (xo a13 (xo (g c 2) (rot (g c 4) 1))) 25, rot (xo a19 (xo (g c 3) (rot (g c 0) 1))) 8, rot (xo a20 (xo (g c 4) (rot (g c 1) 1))) 18, rot (xo a4 (xo (g c 3) (rot (g c 0) 1))) 27, rot (xo a5 (xo (g c 4) (rot (g c 1) 1))) 36, rot (xo a11 (xo (g c 0) (rot (g c 2) 1))) 10, rot (xo a17 (xo (g c 1) (rot (g c 3) 1))) 15, rot (xo a23 (xo (g c 2) (rot (g c 4) 1))) 56, rot (xo a2 (xo (g c 1) (rot (g c 3) 1))) 62, rot (xo a8 (xo (g c 2) (rot (g c 4) 1))) 55, rot (xo a14 (xo (g c 3) (rot (g c 0) 1))) 39, rot (xo a15 (xo (g c 4) (rot (g c 1) 1))) 41, rot (xo a21 (xo (g c 0) (rot (g c 2) 1))) 2] := by kernel_rfl
theorem q3_form {c : List Int} (a0 a1 a2 a3 a4 a5 a6 a7 a8 a9 a10 a11 a12 a13 a14 a15 a16 a17 a18 a19 a20 a21 a22 a23 a24 : Int) : iU (q3 c) 25 [a0, a1, a2, a3, a4, a5, a6, a7, a8, a9, a10, a11, a12, a13, a14, a15, a16, a17, a18, a19, a20, a21, a22, a23, a24] = [xo a0 (xo (g c 4) (rot (g c 1) 1)), xo a1 (xo (g c 0) (rot (g c 2) 1)), xo a2 (xo (g c 1) (rot (g c 3) 1)), xo a3 (xo (g c 2) (rot (g c 4) 1)), xo a4 (xo (g c 3) (rot (g c 0) 1)), xo a5 (xo (g c 4) (rot (g c 1) 1)), xo a6 (xo (g c 0) (rot (g c 2) 1)), xo a7 (xo (g c 1) (rot (g c 3) 1)), xo a8 (xo (g c 2) (rot (g c 4) 1)), xo a9 (xo (g c 3) (rot (g c 0) 1)), xo a10 (xo (g c 4) (rot (g c 1) 1)), xo a11 (xo (g c 0) (rot (g c 2) 1)), xo a12 (xo (g c 1) (rot (g c 3) 1)), xo a13 (xo (g c 2) (rot (g c 4) 1)), xo a14 (xo (g c 3) (rot (g c 0) 1)), xo a15 (xo (g c 4) (rot (g c 1) 1)), xo a16 (xo (g c 0) (rot (g c 2) 1)), xo a17 (xo (g c 1) (rot (g c 3) 1)), xo a18 (xo (g c 2) (rot (g c 4) 1)), xo a19 (xo (g c 3) (rot (g c 0) 1)), xo a20 (xo (g c 4) (rot (g c 1) 1)), xo a21 (xo (g c 0) (rot (g c 2) 1)), xo a22 (xo (g c 1) (rot (g c 3) 1)), xo a23 (xo (g c 2) (rot (g c 4) 1)), xo a24 (xo (g c 3) (rot (g c 0) 1))] := by kernel_rfl
theorem q4_form (a0 a1 a2 a3 a4 a5 a6 a7 a8 a9 a10 a11 a12 a13 a14 a15 a16 a17 a18 a19 a20 a21 a22 a23 a24 : Int) : iU (q4 [a0, a1, a2, a3, a4, a5, a6, a7, a8, a9, a10, a11, a12, a13, a14, a15, a16, a17, a18, a19, a20, a21, a22, a23, a24]) 5 (nZ 25) = [rot a0 0, rot a6 44, rot a12 43, rot a18 21, rot a24 14, rot a3 28, rot a9 20, rot a10 3, rot a16 45, rot a22 61, rot a1 1, rot a7 6, rot a13 25, rot a19 8, rot a20 18, rot a4 27, rot a5 36, rot a11 10, rot a17 15, rot a23 56, rot a2 62, rot a8 55, rot a14 39, rot a15 41, rot a21 2] := by kernel_rfl
theorem moved_eq {m c : List Int} (hm : m.length = 25) : iU (p3 m c) 25 (nZ 25) = iU (q4 (iU (q3 c) 25 m)) 5 (nZ 25) := by
  obtain ⟨a0, a1, a2, a3, a4, a5, a6, a7, a8, a9, a10, a11, a12, a13, a14, a15, a16, a17, a18, a19, a20, a21, a22, a23, a24, rfl⟩ := len25 hm
  rw [p3_form, q3_form, q4_form]

def p4' (b : List Int) (k : Nat) (l : List Int) : List Int := l.set k (xo (g b k) (and64 .u64 (not64 .u64 (g b ((k : Int) - (k : Int) % 5 + ((k : Int) % 5 + 1) % 5))) (g b ((k : Int) - (k : Int) % 5 + ((k : Int) % 5 + 2) % 5))))
theorem p4_eq (b : List Int) : p4 b = p4' b := by funext k l; unfold p4 p4'; rw [andn_eq]
theorem p4_form (a0 a1 a2 a3 a4 a5 a6 a7 a8 a9 a10 a11 a12 a13 a14 a15 a16 a17 a18 a19 a20 a21 a22 a23 a24 : Int) (b0 b1 b2 b3 b4 b5 b6 b7 b8 b9 b10 b11 b12 b13 b14 b15 b16 b17 b18 b19 b20 b21 b22 b23 b24 : Int) : iU (p4' [a0, a1, a2, a3, a4, a5, a6, a7, a8, a9, a10, a11, a12, a13, a14, a15, a16, a17, a18, a19, a20, a21, a22, a23, a24]) 25 [b0, b1, b2, b3, b4, b5, b6, b7, b8, b9, b10, b11, b12, b13, b14, b15, b16, b17, b18, b19, b20, b21, b22, b23, b24] = [xo a0 (and64 .u64 (not64 .u64 a1) a2), xo a1 (and64 .u64 (not64 .u64 a2) a3), xo a2 (and64 .u64 (not64 .u64 a3) a4), xo a3 (and64 .u64 (not64 .u64 a4) a0), xo a4 (and64 .u64 (not64 .u64 a0) a1), xo a5 (and64 .u64 (not64 .u64 a6) a7), xo a6 (and64 .u64 (not64 .u64 a7) a8), xo a7 (and64 .u64 (not64 .u64 a8) a9), xo a8 (and64 .u64 (not64 .u64 a9) a5), xo a9 (and64 .u64 (not64 .u64 a5) a6), xo a10 (and64 .u64 (not64 .u64 a11) a12), xo a11 (and64 .u64 (not64 .u64 a12) a13), xo a12 (and64 .u64 (not64 .u64 a13) a14), xo a13 (and64 .u64 (not64 .u64 a14) a10), xo a14 (and64 .u64 (not64 .u64 a10) a11), xo a15 (and64 .u64 (not64 .u64 a16) a17), xo a16 (and64 .u64 (not64 .u64 a17) a18), xo a17 (and64 .u64 (not64 .u64 a18) a19), xo a18 (and64 .u64 (not64 .u64 a19) a15), xo a19 (and64 .u64 (not64 .u64 a15) a16), xo a20 (and64 .u64 (not64 .u64 a21) a22), xo a21 (and64 .u64 (not64 .u64 a22) a23), xo a22 (and64 .u64 (not64 .u64 a23) a24), xo a23 (and64 .u64 (not64 .u64 a24) a20), xo a24 (and64 .u64 (not64 .u64 a20) a21)] := by kernel_rfl
theorem q6_form (a0 a1 a2 a3 a4 a5 a6 a7 a8 a9 a10 a11 a12 a13 a14 a15 a16 a17 a18 a19 a20 a21 a22 a23 a24 : Int) (b0 b1 b2 b3 b4 b5 b6 b7 b8 b9 b10 b11 b12 b13 b14 b15 b16 b17 b18 b19 b20 b21 b22 b23 b24 : Int) : iU (q6 [a0, a1, a2, a3, a4, a5, a6, a7, a8, a9, a10, a11, a12, a13, a14, a15, a16, a17, a18, a19, a20, a21, a22, a23, a24]) 5 [b0, b1, b2, b3, b4, b5, b6, b7, b8, b9, b10, b11, b12, b13, b14, b15, b16, b17, b18, b19, b20, b21, b22, b23, b24] = [xo a0 (and64 .u64 (not64 .u64 a1) a2), xo a1 (and64 .u64 (not64 .u64 a2) a3), xo a2 (and64 .u64 (not64 .u64 a3) a4), xo a3 (and64 .u64 (not64 .u64 a4) a0), xo a4 (and64 .u64 (not64 .u64 a0) a1), xo a5 (and64 .u64 (not64 .u64 a6) a7), xo a6 (and64 .u64 (not64 .u64 a7) a8), xo a7 (and64 .u64 (not64 .u64 a8) a9), xo a8 (and64 .u64 (not64 .u64 a9) a5), xo a9 (and64 .u64 (not64 .u64 a5) a6), xo a10 (and64 .u64 (not64 .u64 a11) a12), xo a11 (and64 .u64 (not64 .u64 a12) a13), xo a12 (and64 .u64 (not64 .u64 a13) a14), xo a13 (and64 .u64 (not64 .u64 a14) a10), xo a14 (and64 .u64 (not64 .u64 a10) a11), xo a15 (and64 .u64 (not64 .u64 a16) a17), xo a16 (and64 .u64 (not64 .u64 a17) a18), xo a17 (and64 .u64 (not64 .u64 a18) a19), xo a18 (and64 .u64 (not64 .u64 a19) a15), xo a19 (and64 .u64 (not64 .u64 a15) a16), xo a20 (and64 .u64 (not64 .u64 a21) a22), xo a21 (and64 .u64 (not64 .u64 a22) a23), xo a22 (and64 .u64 (not64 .u64 a23) a24), xo a23 (and64 .u64 (not64 .u64 a24) a20), xo a24 (and64 .u64 (not64 .u64 a20) a21)] := by kernel_rfl
theorem last_eq {b m a : List Int} (hb : b.length = 25) (hm : m.length = 25) (ha : a.length = 25) : iU (p4 b) 25 m = iU (q6 b) 5 a := by
  rw [p4_eq]
  obtain ⟨a0, a1, a2, a3, a4, a5, a6, a7, a8, a9, a10, a11, a12, a13, a14, a15, a16, a17, a18, a19, a20, a21, a22, a23, a24, rfl⟩ := len25 hb
  obtain ⟨b0, b1, b2, b3, b4, b5, b6, b7, b8, b9, b10, b11, b12, b13, b14, b15, b16, b17, b18, b19, b20, b21, b22, b23, b24, rfl⟩ := len25 hm
  obtain ⟨c0, c1, c2, c3, c4, c5, c6, c7, c8, c9, c10, c11, c12, c13, c14, c15, c16, c17, c18, c19, c20, c21, c22, c23, c24, rfl⟩ := len25 ha
  rw [p4_form, q6_form]
theorem round_eq {m : List Int} {rc : Int} (h : okLanes m) : roundP m rc = roundQ m rc := by
  unfold roundP roundQ
  dsimp only
  have h1 := sums_eq h
  unfold cs at h1
  rw [h1]
  have hc : (iU (q2 m) 5 (nZ 5)).length = 5 := by rw [q2_len, nZ_len]
  have ha : (iU (q3 (iU (q2 m) 5 (nZ 5))) 25 m).length = 25 := by rw [q3_len]; exact h.1
  rw [moved_eq h.1]
  rw [last_eq (a := iU (q3 (iU (q2 m) 5 (nZ 5))) 25 m) (by rw [q4_len, nZ_len]) h.1 ha]
theorem round_ok {m : List Int} {rc : Int} (h : okLanes m) : okLanes (roundP m rc) := by
  have hl : (roundP m rc).length = 25 := by
    unfold roundP; dsimp only; rw [List.length_set, p4_len]; exact h.1
  refine ⟨hl, ?_⟩
  unfold roundP
  dsimp only
  have hb : (iU (p3 m (iU (p2 m) 25 (nZ 5))) 25 (nZ 25)).length = 25 := by rw [p3_len, nZ_len]
  generalize iU (p3 m (iU (p2 m) 25 (nZ 5))) 25 (nZ 25) = b at hb
  have key : ∀ k, k ≤ 25 → ∀ i, i < k → ∀ hi : i < (iU (p4 b) k m).length, u64b (iU (p4 b) k m)[i] := by
    intro k
    induction k with
    | zero => intro _ i hi; omega
    | succ k ih =>
      intro hk i hi hlen
      simp only [iU, p4]
      rw [List.getElem_set]
      split
      · exact xo_b _ _
      · exact ih (by omega) i (by omega) (by simpa [iU, p4] using hlen)
  intro x hx
  rcases List.mem_or_eq_of_mem_set hx with h1 | h1
  · obtain ⟨i, hi, rfl⟩ := List.getElem_of_mem h1
    exact key 25 (by omega) i (by rw [p4_len] at hi; have := h.1; omega) hi
  · rw [h1]; exact xo_b _ _
end Go.AI.Fn

set_option linter.unusedVariables false
set_option linter.unusedSimpArgs false
set_option maxRecDepth 10000
namespace Go.AI.Fn

def rcL : List Int := [1, 32898, 9223372036854808714, 9223372039002292224, 32907, 2147483649, 9223372039002292353, 9223372036854808585, 138, 136, 2147516425, 2147483658, 2147516555, 9223372036854775947, 9223372036854808713, 9223372036854808579, 9223372036854808578, 9223372036854775936, 32778, 9223372039002259466, 9223372039002292353, 9223372036854808704, 2147483649, 9223372039002292232]
theorem rcL_eq : [1, 32898, 9223372036854808714, 9223372039002292224, 32907, 2147483649, 9223372039002292353, 9223372036854808585, 138, 136, 2147516425, 2147483658, 2147516555, 9223372036854775947, 9223372036854808713, 9223372036854808579, 9223372036854808578, 9223372036854775936, 32778, 9223372039002259466, 9223372039002292353, 9223372036854808704, 2147483649, 9223372039002292232] = rcL := rfl
theorem shiftL_eq : [0, 1, 62, 28, 27, 36, 44, 6, 55, 20, 3, 10, 43, 25, 39, 41, 45, 15, 21, 8, 18, 2, 61, 56, 14] = shiftL := rfl
theorem rcL_len : rcL.length = 24 := rfl
def rdP (k : Nat) (m : List Int) : List Int := roundP m (rcL.getD k 0)
/-- The permutation. -/
def permM (m : List Int) : List Int := iU rdP 24 m
theorem rd_succ (k : Nat) (m : List Int) : iU rdP (k + 1) m = roundP (iU rdP k m) (rcL.getD k 0) := by rw [iU, rdP]
theorem rd_ok {m : List Int} (h : okLanes m) : ∀ k, okLanes (iU rdP k m)
  | 0 => h
  | k + 1 => by rw [rd_succ]; exact round_ok (rd_ok h k)
theorem perm_ok {m : List Int} (h : okLanes m) : okLanes (permM m) := rd_ok h 24
theorem i_permute_eq {m : List Int} (h : okLanes m) : i_lanes_permute m = some (permM m) := by
  unfold i_lanes_permute
  have key : Loop (i_lanes_permute_1_s shiftL rcL rcL) (m, 0) = some (permM m, 24, false) :=
    Loop_for (fun k => (iU rdP k m, (k : Int))) 24 (fun k hk => by
      have h1 := rd_ok h k
      have hl1 := h1.1
      have hr := rcL_len
      simp only [i_lanes_permute_1_s]
      simp (disch := omega) only [brd, brdd, get_bind, wrap_i64]
      rw [loop_p2 h1.1, Option.bind_some, loop_p3 h1.1 (by rw [p2_len, nZ_len]), Option.bind_some, brd (by rw [p3_len, nZ_len]), loop_p4 h1.1 (by rw [p3_len, nZ_len]), Option.bind_some]
      have hl := p4_len (iU (p3 (iU rdP k m) (iU (p2 (iU rdP k m)) 25 (nZ 5))) 25 (nZ 25)) 25 (iU rdP k m)
      simp (disch := omega) only [get_bind, brd]
      rw [rd_succ]
      unfold roundP
      simp only [cast_succ, Int.toNat_natCast]) (by simp (disch := omega) only [i_lanes_permute_1_s, brn]; rfl)
  rw [rcL_eq, shiftL_eq, key, Option.bind_some]
theorem s_permute_eq {m : List Int} (h : okLanes m) : s_l03Permute m = some (permM m) := by
  unfold s_l03Permute
  have key : Loop (s_l03Permute_1_s (nZ 25) rcL shiftL) (m, 0) = some (permM m, 24, false) :=
    Loop_for (fun k => (iU rdP k m, (k : Int))) 24 (fun k hk => by
      have h1 := rd_ok h k
      have hl1 := h1.1
      have hr := rcL_len
      simp only [s_l03Permute_1_s]
      rw [brd (by omega), loop_q2 h1.1, Option.bind_some, loop_q3 h1.1 (by rw [q2_len, nZ_len]), Option.bind_some, loop_q4 (nZ_len 25) (by rw [q3_len]; exact h1.1), Option.bind_some,
        loop_q6 (by rw [q3_len]; exact h1.1) (by rw [q4_len, nZ_len]), Option.bind_some]
      have hl := q6_len (iU (q4 (iU (q3 (iU (q2 (iU rdP k m)) 5 (nZ 5))) 25 (iU rdP k m))) 5 (nZ 25)) 5 (iU (q3 (iU (q2 (iU rdP k m)) 5 (nZ 5))) 25 (iU rdP k m))
      rw [q3_len] at hl
      simp (disch := omega) only [get_bind, brd, brdd, wrap_i64]
      rw [rd_succ, round_eq h1]
      unfold roundQ
      simp only [cast_succ, Int.toNat_natCast]) (by simp (disch := omega) only [s_l03Permute_1_s, brn]; rfl)
  have hp := (perm_ok h).1
  rw [brd h.1]
  show (some rcL).bind _ = _
  rw [Option.bind_some, brd rcL_len]
  show (some shiftL).bind _ = _
  rw [Option.bind_some, brd shift_len, key, Option.bind_some, brd hp, brd hp, brd hp]

theorem atL_u8 {l : List UInt8} {k : Nat} (h : k < l.length) : atL l (k : Int) = some (l.getD k 0) := by simp [atL, h]
def lnS (t : List UInt8) (k : Nat) (l : List Int) : List Int := l.set ((k : Int) / 8).toNat (or64 .u64 (g l ((k : Int) / 8)) (shl64 .u64 (IntKind.wrap .u64 ((t.getD k 0).toNat : Int)) (8 * ((k : Int) % 8))))
/-- The lanes that bytes are. -/
def lanesM (t : List UInt8) : List Int := iU (lnS t) t.length (nZ 25)
theorem lnS_len (t : List UInt8) (k : Nat) (l : List Int) : (iU (lnS t) k l).length = l.length := iU_len (fun _ _ => List.length_set) k l
theorem lanes_ok (t : List UInt8) : okLanes (lanesM t) := by
  refine ⟨by rw [lanesM, lnS_len, nZ_len], ?_⟩
  have key : ∀ k, ∀ x ∈ iU (lnS t) k (nZ 25), u64b x := by
    intro k
    induction k with
    | zero => intro x hx; simp only [iU, nZ, List.mem_replicate] at hx; rw [hx.2]; exact ⟨by decide, by decide⟩
    | succ k ih =>
      intro x hx
      rcases List.mem_or_eq_of_mem_set hx with h1 | h1
      · exact ih x h1
      · rw [h1]; exact wrapu_b _
  exact key _
theorem i_lanesOf_eq {t : List UInt8} (h : t.length ≤ 200) : i_lanesOf t = some (lanesM t) := by
  unfold i_lanesOf
  have key : Loop (i_lanesOf_1_s (nZ 25) t ((t.length : Nat) : Int)) (nZ 25, 0) = some (lanesM t, (t.length : Int), false) :=
    Loop_for (fun k => (iU (lnS t) k (nZ 25), (k : Int))) t.length (fun k hk => by
      have hl := lnS_len t k (nZ 25)
      rw [nZ_len] at hl
      simp only [i_lanesOf_1_s]
      simp (disch := omega) only [brd, tmod_nn, tdiv_nn, brdd, get_bind, wrap_i64, atL_u8, Option.bind_some]
      rfl) (by simp (disch := omega) only [i_lanesOf_1_s, brn]; simp; rfl)
  have hl := (lanes_ok t).1
  rw [key, Option.bind_some, brd hl, brd hl, brd hl]
theorem s_lanes_eq {t : List UInt8} (h : t.length ≤ 200) : s_l03Lanes t = some (lanesM t) := by
  unfold s_l03Lanes
  have key : Loop (s_l03Lanes_1_s (nZ 25) t) (nZ 25, 0) = some (lanesM t, (t.length : Int), false) :=
    Loop_for (fun k => (iU (lnS t) k (nZ 25), (k : Int))) t.length (fun k hk => by
      have hl := lnS_len t k (nZ 25)
      rw [nZ_len] at hl
      simp only [s_l03Lanes_1_s]
      simp (disch := omega) only [brd, tmod_nn, tdiv_nn, brdd, get_bind, wrap_i64, wrap_u64, atL_u8, Option.bind_some]
      rfl) (by simp (disch := omega) only [s_l03Lanes_1_s, brn]; simp; rfl)
  have hl := (lanes_ok t).1
  rw [key, Option.bind_some, brd hl, brd hl, brd hl]

def txB (m : List Int) (i : Nat) : UInt8 := UInt8.ofInt (shr64 .u64 (g m ((i : Int) / 8)) (8 * ((i : Int) % 8)))
def textM (m : List Int) (n : Nat) : List UInt8 := (List.range n).map (txB m)
theorem textM_len (m : List Int) (n : Nat) : (textM m n).length = n := by simp [textM]
theorem textM_succ (m : List Int) (n : Nat) : textM m (n + 1) = textM m n ++ [txB m n] := by simp [textM, List.range_succ]
theorem i_text_eq {m : List Int} (h : m.length = 25) : i_lanes_text m = some (textM m 200, m) := by
  unfold i_lanes_text
  have key : Loop (i_lanes_text_1_s m) ([], 0) = some (textM m 200, 200, false) :=
    Loop_for (fun k => (textM m k, (k : Int))) 200 (fun k hk => by
      have hl := textM_len m k
      simp only [i_lanes_text_1_s]
      simp (disch := omega) only [brd, tmod_nn, tdiv_nn, brdd, get_bind, wrap_i64]
      rw [br_fits (by simp only [List.length_append, List.length_cons, List.length_nil]; omega), textM_succ]
      rfl) (by simp (disch := omega) only [i_lanes_text_1_s, brn]; rfl)
  rw [key]; rfl
theorem s_text_eq {m : List Int} (h : m.length = 25) {n : Nat} (hn : n ≤ 200) : s_l03Text m n = some (textM m n) := by
  unfold s_l03Text
  have key : Loop (s_l03Text_1_s m n) ([], 0) = some (textM m n, (n : Int), false) :=
    Loop_for (fun k => (textM m k, (k : Int))) n (fun k hk => by
      have hl := textM_len m k
      simp only [s_l03Text_1_s]
      simp (disch := omega) only [brd, tmod_nn, tdiv_nn, brdd, get_bind, wrap_i64, wrap_u64]
      rw [br_fits (by simp only [List.length_append, List.length_cons, List.length_nil]; omega), textM_succ]
      rfl) (by simp (disch := omega) only [s_l03Text_1_s, brn]; simp)
  rw [brd h, key]; rfl
end Go.AI.Fn

set_option linter.unusedVariables false
set_option linter.unusedSimpArgs false
namespace Go.AI.Fn

def xoS (t : List Int) (k : Nat) (l : List Int) : List Int := l.set k (xo (g l k) (g t k))
def xorM (t m : List Int) : List Int := iU (xoS t) 25 m
theorem xoS_len (t : List Int) (k : Nat) (l : List Int) : (iU (xoS t) k l).length = l.length := iU_len (fun _ _ => List.length_set) k l
theorem xor_ok {t m : List Int} (h : okLanes m) : okLanes (xorM t m) := by
  refine ⟨by rw [xorM, xoS_len]; exact h.1, ?_⟩
  have key : ∀ k, ∀ x ∈ iU (xoS t) k m, u64b x := by
    intro k
    induction k with
    | zero => exact h.2
    | succ k ih =>
      intro x hx
      rcases List.mem_or_eq_of_mem_set hx with h1 | h1
      · exact ih x h1
      · rw [h1]; exact wrapu_b _
  exact key _
theorem i_xor_eq {l5 a : List UInt8} {t m : List Int} (ht : t.length = 25) (h : m.length = 25) : Loop (i_keccak_4_s l5 a t) (m, 0) = some (xorM t m, 25, false) :=
  Loop_for (fun k => (iU (xoS t) k m, (k : Int))) 25 (fun k hk => by
    have hl := xoS_len t k m
    simp only [i_keccak_4_s]
    simp (disch := omega) only [brd, brdd, get_bind, wrap_i64]
    rfl) (by simp (disch := omega) only [i_keccak_4_s, brn]; rfl)
theorem s_xor_eq {l5 a : List UInt8} {p : Int} {t m : List Int} (ht : t.length = 25) (h : m.length = 25) : Loop (s_l03Hash_3_s l5 t a p) (m, 0) = some (xorM t m, 25, false) :=
  Loop_for (fun k => (iU (xoS t) k m, (k : Int))) 25 (fun k hk => by
    have hl := xoS_len t k m
    simp only [s_l03Hash_3_s]
    simp (disch := omega) only [brd, brdd, get_bind, wrap_i64]
    rfl) (by simp (disch := omega) only [s_l03Hash_3_s, brn]; rfl)

/-- One block taken in. -/
def absB (a : List UInt8) (k : Nat) (m : List Int) : List Int := permM (xorM (lanesM ((a.drop (136 * k)).take 136)) m)
def absM (a : List UInt8) (n : Nat) : List Int := iU (absB a) n (nZ 25)
theorem nZ_ok : okLanes (nZ 25) := ⟨nZ_len 25, fun x hx => by simp only [nZ, List.mem_replicate] at hx; rw [hx.2]; exact ⟨by decide, by decide⟩⟩
theorem abs_succ (a : List UInt8) (n : Nat) : absM a (n + 1) = permM (xorM (lanesM ((a.drop (136 * n)).take 136)) (absM a n)) := by
  unfold absM; rw [iU, absB]
theorem abs_ok (a : List UInt8) : ∀ n, okLanes (absM a n)
  | 0 => nZ_ok
  | n + 1 => by rw [abs_succ]; exact perm_ok (xor_ok (abs_ok a n))

theorem i_abs_eq {l4 a : List UInt8} {n : Nat} (h : a.length = 136 * n) (hn : n ≤ 1000000000) : Loop (i_keccak_3_s l4) (nZ 25, a) = some (absM a n, [], false) :=
  Loop_for (fun k => (absM a k, a.drop (136 * k))) n (fun k hk => by
    have h1 := abs_ok a k
    have hx := xor_ok (t := lanesM ((a.drop (136 * k)).take 136)) h1
    simp only [i_keccak_3_s]
    rw [brd (by rw [List.length_drop]; omega), subL_of (by omega) (by omega) (by rw [List.length_drop]; omega), Option.bind_some, subL_of (by omega) (by rw [List.length_drop]; omega) (by omega)]
    have e1 : (List.drop (Int.toNat 0) (List.drop (136 * k) a)).take (Int.toNat 136 - Int.toNat 0) = (a.drop (136 * k)).take 136 := rfl
    have e2 : (List.drop (Int.toNat 136) (List.drop (136 * k) a)).take ((((List.drop (136 * k) a).length : Nat) : Int).toNat - Int.toNat 136) = a.drop (136 * (k + 1)) := by
      rw [List.drop_drop, List.take_of_length_le (by rw [List.length_drop, List.length_drop]; simp; omega)]
      congr 1
    rw [e1, e2, i_lanesOf_eq (by rw [List.length_take]; omega), Option.bind_some, i_xor_eq (lanes_ok _).1 h1.1, Option.bind_some, i_permute_eq hx, Option.bind_some, Option.bind_some, abs_succ]) (by
    simp only [i_keccak_3_s]
    rw [brn (by rw [List.length_drop]; omega), List.drop_eq_nil_of_le (by omega)]
    rfl)
theorem s_abs_eq {l3 a : List UInt8} {n : Nat} (h : a.length = 136 * n) (hn : n ≤ 1000000000) : ∃ p, Loop (s_l03Hash_2_s l3 a) (nZ 25, 0) = some (absM a n, p) :=
  ⟨_, Loop_for (fun k => (absM a k, ((136 * k : Nat) : Int))) n (fun k hk => by
    have h1 := abs_ok a k
    have hx := xor_ok (t := lanesM ((a.drop (136 * k)).take 136)) h1
    simp only [s_l03Hash_2_s]
    rw [brd (by omega), wrap_i64 _ (by omega) (by omega), subL_of (by omega) (by omega) (by omega), Option.bind_some]
    have e1 : (List.drop (((136 * k : Nat) : Int)).toNat a).take (((((136 * k : Nat) : Int)) + 136).toNat - (((136 * k : Nat) : Int)).toNat) = (a.drop (136 * k)).take 136 := by
      congr 1
      omega
    rw [e1, s_lanes_eq (by rw [List.length_take]; omega), Option.bind_some, brd (lanes_ok _).1, s_xor_eq (lanes_ok _).1 h1.1, Option.bind_some, brd hx.1, s_permute_eq hx, Option.bind_some, brdd (perm_ok hx).1 hx.1, abs_succ]
    have e2 : (((136 * k : Nat) : Int)) + 136 = ((136 * (k + 1) : Nat) : Int) := by omega
    rw [e2]) (by
    simp only [s_l03Hash_2_s]
    rw [brn (by omega)])⟩

/-- Noughts behind a text, up to a whole number of blocks. -/
def padZ (l : List UInt8) : List UInt8 := l ++ List.replicate ((136 - l.length % 136) % 136) 0
theorem padZ_len (l : List UInt8) : (padZ l).length = 136 * ((l.length + 135) / 136) := by
  rw [padZ, List.length_append, List.length_replicate]; omega
theorem rep_snoc {α : Type} (n : Nat) (x : α) : List.replicate (n + 1) x = List.replicate n x ++ [x] := by
  rw [List.replicate_succ']
theorem i_pad_eq {c l : List UInt8} (h : l.length ≤ 1000000000) : Loop (i_keccak_2_s c) l = some (padZ l, false) := by
  have key := Loop_for (step := i_keccak_2_s c) (e := (padZ l, false)) (fun k => l ++ List.replicate k 0) ((136 - l.length % 136) % 136) (fun k hk => by
    simp only [i_keccak_2_s]
    rw [tmod_nn _ _ (by omega), brb (by rw [List.length_append, List.length_replicate]; omega), br_fits (by simp only [List.length_append, List.length_replicate, List.length_cons, List.length_nil]; omega), rep_snoc, List.append_assoc]) (by
    simp only [i_keccak_2_s]
    have e : ((((l ++ List.replicate ((136 - l.length % 136) % 136) (0 : UInt8)).length : Nat) : Int).tmod 136) = 0 := by
      rw [tmod_nn _ _ (by omega), List.length_append, List.length_replicate]; omega
    rw [e, brbe rfl]; rfl)
  rwa [List.replicate_zero, List.append_nil] at key
theorem s_pad_eq {c l : List UInt8} (h : l.length ≤ 1000000000) : Loop (s_l03Hash_1_s c) l = some (padZ l, false) := by
  have key := Loop_for (step := s_l03Hash_1_s c) (e := (padZ l, false)) (fun k => l ++ List.replicate k 0) ((136 - l.length % 136) % 136) (fun k hk => by
    simp only [s_l03Hash_1_s]
    rw [tmod_nn _ _ (by omega), brb (by rw [List.length_append, List.length_replicate]; omega), br_fits (by simp only [List.length_append, List.length_replicate, List.length_cons, List.length_nil]; omega), rep_snoc, List.append_assoc]) (by
    simp only [s_l03Hash_1_s]
    have e : ((((l ++ List.replicate ((136 - l.length % 136) % 136) (0 : UInt8)).length : Nat) : Int).tmod 136) = 0 := by
      rw [tmod_nn _ _ (by omega), List.length_append, List.length_replicate]; omega
    rw [e, brbe rfl]; rfl)
  rwa [List.replicate_zero, List.append_nil] at key

/-- The last byte's highest bit, set too. -/
def padM (b : List UInt8) : List UInt8 := (padZ (b ++ [1])).set ((padZ (b ++ [1])).length - 1) (UInt8.ofInt (or64 .u8 (((padZ (b ++ [1])).getD ((padZ (b ++ [1])).length - 1) 0).toNat : Int) 128))
/-- The hash. -/
def H (b : List UInt8) : List UInt8 := textM (absM (padM b) ((b.length + 136) / 136)) 32
theorem H_len (b : List UInt8) : (H b).length = 32 := textM_len _ _
theorem padM_len (b : List UInt8) : (padM b).length = 136 * ((b.length + 136) / 136) := by
  rw [padM, List.length_set, padZ_len, List.length_append, List.length_singleton]
theorem get_u8 {β : Type} {l : List UInt8} {i : Nat} {f : UInt8 → Option β} (h : i < l.length) : (l[i]?).bind f = f (l.getD i 0) := by simp [h]
theorem textM_take (m : List Int) : (textM m 200).take 32 = textM m 32 := by
  rw [textM, ← List.map_take, List.take_range]; rfl

theorem s_hash_eq {b : List UInt8} (h : b.length ≤ 100000000) : s_l03Hash b = some (H b) := by
  unfold s_l03Hash
  have hl := padZ_len (b ++ [1])
  rw [List.length_append, List.length_singleton] at hl
  have hpl := padM_len b
  rw [br_fits (by omega), br_fits (by rw [List.length_append, List.length_singleton]; omega), s_pad_eq (by rw [List.length_append, List.length_singleton]; omega), Option.bind_some]
  dsimp only
  rw [wrap_i64 _ (by omega) (by omega)]
  have ei : (((padZ (b ++ [1])).length : Int) - 1).toNat = (padZ (b ++ [1])).length - 1 := by omega
  rw [ei]
  simp (disch := omega) only [brd, get_u8]
  obtain ⟨p, hp⟩ := s_abs_eq (l3 := [1]) hpl (by omega)
  unfold padM at hp
  rw [hp, Option.bind_some]
  dsimp only
  have ok := abs_ok (padM b) ((b.length + 136) / 136)
  unfold padM at ok
  rw [brd ok.1]
  have ht := s_text_eq (n := 32) ok.1 (by omega)
  rw [show ((32 : Nat) : Int) = 32 from rfl] at ht
  rw [ht, Option.bind_some, H, padM]

theorem flat_pieces {l : List (List UInt8)} (h : l.flatten.length ≤ 1000000000) (hn : l.length ≤ 1000000) : Loop (i_keccak_1_s l ((l.length : Nat) : Int)) ([], 0) = some (l.flatten, (l.length : Int), false) :=
  Loop_for (fun k => ((l.take k).flatten, (k : Int))) l.length (fun k hk => by
    simp only [i_keccak_1_s]
    have h1 : ((l.take k).flatten ++ l[k]).length ≤ l.flatten.length := by
      have e : l.flatten = (l.take (k + 1)).flatten ++ (l.drop (k + 1)).flatten := by rw [← List.flatten_append, List.take_append_drop]
      rw [take_succ hk, List.flatten_append, List.flatten_singleton] at e
      have e2 := congrArg List.length e
      simp only [List.length_append] at e2 ⊢
      omega
    rw [brd (by omega), atL_nat hk, Option.bind_some, br_fits (by omega), wrap_i64 _ (by omega) (by omega), take_succ hk, List.flatten_append, List.flatten_singleton]
    rfl) (by
    simp only [i_keccak_1_s]
    rw [brn (by omega), List.take_length]; simp)
theorem i_keccak_eq {l : List (List UInt8)} (h : l.flatten.length ≤ 100000000) (hn : l.length ≤ 1000000) : i_keccak l = some (H l.flatten) := by
  unfold i_keccak
  rw [flat_pieces (by omega) hn, Option.bind_some]
  dsimp only
  generalize l.flatten = b at h
  have hl := padZ_len (b ++ [1])
  rw [List.length_append, List.length_singleton] at hl
  have hpl := padM_len b
  rw [br_fits (by rw [List.length_append, List.length_singleton]; omega), i_pad_eq (by rw [List.length_append, List.length_singleton]; omega), Option.bind_some]
  dsimp only
  rw [wrap_i64 _ (by omega) (by omega)]
  have ei : (((padZ (b ++ [1])).length : Int) - 1).toNat = (padZ (b ++ [1])).length - 1 := by omega
  rw [ei]
  simp (disch := omega) only [brd, get_u8]
  have hp := i_abs_eq (l4 := [1]) hpl (by omega)
  unfold padM at hp
  rw [hp, Option.bind_some]
  dsimp only
  have ok := abs_ok (padM b) ((b.length + 136) / 136)
  unfold padM at ok
  rw [i_text_eq ok.1, Option.bind_some, subL_of (by omega) (by omega) (by rw [textM_len]; omega), Option.bind_some, H, padM, ← textM_take]
  rfl
end Go.AI.Fn

set_option linter.unusedVariables false
namespace Go.AI.Fn

def four (n : Int) : List UInt8 := [UInt8.ofInt (shr64 .i64 n 24), UInt8.ofInt (shr64 .i64 n 16), UInt8.ofInt (shr64 .i64 n 8), UInt8.ofInt n]
theorem four_len (n : Int) : (four n).length = 4 := rfl
theorem i_fouro_eq {n : Int} {l : List UInt8} (h : l.length ≤ 1099511627770) : i_four_o n l = some (l ++ four n) := by
  unfold i_four_o
  rw [br_of (fits_of (by simp only [List.length_append, List.length_cons, List.length_nil]; omega))]; rfl
theorem shr0 (n : Int) : shr64 .i64 n 0 = n := by simp [shr64]
theorem number4 (n : Int) : s_l02Number n 4 = some (four n) := by
  unfold s_l02Number
  rw [show IntKind.wrap .i64 (4 - 1) = 3 by decide,
    Loop_inl (s' := ([UInt8.ofInt (shr64 .i64 n 24)], 2)) (by kernel_rfl),
    Loop_inl (s' := ([UInt8.ofInt (shr64 .i64 n 24), UInt8.ofInt (shr64 .i64 n 16)], 1)) (by kernel_rfl),
    Loop_inl (s' := ([UInt8.ofInt (shr64 .i64 n 24), UInt8.ofInt (shr64 .i64 n 16), UInt8.ofInt (shr64 .i64 n 8)], 0)) (by kernel_rfl),
    Loop_inl (s' := ([UInt8.ofInt (shr64 .i64 n 24), UInt8.ofInt (shr64 .i64 n 16), UInt8.ofInt (shr64 .i64 n 8), UInt8.ofInt (shr64 .i64 n 0)], -1)) (by kernel_rfl),
    Loop_inr (e := ([UInt8.ofInt (shr64 .i64 n 24), UInt8.ofInt (shr64 .i64 n 16), UInt8.ofInt (shr64 .i64 n 8), UInt8.ofInt (shr64 .i64 n 0)], -1, false)) (by kernel_rfl), shr0]
  rfl

end Go.AI.Fn

set_option linter.unusedVariables false
namespace Go.AI.Fn

theorem long {l : List UInt8} (h : 8 ≤ l.length) : ∃ a b c d e f g k r, l = a :: b :: c :: d :: e :: f :: g :: k :: r := by
  match l, h with
  | a :: b :: c :: d :: e :: f :: g :: k :: r, _ => exact ⟨a, b, c, d, e, f, g, k, r, rfl⟩
end Go.AI.Fn

set_option linter.unusedVariables false
set_option linter.unusedSimpArgs false
namespace Go.AI.Fn

def tagA : List UInt8 := [97, 98, 115, 111, 114, 98]
def tagD : List UInt8 := [100, 114, 97, 119]
def tagS : List UInt8 := [115, 111, 117, 114, 99, 101]
def srcB (s : Source) : Bool := decide (s.Script.length ≤ 64) && (s.Script.all okEb && (decide (s.State.length = 32) && ((decide (0 ≤ s.At) && decide (s.At ≤ 1000000)) && (decide (0 ≤ s.Count) && decide (s.Count ≤ 1000000)))))
structure OkSrc (s : Source) : Prop where
  len : s.Script.length ≤ 64
  scr : OkEs s.Script
  st : s.State.length = 32
  a0 : 0 ≤ s.At
  a1 : s.At ≤ 1000000
  c0 : 0 ≤ s.Count
  c1 : s.Count ≤ 1000000
theorem srcB_iff {s : Source} : srcB s = true ↔ OkSrc s := by
  unfold srcB
  simp only [Bool.and_eq_true, decide_eq_true_eq, allE]
  exact ⟨fun ⟨h1, h2, h3, ⟨h4, h5⟩, h6, h7⟩ => ⟨h1, h2, h3, h4, h5, h6, h7⟩, fun h => ⟨h.1, h.2, h.3, ⟨h.4, h.5⟩, h.6, h.7⟩⟩
theorem i_isHash_eq (h : List UInt8) : i_isHash h = some (decide (h.length = 32)) := by
  unfold i_isHash
  congr 1
  by_cases c : h.length = 32
  · rw [decide_eq_true c, c]; rfl
  · rw [decide_eq_false c]; simp; omega
theorem i_SourceOK_eq {s : Source} (hl : s.Script.length ≤ 1099511627776) : i_SourceOK s = some (srcB s) := by
  unfold i_SourceOK srcB
  rw [i_areE_eq hl]
  by_cases h1 : s.Script.length ≤ 64
  · rw [brd (by omega), decide_eq_true h1, Option.bind_some, i_isHash_eq, i_in_eq, i_in_eq]
    cases s.Script.all okEb
    · rfl
    · simp only [br_true, Option.bind_some, Bool.true_and]
      cases decide (s.State.length = 32)
      · rfl
      · simp only [br_true, Bool.true_and]
        cases (decide (0 ≤ s.At) && decide (s.At ≤ 1000000)) <;> rfl
  · rw [brn (by omega), decide_eq_false h1]; rfl
theorem s_SourceOK_eq {s : Source} (hl : s.Script.length ≤ 1099511627776) : s_SourceOK s = some (srcB s) := by
  unfold s_SourceOK srcB
  rw [s_listE_eq hl]
  have e : (((s.State.length : Nat) : Int) == 32) = decide (s.State.length = 32) := by
    by_cases c : s.State.length = 32
    · rw [decide_eq_true c, c]; rfl
    · rw [decide_eq_false c]; simp; omega
  by_cases h1 : s.Script.length ≤ 64
  · rw [brd (by omega), decide_eq_true h1, Option.bind_some, s_in_eq, s_in_eq, e]
    cases s.Script.all okEb
    · rfl
    · simp only [br_true, Option.bind_some, Bool.true_and]
      cases (decide (0 ≤ s.At) && decide (s.At ≤ 1000000))
      · simp [br]
      · simp only [br_true, Bool.true_and]
        cases decide (s.State.length = 32) <;> rfl
  · rw [brn (by omega), decide_eq_false h1]; rfl

/-! ### grinding -/
theorem i_four_eq (n : Int) : i_four n = some (four n) := by
  unfold i_four; rw [br_fits (by simp only [List.length_cons, List.length_nil]; omega)]; rfl
end Go.AI.Fn

set_option linter.unusedVariables false
namespace Go.AI.Fn

theorem srt_add {l : List Entry} {R C : Int} {y : Entry} (h : ∀ k, ¬ badE l R C k) (hy : inE R C y) (hl : ∀ x ∈ l, ltE x y) : ∀ k, ¬ badE (l ++ [y]) R C k := by
  rintro k ⟨x, hx, hb⟩
  by_cases hk : k < l.length
  · rw [List.getElem?_append_left hk] at hx
    rcases hb with hb | ⟨h0, z, hz, hb⟩
    · exact h k ⟨x, hx, .inl hb⟩
    · rw [List.getElem?_append_left (by omega)] at hz
      exact h k ⟨x, hx, .inr ⟨h0, z, hz, hb⟩⟩
  · have hk2 : k = l.length := by
      obtain ⟨h1, _⟩ := List.getElem?_eq_some_iff.1 hx
      rw [List.length_append, List.length_singleton] at h1; omega
    subst hk2
    rw [List.getElem?_append_right (Nat.le_refl _), Nat.sub_self] at hx
    cases hx
    rcases hb with hb | ⟨h0, z, hz, hb⟩
    · exact hb hy
    · rw [List.getElem?_append_left (by omega)] at hz
      exact hb (hl z (List.mem_of_getElem? hz))

theorem mx_ok {v : Int} (h : okF v) : 1 ≤ mx 1 v ∧ mx 1 v ≤ 2130706432 := by
  obtain ⟨h0, h1⟩ := h
  unfold mx
  split <;> omega

theorem inner_ok {R C r c r0 B : Int} (hr : shl64 .i64 1 r = R) (hc : shl64 .i64 1 c = C) (hr' : 0 ≤ r ∧ r ≤ 5) (hc' : 0 ≤ c ∧ c ≤ 5) (hR : 1 ≤ R ∧ R ≤ 8) (hC : 1 ≤ C ∧ C ≤ 8) (h0 : 0 ≤ r0 ∧ r0 < R) (hB : B + 200 < Big)
    {l : List Entry} {m : l00Src} (hs : Src B m) (hl : ∀ k, ¬ badE l R C k) (hm : ∀ x ∈ l, x.Row < r0) (hn : (l.length : Int) ≤ 8 * r0) :
    ∃ e, Loop (s_l00Src_entries_2_s r c r0) (l, (0 : Int), m.code, m.at_, m.seed) = some e ∧ (∀ k, ¬ badE e.1 R C k) ∧ (∀ x ∈ e.1, x.Row < r0 + 1) ∧ (e.1.length : Int) ≤ 8 * (r0 + 1) ∧ Src (B + 200) ⟨e.2.2.2.1, e.2.2.2.2.1, e.2.2.2.2.2⟩ := by
  refine Loop_inv (step := s_l00Src_entries_2_s r c r0)
    (fun s => 0 ≤ s.2.1 ∧ s.2.1 ≤ C ∧ (∀ k, ¬ badE s.1 R C k) ∧ (∀ x ∈ s.1, x.Row < r0 ∨ (x.Row = r0 ∧ x.Col < s.2.1)) ∧ (s.1.length : Int) ≤ 8 * r0 + s.2.1 ∧ Src (B + 21 * s.2.1) ⟨s.2.2.1, s.2.2.2.1, s.2.2.2.2⟩)
    (fun s => (C - s.2.1).toNat) (fun e => (∀ k, ¬ badE e.1 R C k) ∧ (∀ x ∈ e.1, x.Row < r0 + 1) ∧ (e.1.length : Int) ≤ 8 * (r0 + 1) ∧ Src (B + 200) ⟨e.2.2.2.1, e.2.2.2.2.1, e.2.2.2.2.2⟩) ?_ (l, (0 : Int), m.code, m.at_, m.seed)
    ⟨by dsimp only; omega, by dsimp only; omega, hl, fun x hx => .inl (hm x hx), by dsimp only; omega, hs.mono (by dsimp only; omega)⟩
  rintro ⟨l, j, c1, c2, c3⟩ ⟨j0, j1, g1, g2, g3, g4⟩
  dsimp only at j0 j1 g1 g2 g3 g4
  simp only [s_l00Src_entries_2_s]
  rw [wrap_u64 c (by omega) (by omega), brd hc'.1, hc]
  by_cases hj : j < C
  · rw [brd hj]
    obtain ⟨b, m1, e1, s1⟩ := chance_ok (n := 4) g4 (by omega)
    rw [e1]
    simp only [Option.bind_some]
    rw [wrap_i64 (j + 1) (by omega) (by omega)]
    cases b
    · rw [br_false]
      exact .inl ⟨_, rfl, ⟨by dsimp only; omega, by dsimp only; omega, g1, fun x hx => by rcases g2 x hx with h | h; exact .inl h; exact .inr ⟨h.1, by dsimp only; omega⟩, by dsimp only; omega, s1.mono (by dsimp only; omega)⟩, by dsimp only; omega⟩
    · rw [br_true]
      obtain ⟨v, m2, e2, v0, s2⟩ := field_ok s1 (by omega)
      rw [e2]
      simp only [Option.bind_some]
      rw [br_of (fits_of (by simp only [List.length_append, List.length_cons, List.length_nil]; omega))]
      have hmx := mx_ok v0
      refine .inl ⟨_, rfl, ⟨by dsimp only; omega, by dsimp only; omega, ?_, ?_, ?_, s2.mono (by dsimp only; omega)⟩, by dsimp only; omega⟩
      · refine srt_add g1 ⟨⟨by dsimp only; omega, by dsimp only; omega⟩, ⟨by dsimp only; omega, by dsimp only; omega⟩, hmx.1, hmx.2⟩ fun x hx => ?_
        exact g2 x hx
      · intro x hx
        rcases List.mem_append.1 hx with hx | hx
        · rcases g2 x hx with h | h
          · exact .inl h
          · exact .inr ⟨h.1, by dsimp only; omega⟩
        · rw [List.mem_singleton] at hx; subst hx; exact .inr ⟨rfl, by dsimp only; omega⟩
      · simp only [List.length_append, List.length_cons, List.length_nil]; omega
  · rw [brn hj]
    exact .inr ⟨_, rfl, g1, fun x hx => by rcases g2 x hx with h | h <;> omega, by show (l.length : Int) ≤ 8 * (r0 + 1); omega, g4.mono (by omega)⟩
theorem entries_ok {R C r c B : Int} (hr : shl64 .i64 1 r = R) (hc : shl64 .i64 1 c = C) (hr' : 0 ≤ r ∧ r ≤ 5) (hc' : 0 ≤ c ∧ c ≤ 5) (hR : 1 ≤ R ∧ R ≤ 8) (hC : 1 ≤ C ∧ C ≤ 8) {m : l00Src} (hs : Src B m) (hB : B + 2000 < Big) :
    ∃ l m', s_l00Src_entries r c m = some (l, m') ∧ matB l R C = true ∧ Src (B + 1600) m' := by
  unfold s_l00Src_entries
  have key := Loop_inv (step := s_l00Src_entries_1_s r c)
    (fun s => 0 ≤ s.2.1 ∧ s.2.1 ≤ R ∧ (∀ k, ¬ badE s.1 R C k) ∧ (∀ x ∈ s.1, x.Row < s.2.1) ∧ (s.1.length : Int) ≤ 8 * s.2.1 ∧ Src (B + 200 * s.2.1) ⟨s.2.2.1, s.2.2.2.1, s.2.2.2.2⟩)
    (fun s => (R - s.2.1).toNat) (fun e => (∀ k, ¬ badE e.1 R C k) ∧ (e.1.length : Int) ≤ 64 ∧ Src (B + 1600) ⟨e.2.2.2.1, e.2.2.2.2.1, e.2.2.2.2.2⟩) ?_ (([] : List Entry), (0 : Int), m.code, m.at_, m.seed)
    ⟨by dsimp only; omega, by dsimp only; omega, fun k ⟨x, hx, _⟩ => by simp at hx, fun x hx => by simp at hx, by simp, hs.mono (by dsimp only; omega)⟩
  · obtain ⟨e, he, h1, h2, h3⟩ := key
    rw [he]
    exact ⟨_, _, rfl, matB_t (by omega) h1, h3⟩
  rintro ⟨l, j, c1, c2, c3⟩ ⟨j0, j1, g1, g2, g3, g4⟩
  dsimp only at j0 j1 g1 g2 g3 g4
  simp only [s_l00Src_entries_1_s]
  rw [wrap_u64 r (by omega) (by omega), brd hr'.1, hr]
  by_cases hj : j < R
  · rw [brd hj]
    obtain ⟨e, he, k1, k2, k3, k4⟩ := inner_ok (B := B + 200 * j) hr hc hr' hc' hR hC ⟨j0, hj⟩ (by omega) g4 g1 g2 g3
    rw [he]
    simp only [Option.bind_some]
    rw [wrap_i64 (j + 1) (by omega) (by omega)]
    exact .inl ⟨_, rfl, ⟨by dsimp only; omega, by dsimp only; omega, k1, k2, k3, k4.mono (by dsimp only; omega)⟩, by dsimp only; omega⟩
  · rw [brn hj]
    exact .inr ⟨_, rfl, g1, by show (l.length : Int) ≤ 64; omega, g4.mono (by omega)⟩

theorem shl_small {k : Int} (h : 0 ≤ k ∧ k ≤ 3) : 1 ≤ shl64 .i64 1 k ∧ shl64 .i64 1 k ≤ 8 := by
  have : k = 0 ∨ k = 1 ∨ k = 2 ∨ k = 3 := by omega
  rcases this with rfl | rfl | rfl | rfl <;> decide
theorem shl_more {k : Int} (h : 1 ≤ k ∧ k ≤ 3) : 1 < shl64 .i64 1 k := by
  have : k = 1 ∨ k = 2 ∨ k = 3 := by omega
  rcases this with rfl | rfl | rfl <;> decide
theorem system_ok {B : Int} {m : l00Src} (hs : Src B m) (hB : B + 9000 < Big) : ∃ s m', s_l00Src_system m = some (s, m') ∧ sysB s = true ∧ s.Rows ≤ 2 ∧ s.Cols ≤ 3 ∧ Src (B + 6000) m' := by
  unfold s_l00Src_system
  obtain ⟨a, m1, e1, a0, a1, _, s1⟩ := next_ok (n := 2) hs (by omega)
  have := a1 (by omega)
  rw [e1]
  simp only [Option.bind_some]
  obtain ⟨b, m2, e2, b0, b1, _, s2⟩ := next_ok (n := 2) s1 (by omega)
  have := b1 (by omega)
  rw [e2]
  simp only [Option.bind_some]
  rw [wrap_i64 (1 + a) (by omega) (by omega), wrap_i64 (2 + b) (by omega) (by omega), wrap_i64 (2 + b - 1) (by omega) (by omega), wrap_u64 (2 + b - 1) (by omega) (by omega), brd (by omega)]
  have k3 := shl_more (k := 2 + b - 1) (by omega)
  obtain ⟨p, m3, e3, p0, p1, _, s3⟩ := next_ok (n := shl64 .i64 1 (2 + b - 1)) s2 (by omega)
  have := p1 k3
  rw [e3]
  simp only [Option.bind_some]
  have kR := shl_small (k := 1 + a) (by omega)
  have kC := shl_small (k := 2 + b) (by omega)
  obtain ⟨x, m4, e4, x1, s4⟩ := entries_ok (r := 1 + a) (c := 2 + b) rfl rfl (by omega) (by omega) kR kC s3 (by omega)
  rw [e4]
  simp only [Option.bind_some]
  obtain ⟨y, m5, e5, y1, s5⟩ := entries_ok (r := 1 + a) (c := 2 + b) rfl rfl (by omega) (by omega) kR kC s4 (by omega)
  rw [e5]
  simp only [Option.bind_some]
  obtain ⟨z, m6, e6, z1, s6⟩ := entries_ok (r := 1 + a) (c := 2 + b) rfl rfl (by omega) (by omega) kR kC s5 (by omega)
  rw [e6]
  refine ⟨_, _, rfl, ?_, by dsimp only; omega, by dsimp only; omega, s6.mono (by omega)⟩
  unfold sysB
  dsimp only
  rw [x1, y1, z1, decide_eq_true (by omega), decide_eq_true (by omega), decide_eq_true (by omega)]; rfl
theorem SystemDrawn_ok {code : List UInt8} (h : code.length ≤ 1048576) : ∃ s, s_SystemDrawn code = some s ∧ sysB s = true ∧ s.Rows ≤ 2 ∧ s.Cols ≤ 3 := by
  unfold s_SystemDrawn
  obtain ⟨m, e1, s1⟩ := source_ok (show code.length ≤ 1048600 by omega)
  rw [e1]
  simp only [Option.bind_some]
  obtain ⟨s, m', e2, h1, h2, h3, _⟩ := system_ok s1 (by decide)
  rw [e2]
  exact ⟨s, rfl, h1, h2, h3⟩
theorem SettingOf_ok {code : List UInt8} (h : code.length ≤ 1048576) : ∃ t, s_SettingOf code = some t ∧ (1 ≤ t.Rate ∧ t.Rate ≤ 2) ∧ (1 ≤ t.Queries ∧ t.Queries ≤ 3) ∧ 0 ≤ t.Grind ∧ t.Grind ≤ 2 := by
  unfold s_SettingOf s_l00Src_setting
  obtain ⟨m, e1, s1⟩ := source_ok (show code.length ≤ 1048600 by omega)
  rw [e1]
  simp only [Option.bind_some]
  obtain ⟨a, m1, f1, a0, a1, _, s2⟩ := next_ok (n := 2) s1 (by decide)
  obtain ⟨b, m2, f2, b0, b1, _, s3⟩ := next_ok (n := 3) s2 (by decide)
  obtain ⟨c, m3, f3, c0, c1, _, s4⟩ := next_ok (n := 3) s3 (by decide)
  have := a1 (by omega)
  have := b1 (by omega)
  have := c1 (by omega)
  rw [f1]
  simp only [Option.bind_some]
  rw [f2]
  simp only [Option.bind_some]
  rw [f3]
  simp only [Option.bind_some]
  rw [wrap_i64 (1 + a) (by omega) (by omega), wrap_i64 (1 + b) (by omega) (by omega)]
  exact ⟨_, rfl, by dsimp only; omega, by dsimp only; omega, by dsimp only; omega⟩
end Go.AI.Fn

set_option linter.unusedVariables false
set_option linter.unusedSimpArgs false
namespace Go.AI.Fn

theorem isP_pow : ∀ k : Nat, k ≤ 9 → isP (2 ^ k) = true := by decide
theorem powB_two {k : Nat} {most : Int} (h : k ≤ 9) (hm : ((2 ^ k : Nat) : Int) ≤ most) : powB ((2 ^ k : Nat) : Int) most = true := by
  have : 1 ≤ 2 ^ k := Nat.one_le_two_pow
  unfold powB
  rw [decide_eq_true (by omega), decide_eq_true hm, Int.toNat_natCast, isP_pow k h]; rfl
theorem i_TableOK_eq {l : List Ext} (hl : l.length ≤ 1099511627776) : i_TableOK l = some (powB (l.length : Int) 64 && l.all okEb) := by
  unfold i_TableOK
  rw [i_isPower_eq (by decide), Option.bind_some, i_areE_eq hl]
  cases powB (l.length : Int) 64 <;> rfl
theorem i_isPoint_eq {l : List Ext} (hl : l.length ≤ 1099511627776) : i_isPoint l = some (decide (l.length ≤ 6) && l.all okEb) := by
  unfold i_isPoint
  rw [i_areE_eq hl]
  by_cases h : l.length ≤ 6
  · rw [brd (by omega), decide_eq_true h]; rfl
  · rw [brn (by omega), decide_eq_false h]; rfl
theorem i_TableAt_ok {t p : List Ext} (ht : OkEs t) (hp : OkEs p) (hn : p.length ≤ 6) (hl : t.length = 2 ^ p.length) : i_TableAt t p = some (dotM t (eqT p), 0) := by
  have h6 := pow2_6 p.length hn
  unfold i_TableAt
  rw [brn (by omega), brn (by omega), i_TableOK_eq (by omega), Option.bind_some, i_isPoint_eq (by omega), allE.2 ht, allE.2 hp, hl, powB_two (by omega) (by omega), decide_eq_true hn]
  simp only [Bool.and_self, Bool.not_true, br_false, Option.bind_some]
  rw [brd (by omega), shl1 (by omega), brbe rfl, i_eqTable_eq hp hn, Option.bind_some, i_dot_eq ht (eqT_ok _) (by rw [eqT_len]; omega) (by omega), Option.bind_some]

theorem fields_ok {B n : Int} {m : l00Src} (h : Src B m) (hn0 : 0 ≤ n) (hn1 : n ≤ 1048576) (hB : B + 40 * n < Big) : ∃ l m', s_l00Src_fields n m = some (l, m') ∧ (l.length : Int) = n ∧ (∀ x ∈ l, okF x) ∧ Src (B + 40 * n) m' := by
  unfold s_l00Src_fields
  have key := Loop_inv (step := s_l00Src_fields_1_s n)
    (fun s => (s.1.length : Int) = s.2.1 ∧ (∀ x ∈ s.1, okF x) ∧ s.2.1 ≤ n ∧ Src (B + 40 * s.2.1) ⟨s.2.2.1, s.2.2.2.1, s.2.2.2.2⟩) (fun s => (n - s.2.1).toNat)
    (fun e => (e.1.length : Int) = n ∧ (∀ x ∈ e.1, okF x) ∧ Src (B + 40 * n) ⟨e.2.2.2.1, e.2.2.2.2.1, e.2.2.2.2.2⟩) ?_ (([] : List Int), (0 : Int), m.code, m.at_, m.seed) ⟨by simp, by simp, by dsimp only; omega, h.mono (by first | omega | (dsimp only; omega))⟩
  · obtain ⟨e, he, h1, h2, h3⟩ := key
    rw [he]
    exact ⟨_, _, rfl, h1, h2, h3⟩
  · rintro ⟨l, i, c, c2, c3⟩ ⟨hl, ha, i1, hs⟩
    dsimp only at hl ha i1 hs
    by_cases hi : i < n
    · left
      obtain ⟨y, m2, e2, y0, s2⟩ := field_ok hs (by omega)
      simp only [s_l00Src_fields_1_s]
      rw [brd hi, e2]
      simp only [Option.bind_some]
      rw [br_of (fits_of (by simp only [List.length_append, List.length_cons, List.length_nil]; omega)), wrap_i64 (i + 1) (by omega) (by omega)]
      refine ⟨_, rfl, ⟨?_, ?_, ?_, s2.mono ?_⟩, ?_⟩
      · simp only [List.length_append, List.length_cons, List.length_nil]; omega
      · intro x hx
        rcases List.mem_append.1 hx with hx | hx
        · exact ha x hx
        · rw [List.mem_singleton] at hx; subst hx; exact y0
      all_goals dsimp only; omega
    · right
      simp only [s_l00Src_fields_1_s]
      rw [brn hi]
      exact ⟨_, rfl, by dsimp only; omega, ha, hs.mono (by first | omega | (dsimp only; omega))⟩

theorem NumbersOf_ok {code : List UInt8} {n : Int} (h : code.length ≤ 1048576) (hn0 : 0 ≤ n) (hn1 : n ≤ 1048576) : ∃ l, s_NumbersOf code n = some l ∧ (l.length : Int) = n ∧ ∀ x ∈ l, okF x := by
  unfold s_NumbersOf
  obtain ⟨m, e1, s1⟩ := source_ok (show code.length ≤ 1048600 by omega)
  rw [e1]
  simp only [Option.bind_some]
  obtain ⟨l, m2, e2, h1, h2, _⟩ := fields_ok (n := n) s1 hn0 hn1 (by simp only [Big]; omega)
  rw [e2]
  exact ⟨_, rfl, h1, h2⟩
end Go.AI.Fn

set_option linter.unusedVariables false
set_option linter.unusedSimpArgs false
namespace Go.AI.Fn

/-- What a matrix is that both sides take. -/
structure OkM (l : List Entry) (R C : Int) : Prop where
  len : l.length ≤ 200
  ent : ∀ x ∈ l, inE R C x
  srt : ∀ k (hk : k < l.length), ∀ y ∈ l.take k, ltE y l[k]
theorem ltE_trans {x y z : Entry} (h : ltE x y) (g : ltE y z) : ltE x z := by unfold ltE at *; omega
open Classical in
theorem matB_ok {l : List Entry} {R C : Int} (h : matB l R C = true) : OkM l R C := by
  unfold matB at h
  obtain ⟨hl, hb⟩ := of_decide_eq_true h
  refine ⟨hl, fun x hx => ?_, fun k => ?_⟩
  · obtain ⟨k, hk, rfl⟩ := List.getElem_of_mem hx
    by_cases c : inE R C l[k]
    · exact c
    · exact absurd ⟨_, get_some hk, .inl c⟩ (hb k)
  · induction k with
    | zero => intro hk y hy; simp at hy
    | succ k ih =>
      intro hk y hy
      rw [take_succ (by omega)] at hy
      have hlt : ltE l[k] l[k + 1] := by
        by_cases c : ltE l[k] l[k + 1]
        · exact c
        · exact absurd ⟨_, get_some hk, .inr ⟨by omega, _, get_some (by omega), c⟩⟩ (hb (k + 1))
      rcases List.mem_append.1 hy with hy | hy
      · exact ltE_trans (ih (by omega) y hy) hlt
      · rw [List.mem_singleton.1 hy]; exact hlt
def mxS (a b : List Ext) (c : Ext) (x : Entry) : Ext := eA c (eM (eM (a.getD x.Row.toNat e0) (b.getD x.Col.toNat e0)) (eN x.Value))
/-- A matrix's value between two tables. -/
def mxM (l : List Entry) (a b : List Ext) : Ext := l.foldl (mxS a b) e0
theorem mxF_ok {a b : List Ext} (l : List Entry) {c : Ext} (h : okE c) : okE (l.foldl (mxS a b) c) := by
  induction l generalizing c with
  | nil => exact h
  | cons p l ih => exact ih (eA_ok _ _)
theorem atL_m {l : List Ext} {i n : Int} (h0 : 0 ≤ i) (h : i ≤ n - 1) (hn : (l.length : Int) = n) : atL l i = some (l.getD i.toNat e0) := by
  rw [atL_int h0 (by omega)]; simp [show i.toNat < l.length by omega]
theorem OkEs.gm {l : List Ext} (h : OkEs l) (k : Nat) : okE (l.getD k e0) := by
  by_cases c : k < l.length
  · simp [c]; exact h.get c
  · simp [c]; exact e0_ok
theorem val_ok {R C : Int} {x : Entry} (h : inE R C x) : okF x.Value := ⟨by have := h.2.2.1; omega, h.2.2.2⟩
theorem i_mx_loop {l : List Entry} {a b : List Ext} {R C : Int} (hm : OkM l R C) (ha : OkEs a) (hb : OkEs b) (hR : (a.length : Int) = R) (hC : (b.length : Int) = C) :
    Loop (i_MatrixAt_1_s a b l ((l.length : Nat) : Int) 0 0) ((0 : Int), (0 : Int), (0 : Int)) = some ((l.length : Int), false, (mxM l a b).A, (mxM l a b).B) := by
  have hl := hm.len
  refine Loop_for (step := i_MatrixAt_1_s a b l ((l.length : Nat) : Int) 0 0) (fun k => ((k : Int), (mxM (l.take k) a b).A, (mxM (l.take k) a b).B)) l.length (fun k hk => ?_) ?_
  · simp only [i_MatrixAt_1_s]
    obtain ⟨hr, hc, hv⟩ := hm.ent _ (List.getElem_mem hk)
    have hok : okE (mxM (l.take k) a b) := mxF_ok _ e0_ok
    rw [brd (by omega), atL_nat hk, Option.bind_some, atL_m hr.1 hr.2 hR, Option.bind_some, atL_m hc.1 hc.2 hC, Option.bind_some, i_times_eq (ha.gm _) (hb.gm _), Option.bind_some, i_scaled_eq (eM_ok _ _) (val_ok (hm.ent _ (List.getElem_mem hk))), Option.bind_some]
    rw [i_plus_eq hok (eC_ok _ _), Option.bind_some, wrap_i64 _ (by omega) (by omega), eC_eq, take_succ hk, mxM, mxM, List.foldl_append]; rfl
  · simp only [i_MatrixAt_1_s]
    rw [brn (by omega), decide_eq_false (by omega), List.take_length]
theorem pw5 {n : Nat} (h : n ≤ 5) : 1 ≤ 2 ^ n ∧ 2 ^ n ≤ 32 := pow2_5 n h
theorem i_MatrixAt_eq {l : List Entry} {p q : List Ext} (hb : matB l ((2 ^ p.length : Nat) : Int) ((2 ^ q.length : Nat) : Int) = true) (hp : OkEs p) (hq : OkEs q) (p1 : 1 ≤ p.length ∧ p.length ≤ 5) (q1 : 1 ≤ q.length ∧ q.length ≤ 5) :
    i_MatrixAt l p q = some (mxM l (eqT p) (eqT q), 0) := by
  have hm := matB_ok hb
  have hl := hm.len
  have h1 := pw5 p1.2
  have h2 := pw5 q1.2
  unfold i_MatrixAt
  rw [brn (by omega), brn (by omega), brn (by omega), i_inA, Option.bind_some, notd (by omega), i_inA, Option.bind_some, notd (by omega), brd (by omega), brd (by omega), shl1 (by omega), shl1 (by omega), isMatrix_eq (by omega) (by omega) (by omega), Option.bind_some, hb, Bool.not_true, br_false,
    i_areE_eq (by omega), Option.bind_some, allE.2 hp, Bool.not_true, br_false, i_areE_eq (by omega), Option.bind_some, allE.2 hq, Bool.not_true, br_false, i_eqTable_eq hp (by omega), Option.bind_some, i_eqTable_eq hq (by omega), Option.bind_some,
    i_mx_loop hm (eqT_ok _) (eqT_ok _) (by rw [eqT_len]) (by rw [eqT_len]), Option.bind_some]
/-! ### digests -/
def entT (l : List Entry) : List UInt8 := l.flatMap fun x => [UInt8.ofInt x.Row, UInt8.ofInt x.Col] ++ four x.Value
theorem entT_len (l : List Entry) : (entT l).length = 6 * l.length := by
  induction l with
  | nil => rfl
  | cons x l ih => simp only [entT, List.flatMap_cons, List.length_append, List.length_cons] at *; rw [ih]; simp [four_len]; omega
theorem entT_snoc (l : List Entry) (x : Entry) : entT (l ++ [x]) = entT l ++ ([UInt8.ofInt x.Row, UInt8.ofInt x.Col] ++ four x.Value) := by simp [entT]
def matT (l : List Entry) : List UInt8 := four (l.length : Int) ++ entT l
def sysT (s : System) : List UInt8 := [115, 121, 115, 116, 101, 109] ++ [UInt8.ofInt s.Rows, UInt8.ofInt s.Cols, UInt8.ofInt s.Publics] ++ matT s.A ++ matT s.B ++ matT s.C
theorem matT_len (l : List Entry) : (matT l).length = 4 + 6 * l.length := by rw [matT, List.length_append, entT_len, four_len]
theorem i_dg_loop {l2 L : List UInt8} {t t2 t3 l c4 c5 c6 : List Entry} {t4 c c2 c3 : Int} (h : l.length ≤ 200) (hL : L.length ≤ 1000000) : Loop (i_System_digestText_1_s l2 t t2 t3 t4 l ((l.length : Nat) : Int) c c2 c3 c4 c5 c6) (L, 0) = some (L ++ entT l, (l.length : Int), false) := by
  have key := Loop_for (step := i_System_digestText_1_s l2 t t2 t3 t4 l ((l.length : Nat) : Int) c c2 c3 c4 c5 c6) (fun k => (L ++ entT (l.take k), (k : Int))) l.length (e := (L ++ entT l, (l.length : Int), false)) (fun k hk => ?_) ?_
  · simpa [entT] using key
  · simp only [i_System_digestText_1_s]
    have hn := entT_len (l.take k)
    rw [List.length_take] at hn
    rw [brd (by omega), atL_nat hk, Option.bind_some, br_fits (by simp only [List.length_append, List.length_cons, List.length_nil]; omega), i_fouro_eq (by simp only [List.length_append, List.length_cons, List.length_nil]; omega), Option.bind_some, wrap_i64 _ (by omega) (by omega), take_succ hk, entT_snoc]
    simp only [List.append_assoc, cast_succ]
  · simp only [i_System_digestText_1_s]
    rw [brn (by omega), decide_eq_false (by omega), List.take_length]
theorem i_dg_loop2 {l2 L : List UInt8} {t t2 t3 l c4 c5 c6 : List Entry} {t4 c c2 c3 : Int} (h : l.length ≤ 200) (hL : L.length ≤ 1000000) : Loop (i_System_digestText_2_s l2 t t2 t3 t4 l ((l.length : Nat) : Int) c c2 c3 c4 c5 c6) (L, 0) = some (L ++ entT l, (l.length : Int), false) := i_dg_loop (l2 := l2) (t := t) (t2 := t2) (t3 := t3) (c4 := c4) (c5 := c5) (c6 := c6) (t4 := t4) (c := c) (c2 := c2) (c3 := c3) h hL
theorem i_dg_loop3 {l2 L : List UInt8} {t t2 t3 l c4 c5 c6 : List Entry} {t4 c c2 c3 : Int} (h : l.length ≤ 200) (hL : L.length ≤ 1000000) : Loop (i_System_digestText_3_s l2 t t2 t3 t4 l ((l.length : Nat) : Int) c c2 c3 c4 c5 c6) (L, 0) = some (L ++ entT l, (l.length : Int), false) := i_dg_loop (l2 := l2) (t := t) (t2 := t2) (t3 := t3) (c4 := c4) (c5 := c5) (c6 := c6) (t4 := t4) (c := c) (c2 := c2) (c3 := c3) h hL
theorem i_digestText_eq {s : System} (hA : s.A.length ≤ 200) (hB : s.B.length ≤ 200) (hC : s.C.length ≤ 200) : i_System_digestText s = some (sysT s) := by
  have a1 := entT_len s.A
  have b1 := entT_len s.B
  have c1 := entT_len s.C
  unfold i_System_digestText i_System_matrices
  rw [br_fits (by simp only [List.length_append, List.length_cons, List.length_nil]; omega), Option.bind_some]
  dsimp only
  rw [i_fouro_eq (by simp only [List.length_append, List.length_cons, List.length_nil]; omega), Option.bind_some, i_dg_loop hA (by simp only [List.length_append, List.length_cons, List.length_nil, four_len]; omega), Option.bind_some,
    i_fouro_eq (by simp only [List.length_append, List.length_cons, List.length_nil, four_len]; omega), Option.bind_some, i_dg_loop2 hB (by simp only [List.length_append, List.length_cons, List.length_nil, four_len]; omega), Option.bind_some,
    i_fouro_eq (by simp only [List.length_append, List.length_cons, List.length_nil, four_len]; omega), Option.bind_some, i_dg_loop3 hC (by simp only [List.length_append, List.length_cons, List.length_nil, four_len]; omega), Option.bind_some]
  simp only [sysT, matT, List.append_assoc]
theorem sysT_len (s : System) : (sysT s).length = 21 + 6 * (s.A.length + s.B.length + s.C.length) := by
  simp only [sysT, List.length_append, matT_len, List.length_cons, List.length_nil]; omega
theorem s_dg_loop2 {l3 L : List UInt8} {l4 : List (List Entry)} {l c4 c5 c6 : List Entry} {c c2 c3 : Int} {j : Nat} (hj : l4[j]? = some l) (h : l.length ≤ 200) (hL : L.length ≤ 1000000) : Loop (s_l10Digest_2_s l3 l4 (j : Int) c c2 c3 c4 c5 c6) (L, 0) = some (L ++ entT l, (l.length : Int), false) := by
  have hj2 : j < l4.length := by
    rcases Nat.lt_or_ge j l4.length with h | h
    · exact h
    · rw [List.getElem?_eq_none h] at hj; cases hj
  have key := Loop_for (step := s_l10Digest_2_s l3 l4 (j : Int) c c2 c3 c4 c5 c6) (fun k => (L ++ entT (l.take k), (k : Int))) l.length (e := (L ++ entT l, (l.length : Int), false)) (fun k hk => ?_) ?_
  · simpa [entT] using key
  · simp only [s_l10Digest_2_s]
    have hn := entT_len (l.take k)
    rw [List.length_take] at hn
    rw [brd (by omega), brd (by omega), Int.toNat_natCast, hj, Option.bind_some, brd (by omega), brd (by omega), brd (by omega), Option.bind_some, atL_nat hk, Option.bind_some, number4, Option.bind_some, br_fits (by rw [four_len]; simp only [List.length_cons, List.length_nil]; omega),
      br_fits (by simp only [List.length_append, List.length_cons, List.length_nil, four_len]; omega), wrap_i64 _ (by omega) (by omega), take_succ hk, entT_snoc]
    simp only [List.append_assoc, cast_succ]
  · simp only [s_l10Digest_2_s]
    rw [brd (by omega), brd (by omega), Int.toNat_natCast, hj, Option.bind_some, brn (by omega), decide_eq_false (by omega), List.take_length]
theorem s_dg_step {l3 L : List UInt8} {l4 : List (List Entry)} {l c4 c5 c6 : List Entry} {c c2 c3 : Int} {j : Nat} (hj : l4[j]? = some l) (j3 : j < 3) (h : l.length ≤ 200) (hL : L.length ≤ 900000) : s_l10Digest_1_s l3 l4 c c2 c3 c4 c5 c6 (L, (j : Int)) = some (.inl (L ++ matT l, ((j + 1 : Nat) : Int))) := by
  have hj2 : j < l4.length := by
    rcases Nat.lt_or_ge j l4.length with h | h
    · exact h
    · rw [List.getElem?_eq_none h] at hj; cases hj
  simp only [s_l10Digest_1_s]
  rw [brd (by omega), brd (by omega), brd (by omega), Int.toNat_natCast, hj, Option.bind_some, number4, Option.bind_some, br_fits (by rw [four_len]; omega), s_dg_loop2 hj h (by rw [List.length_append, four_len]; omega), Option.bind_some, wrap_i64 _ (by omega) (by omega), matT]
  simp only [List.append_assoc, cast_succ]
theorem s_l10Digest_eq {s : System} (hA : s.A.length ≤ 200) (hB : s.B.length ≤ 200) (hC : s.C.length ≤ 200) : s_l10Digest s = some (H (sysT s)) := by
  have a1 := matT_len s.A
  have b1 := matT_len s.B
  have c1 := matT_len s.C
  have hl := sysT_len s
  unfold s_l10Digest
  rw [br_fits (by simp only [List.length_cons, List.length_nil]; omega), show (0 : Int) = ((0 : Nat) : Int) from rfl,
    Loop_inl (s_dg_step (l := s.A) (j := 0) rfl (by omega) hA (by simp only [List.length_append, List.length_cons, List.length_nil]; omega)),
    Loop_inl (s_dg_step (l := s.B) (j := 1) rfl (by omega) hB (by simp only [List.length_append, List.length_cons, List.length_nil]; omega)),
    Loop_inl (s_dg_step (l := s.C) (j := 2) rfl (by omega) hC (by simp only [List.length_append, List.length_cons, List.length_nil]; omega)),
    Loop_inr (by simp only [s_l10Digest_1_s]; rw [brn (by omega)]), Option.bind_some]
  dsimp only
  rw [show [115, 121, 115, 116, 101, 109] ++ [UInt8.ofInt s.Rows, UInt8.ofInt s.Cols, UInt8.ofInt s.Publics] ++ matT s.A ++ matT s.B ++ matT s.C = sysT s from rfl, s_hash_eq (by omega)]; rfl
end Go.AI.Fn

set_option linter.unusedVariables false
set_option linter.unusedSimpArgs false
namespace Go.AI.Fn

/-- An element in its reduced form. -/
abbrev K := {x : Ext // okE x}
def K.n (i : Int) : K := ⟨eN (i % 2130706433), eN_ok (okF_mod _)⟩
instance instAddK : Add K := ⟨fun a b => ⟨eA a.1 b.1, eA_ok _ _⟩⟩
instance instMulK : Mul K := ⟨fun a b => ⟨eM a.1 b.1, eM_ok _ _⟩⟩
instance instSubK : Sub K := ⟨fun a b => ⟨eS a.1 b.1, eS_ok _ _⟩⟩
instance instNegK : Neg K := ⟨fun a => ⟨eS e0 a.1, eS_ok _ _⟩⟩
instance instNatCastK : NatCast K := ⟨fun n => K.n n⟩
instance instIntCastK : IntCast K := ⟨fun n => K.n n⟩
instance instOfNatK (n : Nat) : OfNat K n := ⟨K.n n⟩
def K.pow (a : K) : Nat → K
  | 0 => K.n 1
  | n + 1 => K.pow a n * a
instance instHPowK : HPow K Nat K := ⟨K.pow⟩
theorem K.ext {a b : K} (h : a.1 = b.1) : a = b := Subtype.ext h
/-! Coordinates: numbers modulo the prime, with which grind reckons. -/
instance instNeZeroPP : NeZero 2130706433 := ⟨by decide⟩
abbrev FP := Fin 2130706433
def K.a (x : K) : FP := ⟨x.1.A.toNat, by have h := x.2.1; unfold okF at h; omega⟩
def K.b (x : K) : FP := ⟨x.1.B.toNat, by have h := x.2.2; unfold okF at h; omega⟩
theorem K.A_nat (x : K) : ∃ n : Nat, x.1.A = (n : Int) ∧ n < 2130706433 ∧ (K.a x).val = n := ⟨x.1.A.toNat, by have h := x.2.1; unfold okF at h; omega, (K.a x).isLt, rfl⟩
theorem K.B_nat (x : K) : ∃ n : Nat, x.1.B = (n : Int) ∧ n < 2130706433 ∧ (K.b x).val = n := ⟨x.1.B.toNat, by have h := x.2.2; unfold okF at h; omega, (K.b x).isLt, rfl⟩
theorem K.eqv {x y : K} : x = y ↔ K.a x = K.a y ∧ K.b x = K.b y := ⟨fun h => by rw [h]; exact ⟨rfl, rfl⟩, fun h => by
  obtain ⟨n, h1, _, h2⟩ := K.A_nat x
  obtain ⟨m, h3, _, h4⟩ := K.A_nat y
  obtain ⟨i, h5, _, h6⟩ := K.B_nat x
  obtain ⟨j, h7, _, h8⟩ := K.B_nat y
  have e1 := congrArg Fin.val h.1
  have e2 := congrArg Fin.val h.2
  exact K.ext (ext_eq (by omega) (by omega))⟩
theorem K.ad_a (x y : K) : K.a (x + y) = K.a x + K.a y := Fin.ext (by
  obtain ⟨n, h1, _, h2⟩ := K.A_nat x
  obtain ⟨m, h3, _, h4⟩ := K.A_nat y
  rw [Fin.val_add, h2, h4]
  show ((x.1.A + y.1.A) % 2130706433).toNat = _
  omega)
theorem K.ad_b (x y : K) : K.b (x + y) = K.b x + K.b y := Fin.ext (by
  obtain ⟨n, h1, _, h2⟩ := K.B_nat x
  obtain ⟨m, h3, _, h4⟩ := K.B_nat y
  rw [Fin.val_add, h2, h4]
  show ((x.1.B + y.1.B) % 2130706433).toNat = _
  omega)
theorem K.su_a (x y : K) : K.a (x - y) = K.a x - K.a y := Fin.ext (by
  obtain ⟨n, h1, _, h2⟩ := K.A_nat x
  obtain ⟨m, h3, _, h4⟩ := K.A_nat y
  rw [Fin.sub_def]
  show ((x.1.A - y.1.A) % 2130706433).toNat = (2130706433 - (K.a y).val + (K.a x).val) % 2130706433
  omega)
theorem K.su_b (x y : K) : K.b (x - y) = K.b x - K.b y := Fin.ext (by
  obtain ⟨n, h1, _, h2⟩ := K.B_nat x
  obtain ⟨m, h3, _, h4⟩ := K.B_nat y
  rw [Fin.sub_def]
  show ((x.1.B - y.1.B) % 2130706433).toNat = (2130706433 - (K.b y).val + (K.b x).val) % 2130706433
  omega)
theorem K.n0_a : K.a 0 = 0 := rfl
theorem K.n0_b : K.b 0 = 0 := rfl
theorem K.n1_a : K.a 1 = 1 := rfl
theorem K.n1_b : K.b 1 = 0 := rfl
theorem K.n2_a : K.a 2 = 2 := rfl
theorem K.n2_b : K.b 2 = 0 := rfl
theorem K.n3_a : K.a 3 = 3 := rfl
theorem K.n3_b : K.b 3 = 0 := rfl
theorem K.ne_sub (x : K) : -x = 0 - x := rfl
theorem K.mu_a (x y : K) : K.a (x * y) = K.a x * K.a y + 3 * (K.b x * K.b y) := Fin.ext (by
  obtain ⟨n, h1, _, h2⟩ := K.A_nat x
  obtain ⟨m, h3, _, h4⟩ := K.A_nat y
  obtain ⟨i, h5, _, h6⟩ := K.B_nat x
  obtain ⟨j, h7, _, h8⟩ := K.B_nat y
  rw [Fin.val_add, Fin.val_mul, Fin.val_mul, Fin.val_mul, h2, h4, h6, h8, show (3 : FP).val = 3 from rfl]
  show ((x.1.A * y.1.A + 3 * (x.1.B * y.1.B)) % 2130706433).toNat = _
  rw [h1, h3, h5, h7, ← Int.natCast_mul, ← Int.natCast_mul]
  generalize n * m = u
  generalize i * j = v
  omega)
theorem K.mu_b (x y : K) : K.b (x * y) = K.a x * K.b y + K.b x * K.a y := Fin.ext (by
  obtain ⟨n, h1, _, h2⟩ := K.A_nat x
  obtain ⟨m, h3, _, h4⟩ := K.A_nat y
  obtain ⟨i, h5, _, h6⟩ := K.B_nat x
  obtain ⟨j, h7, _, h8⟩ := K.B_nat y
  rw [Fin.val_add, Fin.val_mul, Fin.val_mul, h2, h4, h6, h8]
  show ((x.1.A * y.1.B + x.1.B * y.1.A) % 2130706433).toNat = _
  rw [h1, h3, h5, h7, ← Int.natCast_mul, ← Int.natCast_mul]
  generalize n * j = u
  generalize i * m = v
  omega)
/-- Equations between elements, coordinate by coordinate. -/
theorem kg {p : Prop} (h : p := by (simp only [K.ne_sub, K.eqv, K.ad_a, K.ad_b, K.su_a, K.su_b, K.mu_a, K.mu_b, K.n0_a, K.n0_b, K.n1_a, K.n1_b, K.n2_a, K.n2_b, K.n3_a, K.n3_b] at * <;> first | grind only | grind)) : p := h
/-- Elements of the base field. -/
def kF (a : Int) : K := K.n a
theorem kF_val {a : Int} (h : okF a) : (kF a).1 = eN a := by show eN (a % 2130706433) = eN a; rw [mod_self h]
/-- Lists of elements, lifted. -/
def kv (l : List K) : List Ext := l.map (·.1)
theorem kv_len (l : List K) : (kv l).length = l.length := by simp [kv]
theorem kv_ok (l : List K) : OkEs (kv l) := OkEs.map l fun x _ => x.2
theorem kv_lift {L : List Ext} (h : OkEs L) : ∃ l, L = kv l := by
  induction L with
  | nil => exact ⟨[], rfl⟩
  | cons x L ih =>
    obtain ⟨l, rfl⟩ := ih fun y hy => h y (by simp [hy])
    exact ⟨⟨x, h x (by simp)⟩ :: l, rfl⟩
theorem kv_get {l : List K} {j : Nat} (h : j < l.length) : (kv l)[j]'(by rw [kv_len]; exact h) = (l.getD j 0).1 := by simp [kv, h]
theorem kv_at {l : List K} {j : Nat} (h : j < l.length) : atL (kv l) (j : Int) = some (l.getD j 0).1 := by rw [atL_nat (by rw [kv_len]; exact h), kv_get h]
theorem kv_get? {l : List K} {j : Nat} (h : j < l.length) : (kv l)[j]? = some (l.getD j 0).1 := by rw [get_some (by rw [kv_len]; exact h), kv_get h]
end Go.AI.Fn

set_option linter.unusedVariables false
set_option linter.unusedSimpArgs false
namespace Go.AI.Fn

def dotK : List K → List K → K
  | a :: xs, b :: ys => a * b + dotK xs ys
  | _, _ => 0
theorem dot_fold : ∀ (a b : List K) (c : K), ((kv a).zip (kv b)).foldl (fun c p => eA c (eM p.1 p.2)) c.1 = (c + dotK a b).1
  | [], b, c => by
    show c.1 = (c + 0).1
    exact congrArg Subtype.val (by exact kg)
  | _ :: _, [], c => by
    show c.1 = (c + 0).1
    exact congrArg Subtype.val (by exact kg)
  | x :: a, y :: b, c => by
    have := dot_fold a b (c + x * y)
    show ((kv a).zip (kv b)).foldl _ (c + x * y).1 = _
    rw [this]
    exact congrArg Subtype.val (by rw [dotK]; exact kg)
theorem dotM_K (a b : List K) : dotM (kv a) (kv b) = (dotK a b).1 := by
  have := dot_fold a b 0
  rw [dotM]
  rw [show e0 = (0 : K).1 from rfl, this]
  exact congrArg Subtype.val (by exact kg)
theorem dotK_set (d : K) : ∀ (T Q : List K) (c : Nat), c < T.length → dotK (T.set c (T.getD c 0 + d)) Q = dotK T Q + d * Q.getD c 0
  | [], _, c, h => by simp at h
  | x :: T, [], 0, _ => by simp only [List.set_cons_zero, dotK, List.getD_nil]; exact kg
  | x :: T, y :: Q, 0, _ => by simp only [List.set_cons_zero, dotK, List.getD_cons_zero]; exact kg
  | x :: T, [], c + 1, _ => by simp only [List.set_cons_succ, dotK, List.getD_nil]; exact kg
  | x :: T, y :: Q, c + 1, h => by
    have := dotK_set d T Q c (by simpa using h)
    simp only [List.set_cons_succ, dotK, List.getD_cons_succ, this]; exact kg
/-- A matrix's sum between two tables. -/
def sK (R Q : List K) : List Entry → K
  | [] => 0
  | x :: l => R.getD x.Row.toNat 0 * Q.getD x.Col.toNat 0 * kF x.Value + sK R Q l
theorem kv_getD (l : List K) (j : Nat) : (kv l).getD j e0 = (l.getD j 0).1 := by
  by_cases h : j < l.length
  · simp [kv, h]
  · simp [kv, h]; rfl
theorem mx_fold (R Q : List K) : ∀ (l : List Entry) (c : K), (∀ x ∈ l, okF x.Value) → l.foldl (mxS (kv R) (kv Q)) c.1 = (c + sK R Q l).1
  | [], c, _ => by
    show c.1 = (c + 0).1
    exact congrArg Subtype.val (by exact kg)
  | x :: l, c, h => by
    have := mx_fold R Q l (c + R.getD x.Row.toNat 0 * Q.getD x.Col.toNat 0 * kF x.Value) fun y hy => h y (by simp [hy])
    rw [List.foldl_cons, mxS, kv_getD, kv_getD, ← kF_val (h x (by simp))]
    show l.foldl _ (c + R.getD x.Row.toNat 0 * Q.getD x.Col.toNat 0 * kF x.Value).1 = _
    rw [this]
    exact congrArg Subtype.val (by rw [sK]; exact kg)
theorem mxM_K {R Q : List K} {l : List Entry} (h : ∀ x ∈ l, okF x.Value) : mxM l (kv R) (kv Q) = (sK R Q l).1 := by
  have := mx_fold R Q l 0 h
  rw [mxM, show e0 = (0 : K).1 from rfl, this]
  exact congrArg Subtype.val (by exact kg)
def btS (β : K) (R : List K) (T : List K) (x : Entry) : List K := T.set x.Col.toNat (T.getD x.Col.toNat 0 + β * R.getD x.Row.toNat 0 * kF x.Value)
theorem btF_len (β : K) (R : List K) : ∀ (l : List Entry) (T : List K), (l.foldl (btS β R) T).length = T.length
  | [], T => rfl
  | x :: l, T => by rw [List.foldl_cons, btF_len β R l, btS, List.length_set]
theorem bt_dot (β : K) (R Q : List K) : ∀ (l : List Entry) (T : List K), (∀ x ∈ l, x.Col.toNat < T.length) → dotK (l.foldl (btS β R) T) Q = dotK T Q + β * sK R Q l
  | [], T, _ => by rw [List.foldl_nil, sK]; exact kg
  | x :: l, T, h => by
    rw [List.foldl_cons, bt_dot β R Q l _ fun y hy => by rw [btS, List.length_set]; exact h y (by simp [hy]), btS, dotK_set _ _ _ _ (h x (by simp)), sK]; exact kg
theorem kv_set (l : List K) (j : Nat) (x : K) : (kv l).set j x.1 = kv (l.set j x) := by simp [kv, List.map_set]
theorem bt_loop1 {R T : List K} {β : K} {l t t2 t3 c4 c5 c6 : List Entry} {t4 c c2 c3 c9 c10 c11 c12 : Int} {RR CC : Int} (hm : OkM l RR CC) (hR : (R.length : Int) = RR) (hT : (T.length : Int) = CC) :
    Loop (i_boundTable_1_s (kv R) t t2 t3 t4 l ((l.length : Nat) : Int) c c2 c3 c4 c5 c6 β.1.A β.1.B c9 c10 c11 c12) (kv T, 0) = some (kv (l.foldl (btS β R) T), (l.length : Int), false) := by
  have hl := hm.len
  have key := Loop_for (step := i_boundTable_1_s (kv R) t t2 t3 t4 l ((l.length : Nat) : Int) c c2 c3 c4 c5 c6 β.1.A β.1.B c9 c10 c11 c12) (fun j => (kv ((l.take j).foldl (btS β R) T), (j : Int))) l.length (e := (kv (l.foldl (btS β R) T), (l.length : Int), false)) (fun j hj => ?_) ?_
  · exact key
  · simp only [i_boundTable_1_s]
    obtain ⟨hr, hc, _⟩ := hm.ent _ (List.getElem_mem hj)
    have hv := val_ok (hm.ent _ (List.getElem_mem hj))
    have hn := btF_len β R (l.take j) T
    have hrow : atL (kv R) l[j].Row = some (R.getD l[j].Row.toNat 0).1 := by
      have := kv_at (l := R) (j := l[j].Row.toNat) (by omega)
      rwa [Int.toNat_of_nonneg hr.1] at this
    rw [brd (by omega), atL_nat hj, Option.bind_some, brd hc.1, brd (by rw [kv_len, hn]; omega), kv_get? (by omega), Option.bind_some, hrow, Option.bind_some, show Ext.mk β.1.A β.1.B = β.1 from rfl, i_times_eq β.2 (Subtype.property _), Option.bind_some, i_scaled_eq (eM_ok _ _) hv, Option.bind_some,
      i_plus_eq (Subtype.property _) (eC_ok _ _), Option.bind_some, brd hc.1, brd (by rw [kv_len, hn]; omega), Option.bind_some, wrap_i64 _ (by omega) (by omega), eC_eq, ← kF_val hv, take_succ hj, List.foldl_append]
    show some (Sum.inl ((kv _).set l[j].Col.toNat ((List.foldl (btS β R) T (l.take j)).getD l[j].Col.toNat 0 + β * R.getD l[j].Row.toNat 0 * kF l[j].Value).1, _)) = _
    rw [kv_set]; rfl
  · simp only [i_boundTable_1_s]
    rw [brn (by omega), decide_eq_false (by omega), List.take_length]
end Go.AI.Fn

set_option linter.unusedVariables false
set_option linter.unusedSimpArgs false
namespace Go.AI.Fn

/-- A text taken in. -/
def tkM (s : Source) (t : List UInt8) : Source := ⟨s.Script, s.At, H (s.State ++ (tagA ++ (four t.length ++ t))), 0⟩
theorem tkM_ok {s : Source} (t : List UInt8) (h : OkSrc s) : OkSrc (tkM s t) := ⟨h.1, h.2, H_len _, h.4, h.5, by simp [tkM], by simp [tkM]⟩
def beN (l : List UInt8) : Int := l.foldl (fun n c => n * 256 + (c.toNat : Int)) 0
def fldM (l : List UInt8) : Int := beN l % 2130706433
/-- An element drawn. -/
def drawM (s : Source) : Source × Ext :=
  if s.Script.length = 0 then (⟨s.Script, s.At, s.State, s.Count + 1⟩, ⟨fldM ((H (s.State ++ (tagD ++ four s.Count))).take 8), fldM (((H (s.State ++ (tagD ++ four s.Count))).drop 8).take 8)⟩)
  else (⟨s.Script, s.At + 1, s.State, s.Count⟩, s.Script.getD (s.At % (s.Script.length : Int)).toNat e0)
theorem drawM_src {s : Source} (h : OkSrc s) (ha : s.At < 1000000) (hc : s.Count < 1000000) : OkSrc (drawM s).1 := by
  unfold drawM
  split
  · exact ⟨h.1, h.2, h.3, h.4, h.5, by have := h.6; simp; omega, by simp; omega⟩
  · exact ⟨h.1, h.2, h.3, by have := h.4; simp; omega, by simp; omega, h.6, h.7⟩

theorem s_absorb_eq {s : Source} {t : List UInt8} (hs : s.State.length = 32) (ht : t.length ≤ 1000000) : s_l05Absorb s t = some (tkM s t) := by
  unfold s_l05Absorb
  have h4 := four_len ((t.length : Nat) : Int)
  rw [br_fits (by simp only [List.length_cons, List.length_nil]; omega), number4, Option.bind_some, br_fits (by simp only [List.length_append, List.length_cons, List.length_nil]; omega),
    br_fits (by simp only [List.length_append, List.length_cons, List.length_nil]; omega), s_hash_eq (by simp only [List.length_append, List.length_cons, List.length_nil]; omega), Option.bind_some, tkM]
  simp [tagA]
theorem beN_snoc (l : List UInt8) (c : UInt8) : beN (l ++ [c]) = beN l * 256 + (c.toNat : Int) := by simp [beN, List.foldl_append]
theorem s_field_eq {t : List UInt8} (h : t.length = 8) : s_l05Field t = some (fldM t) := by
  unfold s_l05Field
  have key : Loop (s_l05Field_1_s t) (0, 0) = some (fldM t, 8, false) :=
    Loop_for (fun k => (beN (t.take k) % 2130706433, (k : Int))) 8 (fun k hk => by
      have hk' : k < t.length := by omega
      have hb := u8_lt t[k]
      have hm : 0 ≤ beN (t.take k) % 2130706433 ∧ beN (t.take k) % 2130706433 < 2130706433 := by omega
      simp only [s_l05Field_1_s]
      rw [brd (by omega), atL_nat hk', Option.bind_some]
      simp (disch := omega) only [wrap_i64, tmod_nn]
      rw [take_succ hk', beN_snoc, mX1]; rfl) (by
      simp only [s_l05Field_1_s]
      rw [brn (by decide), List.take_of_length_le (by omega)]; rfl)
  rw [key]; rfl
theorem s_draw_eq {s : Source} (h : OkSrc s) : s_l05Draw s = some (drawM s) := by
  have h1 := h.1
  have h3 := h.3
  have h4 := h.4
  have h5 := h.5
  have h6 := h.6
  have h7 := h.7
  unfold s_l05Draw drawM
  by_cases hl : s.Script.length = 0
  · have hf := four_len s.Count
    rw [brn (by omega), if_pos hl, br_fits (by simp only [List.length_cons, List.length_nil]; omega), number4, Option.bind_some, br_fits (by simp only [List.length_append, List.length_cons, List.length_nil]; omega), s_hash_eq (by simp only [List.length_append, List.length_cons, List.length_nil]; omega), Option.bind_some]
    have e : s.State ++ [100, 114, 97, 119] ++ four s.Count = s.State ++ (tagD ++ four s.Count) := by simp [tagD]
    rw [e]
    have hh := H_len (s.State ++ (tagD ++ four s.Count))
    rw [subL_of (by omega) (by omega) (by omega), Option.bind_some, s_field_eq (by simp; omega), Option.bind_some, subL_of (by omega) (by omega) (by omega), Option.bind_some, s_field_eq (by simp; omega), Option.bind_some, wrap_i64 _ (by omega) (by omega)]
    rfl
  · have hr := Int.emod_nonneg s.At (b := (s.Script.length : Int)) (by omega)
    have hr2 := Int.emod_lt_of_pos s.At (b := (s.Script.length : Int)) (by omega)
    rw [brd (by omega), if_neg hl, brd (by omega), tmod_nn _ _ h4, wrap_i64 _ (by omega) (by omega)]
    have e : atL s.Script (s.At % (s.Script.length : Int)) = some (s.Script.getD (s.At % (s.Script.length : Int)).toNat e0) := by
      have := atL_e (l := s.Script) (k := (s.At % (s.Script.length : Int)).toNat) (by omega)
      rwa [Int.toNat_of_nonneg hr] at this
    rw [e]; rfl
theorem s_own_eq {s : Source} (h : s.Script.length ≤ 1000000) : s_l05Own s = some s := by
  unfold s_l05Own; rw [br_fits (by simp; omega)]; simp
theorem s_new_eq {l : List UInt8} {scr : List Ext} (h : l.length ≤ 1000000) : s_l05New l scr = some ⟨scr, 0, H (tagS ++ l), 0⟩ := by
  unfold s_l05New
  rw [br_fits (by simp only [List.length_cons, List.length_nil]; omega), s_hash_eq (by simp only [List.length_append, List.length_cons, List.length_nil]; omega), Option.bind_some]; rfl
theorem new_ok {l : List UInt8} {scr : List Ext} (h : scr.length ≤ 64) (hs : OkEs scr) : OkSrc ⟨scr, 0, H (tagS ++ l), 0⟩ := ⟨h, hs, H_len _, by simp, by simp, by simp, by simp⟩
theorem pick_ok {l : List (List UInt8)} {m : l00Src} {B : Int} (h : Src B m) (hB : B + 3 < Big) (h0 : 1 < l.length) (h1 : l.length ≤ 100) : ∃ x m', s_l00Src_pick l m = some (x, m') ∧ x ∈ l ∧ Src (B + 3) m' := by
  unfold s_l00Src_pick
  obtain ⟨x, m1, e1, x0, x1, _, s1⟩ := next_ok (n := (l.length : Int)) h (by omega)
  rw [brne (by omega), e1, Option.bind_some]
  obtain ⟨y, hy, _, hm⟩ := atL_of (l := l) x0 (by have := x1; omega)
  dsimp only
  rw [hy]
  exact ⟨_, _, rfl, hm, s1⟩

/-- A drawn source's bounds: it has drawn little. -/
structure Few (s : Source) (k : Int) : Prop where
  ok : OkSrc s
  a : s.At ≤ k
  c : s.Count ≤ k
theorem Few.mono {s : Source} {j k : Int} (h : Few s j) (hk : j ≤ k) : Few s k := ⟨h.1, by have := h.2; omega, by have := h.3; omega⟩
theorem Few.take {s : Source} {k : Int} (h : Few s k) (t : List UInt8) : Few (tkM s t) (k + 1) := ⟨tkM_ok t h.1, by have := h.2; simp [tkM]; omega, by have := h.3; have := h.1.c0; simp [tkM]; omega⟩
theorem Few.draw {s : Source} {k : Int} (h : Few s k) (hk : k < 1000000) : Few (drawM s).1 (k + 1) := by
  have h2 := h.2
  have h3 := h.3
  refine ⟨drawM_src h.1 (by omega) (by omega), ?_, ?_⟩ <;> (unfold drawM; split <;> dsimp only <;> omega)
theorem s_loop1 {c4 c6 : Int} {c5 : List UInt8} {i B k : Int} {m : l00Src} {s : Source} (h : Src B m) (hs : Few s k) (hi0 : 0 ≤ i) (hi : i ≤ 4) (hk : k ≤ 100) (hB : B + 6 * i < Big) :
    ∃ e, Loop (s_l00Src_source_1_s c4 c5 c6) (i, m.code, m.at_, m.seed, s.Script, s.At, s.State, s.Count) = some e ∧ Src (B + 6 * i) ⟨e.2.2.1, e.2.2.2.1, e.2.2.2.2.1⟩ ∧ Few ⟨e.2.2.2.2.2.1, e.2.2.2.2.2.2.1, e.2.2.2.2.2.2.2.1, e.2.2.2.2.2.2.2.2⟩ (k + i) := by
  refine Loop_inv (step := s_l00Src_source_1_s c4 c5 c6) (fun x => 0 ≤ x.1 ∧ x.1 ≤ i ∧ Src (B + 6 * (i - x.1)) ⟨x.2.1, x.2.2.1, x.2.2.2.1⟩ ∧ Few ⟨x.2.2.2.2.1, x.2.2.2.2.2.1, x.2.2.2.2.2.2.1, x.2.2.2.2.2.2.2⟩ (k + (i - x.1))) (fun x => x.1.toNat) _ ?_ (i, m.code, m.at_, m.seed, s.Script, s.At, s.State, s.Count) ⟨hi0, by dsimp only; omega, h.mono (by dsimp only; omega), hs.mono (by dsimp only; omega)⟩
  rintro ⟨j, c, c2, c3, d, d2, d3, d4⟩ ⟨j0, j1, hsr, hfw⟩
  dsimp only at j0 j1 hsr hfw
  simp only [s_l00Src_source_1_s]
  by_cases hj : j > 0
  · left
    rw [brd hj]
    obtain ⟨b, m1, e1, s1⟩ := chance_ok (n := 2) hsr (by omega)
    rw [e1, Option.bind_some]
    cases b
    · dsimp only
      rw [br_false, s_draw_eq hfw.1, Option.bind_some, wrap_i64 _ (by omega) (by omega)]
      exact ⟨_, rfl, ⟨by dsimp only; omega, by dsimp only; omega, s1.mono (by dsimp only; omega), (hfw.draw (by omega)).mono (by dsimp only; omega)⟩, by dsimp only; omega⟩
    · dsimp only
      obtain ⟨y, m2, e2, _, s2⟩ := pick_ok (l := [[], [116, 101, 120, 116]]) s1 (by omega) (by decide) (by decide)
      have hy : y.length ≤ 1000 := by
        have : y ∈ [[], [116, 101, 120, 116]] := by assumption
        simp only [List.mem_cons, List.mem_nil_iff, or_false] at this
        rcases this with rfl | rfl <;> simp
      rw [br_true, e2, Option.bind_some, s_absorb_eq (t := y) hfw.1.3 (by omega), Option.bind_some, wrap_i64 _ (by omega) (by omega)]
      exact ⟨_, rfl, ⟨by dsimp only; omega, by dsimp only; omega, s2.mono (by dsimp only; omega), (hfw.take y).mono (by dsimp only; omega)⟩, by dsimp only; omega⟩
  · right
    rw [brn hj]
    have : j = 0 := by omega
    subst this
    exact ⟨_, rfl, hsr.mono (by omega), hfw.mono (by omega)⟩
theorem s_loop2 {c4 c6 : Int} {c5 : List UInt8} {i B k : Int} {m : l00Src} {s : Source} (h : Src B m) (hs : Few s k) (hi0 : 0 ≤ i) (hi : i ≤ 4) (hk : k ≤ 100) (hB : B + 6 * i < Big) :
    ∃ e, Loop (s_l00Src_source_2_s c4 c5 c6) (i, m.code, m.at_, m.seed, s.Script, s.At, s.State, s.Count) = some e ∧ Src (B + 6 * i) ⟨e.2.2.1, e.2.2.2.1, e.2.2.2.2.1⟩ ∧ Few ⟨e.2.2.2.2.2.1, e.2.2.2.2.2.2.1, e.2.2.2.2.2.2.2.1, e.2.2.2.2.2.2.2.2⟩ (k + i) :=
  s_loop1 (c4 := c4) (c5 := c5) (c6 := c6) h hs hi0 hi hk hB
theorem SourceOf_ok {code : List UInt8} (h : code.length ≤ 1048576) : ∃ s, s_SourceOf code = some s ∧ Few s 4 := by
  unfold s_SourceOf s_l00Src_source
  obtain ⟨m, e1, s1⟩ := source_ok (show code.length ≤ 1048600 by omega)
  rw [e1, Option.bind_some]
  obtain ⟨y, m2, e2, hy, s2⟩ := pick_ok (l := [[], [97], [108, 97, 98, 101, 108]]) s1 (by decide) (by decide) (by decide)
  have hyl : y.length ≤ 1000 := by
    simp only [List.mem_cons, List.mem_nil_iff, or_false] at hy
    rcases hy with rfl | rfl | rfl <;> simp
  rw [e2, Option.bind_some, s_new_eq (l := y) (by omega), Option.bind_some]
  obtain ⟨b, m3, e3, s3⟩ := chance_ok (n := 3) s2 (by decide)
  dsimp only
  rw [e3, Option.bind_some]
  cases b
  · dsimp only
    obtain ⟨x, m4, e4, x0, x1, _, s4⟩ := next_ok (n := 4) s3 (by decide)
    rw [br_false, e4, Option.bind_some]
    obtain ⟨e, e5, s5, f5⟩ := s_loop2 (c4 := 0) (c5 := []) (c6 := 0) (i := x) (k := 0) s4 (s := ⟨[], 0, H (tagS ++ y), 0⟩) ⟨new_ok (by simp) OkEs.nil, by simp, by simp⟩ x0 (by have := x1 (by decide); omega) (by decide) (by have := x1 (by decide); simp only [Big]; omega)
    dsimp only at e5 ⊢
    rw [e5, Option.bind_some, s_own_eq (by have := f5.1.1; dsimp only at this ⊢; omega), Option.bind_some, Option.bind_some]
    exact ⟨_, rfl, f5.mono (by have := x1 (by decide); omega)⟩
  · dsimp only
    obtain ⟨n, m4, e4, n0, n1, _, s4⟩ := next_ok (n := 5) s3 (by decide)
    have hn := n1 (by decide)
    rw [br_true, e4, Option.bind_some, wrap_i64 _ (by omega) (by omega)]
    obtain ⟨l, m5, e5, l0, l1, s5⟩ := exts_ok (n := 1 + n) s4 (by omega) (by omega) (by simp only [Big]; omega)
    dsimp only
    rw [e5, Option.bind_some]
    obtain ⟨x, m6, e6, x0, x1, _, s6⟩ := next_ok (n := 4) s5 (by simp only [Big]; omega)
    dsimp only
    rw [e6, Option.bind_some]
    obtain ⟨e, e7, s7, f7⟩ := s_loop1 (c4 := 0) (c5 := []) (c6 := 0) (i := x) (k := 0) s6 (s := ⟨l, 0, H (tagS ++ y), 0⟩) ⟨new_ok (by omega) l1, by simp, by simp⟩ x0 (by have := x1 (by decide); omega) (by decide) (by have := x1 (by decide); simp only [Big]; omega)
    dsimp only at e7 ⊢
    rw [e7, Option.bind_some, s_own_eq (by have := f7.1.1; dsimp only at this ⊢; omega), Option.bind_some, Option.bind_some]
    exact ⟨_, rfl, f7.mono (by have := x1 (by decide); omega)⟩
end Go.AI.Fn

set_option linter.unusedVariables false
set_option linter.unusedSimpArgs false
namespace Go.AI.Fn

theorem i_absorb_eq {s : Source} {t : List UInt8} (hs : s.State.length = 32) (ht : t.length ≤ 1000000) : i_Source_absorb t s = some (tkM s t) := by
  unfold i_Source_absorb
  have hf : [s.State, [97, 98, 115, 111, 114, 98], four ((t.length : Nat) : Int), t].flatten = s.State ++ (tagA ++ (four t.length ++ t)) := by simp [tagA]
  rw [br_fits (by omega), i_four_eq, Option.bind_some, i_keccak_eq (by rw [hf]; simp only [List.length_append, four_len, tagA, List.length_cons, List.length_nil]; omega) (by simp), Option.bind_some, hf]; rfl
theorem i_copied_eq {s : Source} (h : s.Script.length ≤ 1000000) : i_Source_copied s = some s := by
  unfold i_Source_copied slices_Clone_Li_Ext_i_Ext
  rw [br_fits (by omega)]; rfl
theorem i_SourceOK_t {s : Source} (h : OkSrc s) : i_SourceOK s = some true := by
  have := h.1
  rw [i_SourceOK_eq (by omega), srcB_iff.2 h]
theorem s_SourceOK_t {s : Source} (h : OkSrc s) : s_SourceOK s = some true := by
  have := h.1
  rw [s_SourceOK_eq (by omega), srcB_iff.2 h]
variable {s : Source} {k : Int}
theorem mx_le {a b c : Int} (h : a ≤ c) (g : b ≤ c) : mx a b ≤ c := by unfold mx; split <;> assumption
end Go.AI.Fn

set_option linter.unusedVariables false
set_option linter.unusedSimpArgs false
namespace Go.AI.Fn

theorem bt_loop2 {R T : List K} {β : K} {l t t2 t3 c4 c5 c6 : List Entry} {c c2 c3 c7 c8 c11 c12 : Int} {RR CC : Int} (hm : OkM l RR CC) (hR : (R.length : Int) = RR) (hT : (T.length : Int) = CC) :
    Loop (i_boundTable_2_s (kv R) t t2 t3 l ((l.length : Nat) : Int) c c2 c3 c4 c5 c6 c7 c8 β.1.A β.1.B c11 c12) (kv T, 0) = some (kv (l.foldl (btS β R) T), (l.length : Int), false) :=
  bt_loop1 (t := t) (t2 := t2) (t3 := t3) (t4 := 0) (c := c) (c2 := c2) (c3 := c3) (c4 := c4) (c5 := c5) (c6 := c6) (c9 := 0) (c10 := 0) (c11 := 0) (c12 := 0) hm hR hT
theorem bt_loop3 {R T : List K} {β : K} {l t t2 t3 c4 c5 c6 : List Entry} {c c2 c3 c7 c8 c9 c10 : Int} {RR CC : Int} (hm : OkM l RR CC) (hR : (R.length : Int) = RR) (hT : (T.length : Int) = CC) :
    Loop (i_boundTable_3_s (kv R) t t2 t3 l ((l.length : Nat) : Int) c c2 c3 c4 c5 c6 c7 c8 c9 c10 β.1.A β.1.B) (kv T, 0) = some (kv (l.foldl (btS β R) T), (l.length : Int), false) :=
  bt_loop1 (t := t) (t2 := t2) (t3 := t3) (t4 := 0) (c := c) (c2 := c2) (c3 := c3) (c4 := c4) (c5 := c5) (c6 := c6) (c9 := 0) (c10 := 0) (c11 := 0) (c12 := 0) hm hR hT
/-- The bound table. -/
def btM (s : System) (R : List K) (x y z : K) : List K := s.C.foldl (btS z R) (s.B.foldl (btS y R) (s.A.foldl (btS x R) (List.replicate (2 ^ s.Cols.toNat) 0)))
theorem btM_len (s : System) (R : List K) (x y z : K) : (btM s R x y z).length = 2 ^ s.Cols.toNat := by rw [btM, btF_len, btF_len, btF_len, List.length_replicate]
theorem kv_rep0 (n : Nat) : kv (List.replicate n 0) = List.replicate n e0 := by rw [kv, List.map_replicate]; rfl
theorem sys_mats {s : System} (h : sysB s = true) : OkM s.A ((2 ^ s.Rows.toNat : Nat) : Int) ((2 ^ s.Cols.toNat : Nat) : Int) ∧ OkM s.B ((2 ^ s.Rows.toNat : Nat) : Int) ((2 ^ s.Cols.toNat : Nat) : Int) ∧ OkM s.C ((2 ^ s.Rows.toNat : Nat) : Int) ((2 ^ s.Cols.toNat : Nat) : Int) ∧
    matB s.A ((2 ^ s.Rows.toNat : Nat) : Int) ((2 ^ s.Cols.toNat : Nat) : Int) = true ∧ matB s.B ((2 ^ s.Rows.toNat : Nat) : Int) ((2 ^ s.Cols.toNat : Nat) : Int) = true ∧ matB s.C ((2 ^ s.Rows.toNat : Nat) : Int) ((2 ^ s.Cols.toNat : Nat) : Int) = true := by
  obtain ⟨hR, hC, _⟩ := sysB_in h
  have e1 : s.Rows = ((s.Rows.toNat : Nat) : Int) := by omega
  have e2 : s.Cols = ((s.Cols.toNat : Nat) : Int) := by omega
  have f1 : shl64 .i64 1 s.Rows = ((2 ^ s.Rows.toNat : Nat) : Int) := by conv => lhs; rw [e1]; rw [shl1 (by omega)]
  have f2 : shl64 .i64 1 s.Cols = ((2 ^ s.Cols.toNat : Nat) : Int) := by conv => lhs; rw [e2]; rw [shl1 (by omega)]
  unfold sysB at h
  simp only [Bool.and_eq_true, decide_eq_true_eq, f1, f2] at h
  obtain ⟨_, _, _, mA, mB, mC⟩ := h
  exact ⟨matB_ok mA, matB_ok mB, matB_ok mC, mA, mB, mC⟩
theorem i_boundTable_eq {s : System} (h : sysB s = true) {p R : List K} {x y z : K} (hp : p.length = s.Rows.toNat) (hR : eqT (kv p) = kv R) : i_boundTable s (kv p) (x.1, y.1, z.1) = some (kv (btM s R x y z)) := by
  obtain ⟨hr, hc, _⟩ := sysB_in h
  obtain ⟨mA, mB, mC, _⟩ := sys_mats h
  have hpw := pow2_5 s.Cols.toNat (by omega)
  have hRl : (R.length : Int) = ((2 ^ s.Rows.toNat : Nat) : Int) := by
    have := eqT_len (kv p)
    rw [hR, kv_len, kv_len, hp] at this; omega
  have e2 : s.Cols = ((s.Cols.toNat : Nat) : Int) := by omega
  have f2 : shl64 .i64 1 s.Cols = ((2 ^ s.Cols.toNat : Nat) : Int) := by conv => lhs; rw [e2]; rw [shl1 (by omega)]
  unfold i_boundTable i_System_matrices
  rw [brd (by omega), f2, br_mk (by omega) (by omega) (by omega), i_eqTable_eq (kv_ok p) (by rw [kv_len]; omega), Option.bind_some, hR, Option.bind_some]
  dsimp only
  rw [Int.toNat_natCast, show Ext.mk 0 0 = e0 from rfl, ← kv_rep0, bt_loop1 mA hRl (by rw [List.length_replicate]), Option.bind_some]
  dsimp only
  rw [bt_loop2 mB hRl (by rw [btF_len, List.length_replicate]), Option.bind_some]
  dsimp only
  rw [bt_loop3 mC hRl (by rw [btF_len, btF_len, List.length_replicate]), Option.bind_some]; rfl
theorem i_BoundTable_eq {s : System} (h : sysB s = true) {p R : List K} {x y z : K} (hp : p.length = s.Rows.toNat) (hR : eqT (kv p) = kv R) : i_BoundTable s (kv p) x.1 y.1 z.1 = some (kv (btM s R x y z), 0) := by
  obtain ⟨hr, hc, _, hA, hB, hC⟩ := sysB_in h
  unfold i_BoundTable
  rw [kv_len, brn (by omega), i_SystemOK_eq (by omega) (by omega) (by omega), Option.bind_some, h, Bool.not_true, br_false, i_areE_eq (by rw [kv_len]; omega), Option.bind_some, allE.2 (kv_ok p), Bool.not_true, br_false,
    i_ExtOK_eq, Option.bind_some, okEb_iff.2 x.2, Bool.not_true, br_false, i_ExtOK_eq, Option.bind_some, okEb_iff.2 y.2, Bool.not_true, br_false, i_ExtOK_eq, Option.bind_some, okEb_iff.2 z.2, Bool.not_true, br_false, brbe (by omega), i_boundTable_eq h hp hR]; rfl
theorem i_ExtDot_eq {a b : List K} (hl : a.length = b.length) (hn : a.length ≤ 1000) : i_ExtDot (kv a) (kv b) = some ((dotK a b).1, 0) := by
  unfold i_ExtDot i_areLists
  rw [kv_len, kv_len, brn (by omega), brn (by omega), i_areE_eq (by rw [kv_len]; omega), Option.bind_some, allE.2 (kv_ok a), Bool.not_true, br_false, i_areE_eq (by rw [kv_len]; omega), Option.bind_some, allE.2 (kv_ok b), Bool.not_true, br_false, Option.bind_some, brbe rfl, brbe (by omega), i_dot_eq (kv_ok a) (kv_ok b) (by rw [kv_len, kv_len]; omega) (by rw [kv_len]; omega), dotM_K]; rfl
theorem dotK_rep (Q : List K) : ∀ n, dotK (List.replicate n 0) Q = 0
  | 0 => rfl
  | n + 1 => by
    cases Q with
    | nil => rfl
    | cons y Q => rw [List.replicate_succ, dotK, dotK_rep Q n]; exact kg

/-! ### how a proof starts -/
def numT (l : List Int) : List UInt8 := l.flatMap four
theorem numT_len (l : List Int) : (numT l).length = 4 * l.length := by
  induction l with
  | nil => rfl
  | cons x l ih => simp only [numT, List.flatMap_cons, List.length_append, four_len, List.length_cons] at *; omega
theorem numT_snoc (l : List Int) (x : Int) : numT (l ++ [x]) = numT l ++ four x := by simp [numT]
def setT (t : Setting) : List UInt8 := [UInt8.ofInt t.Rate, UInt8.ofInt t.Queries, UInt8.ofInt t.Grind]
def startT (s : System) (t : Setting) (p : List Int) : List UInt8 := H (sysT s) ++ setT t ++ numT p
theorem st_loop {l : List (List UInt8)} {l3 L : List UInt8} {p : List Int} {c c2 c3 c7 c8 c9 : Int} {c4 c5 c6 : List Entry} (hp : p.length ≤ 5000) (hL : L.length ≤ 1000) : Loop (i_startText_1_s l l3 p ((p.length : Nat) : Int) c c2 c3 c4 c5 c6 c7 c8 c9) (L, 0) = some (L ++ numT p, (p.length : Int), false) := by
  have key := Loop_for (step := i_startText_1_s l l3 p ((p.length : Nat) : Int) c c2 c3 c4 c5 c6 c7 c8 c9) (fun j => (L ++ numT (p.take j), (j : Int))) p.length (e := (L ++ numT p, (p.length : Int), false)) (fun j hj => ?_) ?_
  · simpa [numT] using key
  · simp only [i_startText_1_s]
    have hn := numT_len (p.take j)
    rw [List.length_take] at hn
    rw [brd (by omega), atL_nat hj, Option.bind_some, i_fouro_eq (by simp only [List.length_append]; omega), Option.bind_some, wrap_i64 _ (by omega) (by omega), take_succ hj, numT_snoc, List.append_assoc]; rfl
  · simp only [i_startText_1_s]
    rw [brn (by omega), decide_eq_false (by omega), List.take_length]
theorem s_st_loop {l L : List UInt8} {p : List Int} {c c2 c3 c7 c8 c9 c11 c13 c14 c16 : Int} {c10 : List Ext} {c12 c15 : List UInt8} {c4 c5 c6 : List Entry} (hp : p.length ≤ 5000) (hL : L.length ≤ 1000) : Loop (s_l12Start_1_s l p c c2 c3 c4 c5 c6 c7 c8 c9 c10 c11 c12 c13 c14 c15 c16) (L, 0) = some (L ++ numT p, (p.length : Int), false) := by
  have key := Loop_for (step := s_l12Start_1_s l p c c2 c3 c4 c5 c6 c7 c8 c9 c10 c11 c12 c13 c14 c15 c16) (fun j => (L ++ numT (p.take j), (j : Int))) p.length (e := (L ++ numT p, (p.length : Int), false)) (fun j hj => ?_) ?_
  · simpa [numT] using key
  · simp only [s_l12Start_1_s]
    have hn := numT_len (p.take j)
    rw [List.length_take] at hn
    rw [brd (by omega), atL_nat hj, Option.bind_some, number4, Option.bind_some, br_fits (by simp only [List.length_append, four_len]; omega), wrap_i64 _ (by omega) (by omega), take_succ hj, numT_snoc, List.append_assoc]; rfl
  · simp only [s_l12Start_1_s]
    rw [brn (by omega), decide_eq_false (by omega), List.take_length]
theorem startT_len (s : System) (t : Setting) (p : List Int) : (startT s t p).length = 35 + 4 * p.length := by
  simp only [startT, List.length_append, H_len, setT, List.length_cons, List.length_nil, numT_len]
theorem pubs_le {s : System} (h : sysB s = true) : s.Publics ≤ 4096 := (sysB_in h).2.2.1.2
theorem i_Start_eq {s : System} {t : Setting} {p : List Int} {src : Source} {k : Int} (hs : sysB s = true) (ht : setB t = true) (hp : (p.length : Int) = s.Publics) (ok : OkFs p) (hf : Few src k) (hk : k ≤ 1000) : i_Start s t p src = some (tkM src (startT s t p), 0) := by
  obtain ⟨_, _, _, hA, hB, hC⟩ := sysB_in hs
  have hle := pubs_le hs
  have h1 := hf.1.1
  have hmx := mx_le hf.2 hf.3
  have h0 : 0 ≤ mx src.At src.Count := by have := hf.1.4; have := hf.1.6; unfold mx; split <;> assumption
  have hl := sysT_len s
  have hs2 := startT_len s t p
  have hH := H_len (sysT s)
  unfold i_Start i_startCode i_Source_left i_startText
  rw [brn (by omega), i_SystemOK_eq (by omega) (by omega) (by omega), Option.bind_some, hs, Bool.not_true, br_false, i_SettingOK_eq, Option.bind_some, ht, Bool.not_true, br_false, i_areF_eq (by omega), Option.bind_some, allF.2 ok, Bool.not_true, br_false, i_SourceOK_t hf.1, Option.bind_some, Bool.not_true, br_false, brbe hp,
    Option.bind_some, wrap_i64 _ (by omega) (by omega), brn (by omega), Option.bind_some, brbe rfl, i_copied_eq (by omega), Option.bind_some, i_digestText_eq hA hB hC, Option.bind_some, i_keccak_eq (by simpa using by omega) (by simp), Option.bind_some, show [sysT s].flatten = sysT s by simp, br_fits (by omega), br_fits (by simp only [List.length_append, List.length_cons, List.length_nil]; omega),
    st_loop (by omega) (by simp only [List.length_append, List.length_cons, List.length_nil]; omega), Option.bind_some, Option.bind_some]
  rw [show H (sysT s) ++ [UInt8.ofInt t.Rate, UInt8.ofInt t.Queries, UInt8.ofInt t.Grind] ++ numT p = startT s t p from rfl, i_absorb_eq (t := startT s t p) hf.1.3 (by rw [hs2]; omega)]; rfl
theorem s_Start_eq {s : System} {t : Setting} {p : List Int} {src : Source} {k : Int} (hs : sysB s = true) (ht : setB t = true) (hp : (p.length : Int) = s.Publics) (ok : OkFs p) (hf : Few src k) (hk : k ≤ 1000) : s_Start s t p src = some (tkM src (startT s t p), 0) := by
  obtain ⟨_, _, _, hA, hB, hC⟩ := sysB_in hs
  have hle := pubs_le hs
  have h1 := hf.1.1
  have h2 := hf.2
  have h3 := hf.3
  have hs2 := startT_len s t p
  have hH := H_len (sysT s)
  unfold s_Start s_l12Ask s_l12Start s_l05Spent
  rw [brn (by omega), brn (by omega), s_SystemOK_eq, Option.bind_some, hs, Bool.not_true, br_false, s_SettingOK_eq, Option.bind_some, ht, Bool.not_true, br_false, s_fields_eq (by omega), Option.bind_some, allF.2 ok, Bool.not_true, br_false, s_SourceOK_t hf.1, Option.bind_some, Bool.not_true, br_false, brbe hp,
    wrap_i64 _ (by omega) (by omega), brn (by omega), Option.bind_some, decide_eq_false (by omega), br_false, Option.bind_some, brbe rfl, s_l10Digest_eq hA hB hC, Option.bind_some, br_fits (by simp only [List.length_cons, List.length_nil]; omega), s_st_loop (by omega) (by simp only [List.length_append, List.length_cons, List.length_nil]; omega), Option.bind_some]
  dsimp only
  rw [show H (sysT s) ++ [UInt8.ofInt t.Rate, UInt8.ofInt t.Queries, UInt8.ofInt t.Grind] ++ numT p = startT s t p from rfl, s_absorb_eq hf.1.3 (by omega), Option.bind_some, Option.bind_some, s_own_eq (by show src.Script.length ≤ _; omega)]; rfl
theorem sameExts_q {l : List Ext} (hl : l.length ≤ 1000000) : w_sameExts l l = some true := by
  unfold w_sameExts
  have key : Loop (w_sameExts_1_s l l) 0 = some (.inr ((l.length : Int), false)) :=
    Loop_for (step := w_sameExts_1_s l l) (fun j => (j : Int)) l.length (fun j hj => by
      simp only [w_sameExts_1_s]
      rw [brd (by omega), atL_nat hj, Option.bind_some, Option.bind_some, bre rfl, bre rfl, wrap_i64 _ (by omega) (by omega)]; rfl) (by
      simp only [w_sameExts_1_s]
      rw [brn (by omega), decide_eq_false (by omega)])
  rw [brbe rfl, key]; rfl
theorem sameSource_q {s : Source} (hl : s.Script.length ≤ 1000000) : w_sameSource s s = some true := by
  unfold w_sameSource
  rw [sameExts_q hl, Option.bind_some, br_true, bre rfl, br_of (by simp)]; simp
theorem law_FnStarts (a b : List UInt8) (ha : bdL bdT a) (hb : bdL bdT b) : w_FnStarts a b = some true := by
  unfold w_FnStarts
  by_cases c1 : ((a.length : Nat) : Int) > 1048576
  · rw [brd c1]
  rw [brn c1]
  by_cases c2 : ((b.length : Nat) : Int) > 1048576
  · rw [brd c2]
  rw [brn c2]
  obtain ⟨s, e1, hs, sR, sC⟩ := SystemDrawn_ok (code := a) (by omega)
  obtain ⟨hR, hC, hPub, hA, hB, hCl⟩ := sysB_in hs
  obtain ⟨t, e2, t1, t2, t3⟩ := SettingOf_ok (code := b) (by omega)
  have ht : setB t = true := by unfold setB; simp only [Bool.and_eq_true, decide_eq_true_eq]; omega
  obtain ⟨p, e3, pl, pok⟩ := NumbersOf_ok (code := b) (n := s.Publics) (by omega) (by omega) (by omega)
  obtain ⟨src, e4, hf⟩ := SourceOf_ok (code := a) (by omega)
  obtain ⟨X, e5, xl, xok⟩ := ExtsOf_ok (code := b) (n := s.Rows) (by omega) (by omega) (by omega)
  obtain ⟨Y, e6, yl, yok⟩ := ExtsOf_ok (code := a) (n := s.Cols) (by omega) (by omega) (by omega)
  obtain ⟨Z, e7, zl, zok⟩ := ExtsOf_ok (code := [3] ++ b) (n := 3) (by simp only [List.length_append, List.length_cons, List.length_nil]; omega) (by omega) (by omega)
  obtain ⟨x, rfl⟩ := kv_lift (L := X) xok
  obtain ⟨y, rfl⟩ := kv_lift (L := Y) yok
  obtain ⟨z, rfl⟩ := kv_lift (L := Z) zok
  rw [kv_len] at xl yl zl
  obtain ⟨R, hRt⟩ := kv_lift (eqT_ok (kv x))
  obtain ⟨Q, hQt⟩ := kv_lift (eqT_ok (kv y))
  obtain ⟨mA, mB, mC, bA, bB, bC⟩ := sys_mats hs
  have hxn : x.length = s.Rows.toNat := by omega
  have hyn : y.length = s.Cols.toNat := by omega
  have hz : ∃ z0 z1 z2, z = [z0, z1, z2] := by
    match z, zl with
    | [a, b, c], _ => exact ⟨a, b, c, rfl⟩
    | [], h => simp at h
    | [_], h => simp at h
    | [_, _], h => simp at h
    | _ :: _ :: _ :: _ :: _, h => simp only [List.length_cons] at h; omega
  obtain ⟨z0, z1, z2, rfl⟩ := hz
  have hpw := pow2_5 s.Cols.toNat (by omega)
  have vA : ∀ w ∈ s.A, okF w.Value := fun w hw => val_ok (mA.ent w hw)
  have vB : ∀ w ∈ s.B, okF w.Value := fun w hw => val_ok (mB.ent w hw)
  have vC : ∀ w ∈ s.C, okF w.Value := fun w hw => val_ok (mC.ent w hw)
  have hbt := btM_len s R z0 z1 z2
  have hval : dotK (btM s R z0 z1 z2) Q = dotK [z0, z1, z2] [sK R Q s.A, sK R Q s.B, sK R Q s.C] := by
    have cA : ∀ w ∈ s.A, w.Col.toNat < 2 ^ s.Cols.toNat := fun w hw => by have := (mA.ent w hw).2.1; omega
    have cB : ∀ w ∈ s.B, w.Col.toNat < 2 ^ s.Cols.toNat := fun w hw => by have := (mB.ent w hw).2.1; omega
    have cC : ∀ w ∈ s.C, w.Col.toNat < 2 ^ s.Cols.toNat := fun w hw => by have := (mC.ent w hw).2.1; omega
    rw [btM, bt_dot _ _ _ _ _ (by rw [btF_len, btF_len, List.length_replicate]; exact cC), bt_dot _ _ _ _ _ (by rw [btF_len, List.length_replicate]; exact cB), bt_dot _ _ _ _ _ (by rw [List.length_replicate]; exact cA), dotK_rep]
    simp only [dotK]; exact kg
  have hmA := i_MatrixAt_eq (l := s.A) (p := kv x) (q := kv y) (by rw [kv_len, kv_len, hxn, hyn]; exact bA) (kv_ok x) (kv_ok y) (by rw [kv_len]; omega) (by rw [kv_len]; omega)
  have hmB := i_MatrixAt_eq (l := s.B) (p := kv x) (q := kv y) (by rw [kv_len, kv_len, hxn, hyn]; exact bB) (kv_ok x) (kv_ok y) (by rw [kv_len]; omega) (by rw [kv_len]; omega)
  have hmC := i_MatrixAt_eq (l := s.C) (p := kv x) (q := kv y) (by rw [kv_len, kv_len, hxn, hyn]; exact bC) (kv_ok x) (kv_ok y) (by rw [kv_len]; omega) (by rw [kv_len]; omega)
  rw [hRt, hQt, mxM_K vA] at hmA
  rw [hRt, hQt, mxM_K vB] at hmB
  rw [hRt, hQt, mxM_K vC] at hmC
  have k0 : atL (kv [z0, z1, z2]) 0 = some z0.1 := rfl
  have k1 : atL (kv [z0, z1, z2]) 1 = some z1.1 := rfl
  have k2 : atL (kv [z0, z1, z2]) 2 = some z2.1 := rfl
  have hta : i_TableAt (kv (btM s R z0 z1 z2)) (kv y) = some ((dotK (btM s R z0 z1 z2) Q).1, 0) := by
    rw [i_TableAt_ok (kv_ok _) (kv_ok y) (by rw [kv_len]; omega) (by rw [kv_len, kv_len, hbt, hyn]), hQt, dotM_K]
  have hdt := i_ExtDot_eq (a := [z0, z1, z2]) (b := [sK R Q s.A, sK R Q s.B, sK R Q s.C]) rfl (by simp)
  have hsl : (tkM src (startT s t p)).Script.length ≤ 1000000 := by have := hf.1.1; show src.Script.length ≤ _; omega
  rw [e1, Option.bind_some, e2, Option.bind_some, e3, Option.bind_some, e4, Option.bind_some, i_Start_eq hs ht pl pok hf (by omega), Option.bind_some, s_Start_eq hs ht pl pok hf (by omega), Option.bind_some, e5, Option.bind_some, e6, Option.bind_some,
    br_fits (by simp only [List.length_append, List.length_cons, List.length_nil]; omega), e7, Option.bind_some, k0, Option.bind_some, k1, Option.bind_some, k2, Option.bind_some, i_BoundTable_eq hs hxn hRt, Option.bind_some]
  dsimp only
  rw [hta, Option.bind_some, hmA, Option.bind_some, hmB, Option.bind_some, hmC, Option.bind_some]
  dsimp only
  rw [show [(sK R Q s.A).1, (sK R Q s.B).1, (sK R Q s.C).1] = kv [sK R Q s.A, sK R Q s.B, sK R Q s.C] from rfl, hdt, Option.bind_some, hval]
  dsimp only
  rw [bre rfl, sameSource_q hsl, Option.bind_some, br_true, bre rfl, bre rfl, bre rfl, bre rfl, bre rfl, bre rfl, bre rfl, bre rfl]
end Go.AI.Fn
