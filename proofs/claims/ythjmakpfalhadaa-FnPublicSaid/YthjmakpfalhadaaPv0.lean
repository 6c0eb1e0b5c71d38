/- Plain laws for printed functions: loops whose states are told in advance; numbers; places. -/
import Derived.Test.YthjmakpfalhadaaAiW
import Derived.Test.YthjmakpfalhadaaFx0
import Derived.KernelRfl
set_option linter.unusedVariables false
namespace Go.AI

theorem Loop_inl {S E : Type} {step : S → Option (S ⊕ E)} {s s' : S} (h : step s = some (.inl s')) : Loop step s = Loop step s' := by rw [Loop_eq, h]; rfl
theorem Loop_inr {S E : Type} {step : S → Option (S ⊕ E)} {s : S} {e : E} (h : step s = some (.inr e)) : Loop step s = some e := by rw [Loop_eq, h]; rfl
/-- A loop that goes through states that are told. -/
theorem Loop_for {S E : Type} {step : S → Option (S ⊕ E)} (F : Nat → S) (n : Nat) {e : E} (hs : ∀ k, k < n → step (F k) = some (.inl (F (k + 1)))) (he : step (F n) = some (.inr e)) : Loop step (F 0) = some e := by
  have key : ∀ m k, k + m = n → Loop step (F k) = some e := by
    intro m
    induction m with
    | zero => intro k hk; have : k = n := by omega
              subst this; exact Loop_inr he
    | succ m ih => intro k hk; rw [Loop_inl (hs k (by omega))]; exact ih (k + 1) (by omega)
  exact key n 0 (by omega)
/-- The first place where something fails. -/
theorem first_bad (P : Nat → Bool) : ∀ n, (∀ k, k < n → P k = true) ∨ ∃ k, k < n ∧ P k = false ∧ ∀ j, j < k → P j = true
  | 0 => .inl (by omega)
  | n + 1 => by
    rcases first_bad P n with h | ⟨k, hk, h1, h2⟩
    · cases hn : P n
      · exact .inr ⟨n, by omega, hn, h⟩
      · refine .inl fun k hk => ?_
        by_cases e : k = n
        · subst e; exact hn
        · exact h k (by omega)
    · exact .inr ⟨k, by omega, h1, h2⟩
/-- A loop that goes on as long as something holds. -/
theorem Loop_all {S E : Type} {step : S → Option (S ⊕ E)} (F : Nat → S) (n : Nat) (P : Nat → Bool) (x : Nat → E) {e : E} (hs : ∀ k, k < n → P k = true → step (F k) = some (.inl (F (k + 1))))
    (hx : ∀ k, k < n → P k = false → step (F k) = some (.inr (x k))) (he : step (F n) = some (.inr e)) :
    ((∀ k, k < n → P k = true) ∧ Loop step (F 0) = some e) ∨ ∃ k, k < n ∧ P k = false ∧ (∀ j, j < k → P j = true) ∧ Loop step (F 0) = some (x k) := by
  rcases first_bad P n with h | ⟨k, hk, h1, h2⟩
  · exact .inl ⟨h, Loop_for F n (fun k hk => hs k hk (h k hk)) he⟩
  · exact .inr ⟨k, hk, h1, h2, Loop_for F k (fun j hj => hs j (by omega) (h2 j hj)) (hx k hk h1)⟩
/-- A loop with an invariant, a measure, a postcondition. -/
theorem Loop_inv {S E : Type} {step : S → Option (S ⊕ E)} (Inv : S → Prop) (me : S → Nat) (Post : E → Prop)
    (hs : ∀ s, Inv s → (∃ s', step s = some (.inl s') ∧ Inv s' ∧ me s' < me s) ∨ (∃ e, step s = some (.inr e) ∧ Post e)) :
    ∀ s, Inv s → ∃ e, Loop step s = some e ∧ Post e := by
  intro s
  generalize hm : me s = m
  induction m using Nat.strongRecOn generalizing s with
  | _ m ih =>
    intro hi
    rw [Loop_eq]
    rcases hs s hi with ⟨s', h1, h2, h3⟩ | ⟨e, h1, h2⟩
    · rw [h1]; exact ih (me s') (by omega) s' rfl h2
    · rw [h1]; exact ⟨e, rfl, h2⟩

theorem br_of {α : Type} {c : Bool} {x y : α} (h : c = true) : br c x y = x := by subst h; rfl
theorem br_no {α : Type} {c : Bool} {x y : α} (h : c = false) : br c x y = y := by subst h; rfl
theorem brd {α : Type} {p : Prop} [Decidable p] {x y : α} (h : p) : br (decide p) x y = x := br_of (decide_eq_true h)
theorem brn {α : Type} {p : Prop} [Decidable p] {x y : α} (h : ¬p) : br (decide p) x y = y := br_no (decide_eq_false h)
theorem brdd {α : Type} {p q : Prop} [Decidable p] [Decidable q] {x y : α} (h : p) (g : q) : br (decide p && decide q) x y = x := br_of (by simp [h, g])
theorem bre {α : Type} {a b : Int} {x y : α} (h : a = b) : br (a == b) x y = x := br_of (by simp [h])
theorem brne {α : Type} {a b : Int} {x y : α} (h : a ≠ b) : br (a == b) x y = y := br_no (by simp [h])
theorem brb {α : Type} {a b : Int} {x y : α} (h : a ≠ b) : br (a != b) x y = x := br_of (by simp [h])
theorem brbe {α : Type} {a b : Int} {x y : α} (h : a = b) : br (a != b) x y = y := br_no (by simp [h])
theorem notd {α : Type} {p : Prop} [Decidable p] {x y : α} (h : p) : br (!decide p) x y = y := br_no (by simp [h])
theorem notn {α : Type} {p : Prop} [Decidable p] {x y : α} (h : ¬p) : br (!decide p) x y = x := br_of (by simp [h])
theorem br_ite {α : Type} {c : Bool} {x y : α} : br c x y = if c = true then x else y := by cases c <;> rfl
theorem tmod_nn (a b : Int) (h : 0 ≤ a) : a.tmod b = a % b := Int.tmod_eq_emod_of_nonneg h
theorem tdiv_nn (a b : Int) (h : 0 ≤ a) : a.tdiv b = a / b := Int.tdiv_eq_ediv_of_nonneg h
theorem u8_lt (x : UInt8) : (x.toNat : Int) < 256 := by have := x.toNat_lt; omega
theorem fits_of {n b : Nat} (h : n * b ≤ 1099511627776) : fits n b = true := by simp [fits, okBound, h]
theorem br_fits {α : Type} {n b : Nat} {x y : α} (h : n * b ≤ 1099511627776) : br (fits n b) x y = x := br_of (fits_of h)
theorem mkOK_of {l c : Int} {b : Nat} (h0 : 0 ≤ l) (h1 : l ≤ c) (h2 : c * b ≤ 1099511627776) : mkOK l c b = true := by simp [mkOK, okBound, h0, h1, h2]
theorem br_mk {α : Type} {l c : Int} {b : Nat} {x y : α} (h0 : 0 ≤ l) (h1 : l ≤ c) (h2 : c * b ≤ 1099511627776) : br (mkOK l c b) x y = x := br_of (mkOK_of h0 h1 h2)

theorem atL_get {α : Type} {l : List α} {i : Int} (h0 : 0 ≤ i) {x : α} (h : l[i.toNat]? = some x) : atL l i = some x := by simp [atL, h0, h]
theorem atL_nat {α : Type} {l : List α} {k : Nat} (h : k < l.length) : atL l (k : Int) = some l[k] := by simp [atL, h]
theorem atL_int {α : Type} {l : List α} {i : Int} (h0 : 0 ≤ i) (h : i.toNat < l.length) : atL l i = some l[i.toNat] := by simp [atL, h0, h]
theorem atL_d {l : List Int} {i : Int} (h0 : 0 ≤ i) (h : i.toNat < l.length) : atL l i = some (l.getD i.toNat 0) := by simp [atL, h0, h]
theorem get_bind {β : Type} {l : List Int} {i : Nat} {f : Int → Option β} (h : i < l.length) : (l[i]?).bind f = f (l.getD i 0) := by simp [h]
theorem get_some {α : Type} {l : List α} {i : Nat} (h : i < l.length) : l[i]? = some l[i] := List.getElem?_eq_getElem h
theorem atL_of {α : Type} {l : List α} {i : Int} (h0 : 0 ≤ i) (h1 : i < l.length) : ∃ x, atL l i = some x ∧ l[i.toNat]? = some x ∧ x ∈ l := by
  have h : i.toNat < l.length := by omega
  exact ⟨l[i.toNat], by simp [atL, h0, h], by simp [h], List.getElem_mem h⟩
theorem drop_cons {α : Type} {l : List α} {i : Nat} (h : i < l.length) : ∃ x r, l.drop i = x :: r ∧ l.drop (i + 1) = r ∧ l[i]? = some x :=
  ⟨l[i], l.drop (i + 1), List.drop_eq_getElem_cons h, rfl, by simp [h]⟩
theorem atL_drop {α : Type} {l r : List α} {x : α} {i : Int} (h0 : 0 ≤ i) (h : l.drop i.toNat = x :: r) : atL l i = some x := by
  have : l[i.toNat]? = some x := by rw [← List.head?_drop, h]; rfl
  simp [atL, h0, this]
theorem subL_of {α : Type} {l : List α} {a b : Int} (h0 : 0 ≤ a) (h1 : a ≤ b) (h2 : b ≤ l.length) : subL l a b = some ((l.drop a.toNat).take (b.toNat - a.toNat)) := by
  simp [subL, h0, h1, h2, List.drop_take]
theorem take_succ {α : Type} {l : List α} {k : Nat} (h : k < l.length) : l.take (k + 1) = l.take k ++ [l[k]] := by rw [List.take_succ_eq_append_getElem h]
theorem cast_succ (k : Nat) : ((k + 1 : Nat) : Int) = (k : Int) + 1 := by omega
theorem nZ_len (n : Nat) : (nZ n).length = n := by simp [nZ]
/-- A state that is turned step by step. -/
def iU {α : Type} (f : Nat → α → α) : Nat → α → α
  | 0, l => l
  | k + 1, l => f k (iU f k l)
theorem iU_len {f : Nat → List Int → List Int} (hf : ∀ k l, (f k l).length = l.length) : ∀ (k : Nat) (l : List Int), (iU f k l).length = l.length
  | 0, l => rfl
  | k + 1, l => by rw [iU, hf, iU_len hf k l]
end Go.AI

set_option linter.unusedVariables false
set_option linter.unusedSimpArgs false
namespace Go.AI.Fn

abbrev PP : Int := 2130706433
def okF (a : Int) : Prop := 0 ≤ a ∧ a ≤ 2130706432
def okE (x : Ext) : Prop := okF x.A ∧ okF x.B
def okFb (a : Int) : Bool := decide (0 ≤ a) && decide (a ≤ 2130706432)
def okEb (x : Ext) : Bool := okFb x.A && okFb x.B
theorem okFb_iff {a : Int} : okFb a = true ↔ okF a := by simp [okFb, okF]
theorem okEb_iff {x : Ext} : okEb x = true ↔ okE x := by simp [okEb, okE, okFb_iff]

def aF (a b : Int) : Int := (a + b) % 2130706433
def sF (a b : Int) : Int := (a - b) % 2130706433
def mF (a b : Int) : Int := (a * b) % 2130706433
def eA (x y : Ext) : Ext := ⟨(x.A + y.A) % 2130706433, (x.B + y.B) % 2130706433⟩
def eS (x y : Ext) : Ext := ⟨(x.A - y.A) % 2130706433, (x.B - y.B) % 2130706433⟩
def eM (x y : Ext) : Ext := ⟨(x.A * y.A + 3 * (x.B * y.B)) % 2130706433, (x.A * y.B + x.B * y.A) % 2130706433⟩
def eC (x : Ext) (n : Int) : Ext := ⟨(x.A * n) % 2130706433, (x.B * n) % 2130706433⟩
def e0 : Ext := ⟨0, 0⟩
def e1 : Ext := ⟨1, 0⟩
def eN (n : Int) : Ext := ⟨n, 0⟩

theorem okF3 : okF 3 := ⟨by decide, by decide⟩
theorem okF1 : okF 1 := ⟨by decide, by decide⟩
theorem okF0 : okF 0 := ⟨by decide, by decide⟩
theorem okF_mod (a : Int) : okF (a % 2130706433) := ⟨by omega, by omega⟩
theorem aF_ok (a b : Int) : okF (aF a b) := okF_mod _
theorem sF_ok (a b : Int) : okF (sF a b) := okF_mod _
theorem mF_ok (a b : Int) : okF (mF a b) := okF_mod _
theorem eA_ok (x y : Ext) : okE (eA x y) := ⟨okF_mod _, okF_mod _⟩
theorem eS_ok (x y : Ext) : okE (eS x y) := ⟨okF_mod _, okF_mod _⟩
theorem eM_ok (x y : Ext) : okE (eM x y) := ⟨okF_mod _, okF_mod _⟩
theorem eC_ok (x : Ext) (n : Int) : okE (eC x n) := ⟨okF_mod _, okF_mod _⟩
theorem e0_ok : okE e0 := ⟨⟨by decide, by decide⟩, ⟨by decide, by decide⟩⟩
theorem e1_ok : okE e1 := ⟨⟨by decide, by decide⟩, ⟨by decide, by decide⟩⟩
theorem eN_ok {n : Int} (h : okF n) : okE (eN n) := ⟨h, okF0⟩

theorem mul_bd {a b : Int} (ha : okF a) (hb : okF b) : 0 ≤ a * b ∧ a * b ≤ 4539909900063178624 :=
  ⟨Int.mul_nonneg ha.1 hb.1, Int.le_trans (Int.mul_le_mul ha.2 hb.2 hb.1 (by decide)) (by decide)⟩
theorem mod_self {a : Int} (h : okF a) : a % 2130706433 = a := by obtain ⟨h1, h2⟩ := h; omega

/-! ### remainders of remainders -/
theorem ext_eq {x y : Ext} (h1 : x.A = y.A) (h2 : x.B = y.B) : x = y := by cases x; cases y; cases h1; cases h2; rfl
theorem mA1 (a b : Int) : (a % 2130706433 + b) % 2130706433 = (a + b) % 2130706433 := Int.emod_add_emod _ _ _
theorem mA2 (a b : Int) : (a + b % 2130706433) % 2130706433 = (a + b) % 2130706433 := Int.add_emod_emod _ _ _
theorem mS1 (a b : Int) : (a % 2130706433 - b) % 2130706433 = (a - b) % 2130706433 := Int.emod_sub_emod _ _ _
theorem mS2 (a b : Int) : (a - b % 2130706433) % 2130706433 = (a - b) % 2130706433 := Int.sub_emod_emod _ _ _
theorem mM1 (a b : Int) : (a % 2130706433 * b) % 2130706433 = (a * b) % 2130706433 := by rw [Int.mul_emod, Int.emod_emod, ← Int.mul_emod]
theorem mM2 (a b : Int) : (a * (b % 2130706433)) % 2130706433 = (a * b) % 2130706433 := by rw [Int.mul_emod, Int.emod_emod, ← Int.mul_emod]
theorem mX1 (a b c : Int) : (a % 2130706433 * b + c) % 2130706433 = (a * b + c) % 2130706433 := by rw [← mA1, mM1, mA1]
theorem mX2 (a b c : Int) : (a * (b % 2130706433) + c) % 2130706433 = (a * b + c) % 2130706433 := by rw [← mA1, mM2, mA1]
theorem mX3 (a b c : Int) : (c + a % 2130706433 * b) % 2130706433 = (c + a * b) % 2130706433 := by rw [← mA2, mM1, mA2]
theorem mX4 (a b c : Int) : (c + a * (b % 2130706433)) % 2130706433 = (c + a * b) % 2130706433 := by rw [← mA2, mM2, mA2]
theorem mX5 (a b c d : Int) : (c + d * (a % 2130706433 * b)) % 2130706433 = (c + d * (a * b)) % 2130706433 := by rw [← mX4, mM1, mX4]
theorem mX6 (a b c d : Int) : (c + d * (a * (b % 2130706433))) % 2130706433 = (c + d * (a * b)) % 2130706433 := by rw [← mX4, mM2, mX4]
/-! ### the program -/
theorem i_add_eq {a b : Int} (ha : okF a) (hb : okF b) : i_add a b = some (aF a b) := by
  obtain ⟨h1, h2⟩ := ha; obtain ⟨h3, h4⟩ := hb
  unfold i_add aF; rw [wrap_i64 _ (by omega) (by omega), tmod_nn _ _ (by omega)]
theorem i_sub_eq {a b : Int} (ha : okF a) (hb : okF b) : i_sub a b = some (sF a b) := by
  obtain ⟨h1, h2⟩ := ha; obtain ⟨h3, h4⟩ := hb
  unfold i_sub sF; rw [wrap_i64 (a - b) (by omega) (by omega), wrap_i64 _ (by omega) (by omega), tmod_nn _ _ (by omega)]
  congr 1; omega
theorem i_mul_eq {a b : Int} (ha : okF a) (hb : okF b) : i_mul a b = some (mF a b) := by
  have h := mul_bd ha hb
  unfold i_mul mF; rw [wrap_i64 _ (by omega) (by omega), tmod_nn _ _ (by omega)]
theorem i_plus_eq {x y : Ext} (hx : okE x) (hy : okE y) : i_Ext_plus x y = some (eA x y) := by
  unfold i_Ext_plus; rw [i_add_eq hx.1 hy.1, i_add_eq hx.2 hy.2]; rfl
theorem i_minus_eq {x y : Ext} (hx : okE x) (hy : okE y) : i_Ext_minus x y = some (eS x y) := by
  unfold i_Ext_minus; rw [i_sub_eq hx.1 hy.1, i_sub_eq hx.2 hy.2]; rfl
theorem eM_form (x y : Ext) : eM x y = ⟨aF (mF x.A y.A) (mF 3 (mF x.B y.B)), aF (mF x.A y.B) (mF x.B y.A)⟩ := by
  unfold eM aF mF
  congr 1
  · rw [mA1, mA2, mX4]
  · rw [mA1, mA2]
theorem i_times_eq {x y : Ext} (hx : okE x) (hy : okE y) : i_Ext_times x y = some (eM x y) := by
  unfold i_Ext_times
  rw [i_mul_eq hx.1 hy.1, i_mul_eq hx.2 hy.2]
  simp only [Option.bind_some]
  rw [i_mul_eq okF3 (mF_ok _ _)]
  simp only [Option.bind_some]
  rw [i_add_eq (mF_ok _ _) (mF_ok _ _), i_mul_eq hx.1 hy.2, i_mul_eq hx.2 hy.1]
  simp only [Option.bind_some]
  rw [i_add_eq (mF_ok _ _) (mF_ok _ _), eM_form]; rfl
theorem i_one_eq : i_one = some e1 := rfl
theorem i_in_eq (n a b : Int) : i_in n a b = some (decide (a ≤ n) && decide (n ≤ b)) := by
  unfold i_in; cases decide (a ≤ n) <;> rfl
theorem i_FieldOK_eq (a : Int) : i_FieldOK a = some (okFb a) := by
  unfold i_FieldOK; rw [i_in_eq]; rfl
theorem i_ExtOK_eq (x : Ext) : i_ExtOK x = some (okEb x) := by
  unfold i_ExtOK okEb; rw [i_FieldOK_eq, i_FieldOK_eq]; cases okFb x.A <;> rfl
/-! ### the reference -/
/-! ### laws -/
theorem eA_comm (x y : Ext) : eA x y = eA y x := by
  unfold eA; rw [Int.add_comm, Int.add_comm x.B]
theorem eM_comm (x y : Ext) : eM x y = eM y x := by
  apply ext_eq <;> (simp only [eM]; congr 1; grind)
theorem eA_assoc (x y z : Ext) : eA (eA x y) z = eA x (eA y z) := by
  apply ext_eq <;> (simp only [eA, mA1, mA2]; congr 1; grind)
theorem eM_assoc (x y z : Ext) : eM (eM x y) z = eM x (eM y z) := by
  apply ext_eq <;> (simp only [eM, mA1, mA2, mS1, mS2, mM1, mM2, mX1, mX2, mX3, mX4, mX5, mX6]; congr 1; grind)
theorem eM_add (x y z : Ext) : eM x (eA y z) = eA (eM x y) (eM x z) := by
  apply ext_eq <;> (simp only [eA, eM, mA1, mA2, mS1, mS2, mM1, mM2, mX1, mX2, mX3, mX4, mX5, mX6]; congr 1; grind)
theorem eM_sub (x y z : Ext) : eM x (eS y z) = eS (eM x y) (eM x z) := by
  apply ext_eq <;> (simp only [eS, eM, mA1, mA2, mS1, mS2, mM1, mM2, mX1, mX2, mX3, mX4, mX5, mX6]; congr 1; grind)
theorem add_eM (x y z : Ext) : eM (eA y z) x = eA (eM y x) (eM z x) := by rw [eM_comm, eM_add, eM_comm x, eM_comm x]
theorem sub_eM (x y z : Ext) : eM (eS y z) x = eS (eM y x) (eM z x) := by rw [eM_comm, eM_sub, eM_comm x, eM_comm x]
theorem eA_left (x y z : Ext) : eA x (eA y z) = eA y (eA x z) := by rw [← eA_assoc, eA_comm x, eA_assoc]
theorem eM_left (x y z : Ext) : eM x (eM y z) = eM y (eM x z) := by rw [← eM_assoc, eM_comm x, eM_assoc]
theorem e0_add {x : Ext} (h : okE x) : eA e0 x = x := by
  apply ext_eq <;> simp only [eA, e0, Int.zero_add, mod_self h.1, mod_self h.2]
theorem add_e0 {x : Ext} (h : okE x) : eA x e0 = x := by rw [eA_comm, e0_add h]
theorem e1_mul {x : Ext} (h : okE x) : eM e1 x = x := by
  apply ext_eq <;> simp only [eM, e1, Int.one_mul, Int.zero_mul, Int.mul_zero, Int.add_zero, mod_self h.1, mod_self h.2]
theorem mul_e1 {x : Ext} (h : okE x) : eM x e1 = x := by rw [eM_comm, e1_mul h]
theorem e0_mul (x : Ext) : eM e0 x = e0 := by
  apply ext_eq <;> simp [eM, e0]
theorem mul_e0 (x : Ext) : eM x e0 = e0 := by rw [eM_comm, e0_mul]
theorem sub_self (x : Ext) : eS x x = e0 := by
  apply ext_eq <;> simp [eS, e0]
theorem sub_e0 {x : Ext} (h : okE x) : eS x e0 = x := by
  apply ext_eq <;> simp only [eS, e0, Int.sub_zero, mod_self h.1, mod_self h.2]
theorem sub_add (x y : Ext) (h : okE x) : eA (eS x y) y = x := by
  have h1 := mod_self h.1
  have h2 := mod_self h.2
  apply ext_eq
  · simp only [eA, eS, mA1]; rw [show x.A - y.A + y.A = x.A by grind, h1]
  · simp only [eA, eS, mA1]; rw [show x.B - y.B + y.B = x.B by grind, h2]
theorem add_sub (x y : Ext) (h : okE x) : eS (eA x y) y = x := by
  have h1 := mod_self h.1
  have h2 := mod_self h.2
  apply ext_eq
  · simp only [eA, eS, mS1]; rw [show x.A + y.A - y.A = x.A by grind, h1]
  · simp only [eA, eS, mS1]; rw [show x.B + y.B - y.B = x.B by grind, h2]
theorem eC_eq (x : Ext) (n : Int) : eC x n = eM x (eN n) := by
  apply ext_eq <;> (simp only [eC, eM, eN]; congr 1; grind)
end Go.AI.Fn

set_option linter.unusedVariables false
set_option linter.unusedSimpArgs false
namespace Go.AI.Fn

/-- A power, by squares. -/
def pF (a : Int) (n : Nat) : Int := (a ^ n) % 2130706433
theorem pF_ok (a : Int) (n : Nat) : okF (pF a n) := okF_mod _
theorem and1 {n : Int} (h : 0 ≤ n) (h2 : n < 9223372036854775808) : and64 .i64 n 1 = n % 2 := by
  show IntKind.wrap .i64 ((BitVec.ofInt 64 n &&& BitVec.ofInt 64 1).toNat : Int) = n % 2
  have e1 : (BitVec.ofInt 64 n).toNat = n.toNat := by rw [BitVec.toNat_ofInt]; omega
  have e2 : (BitVec.ofInt 64 1).toNat = 1 := by decide
  rw [BitVec.toNat_and, e1, e2, Nat.and_one_is_mod, wrap_i64 _ (by omega) (by omega)]
  omega
theorem shr1 {n : Int} (h : 0 ≤ n) : shr64 .i64 n 1 = n / 2 := by
  show n.fdiv (2 ^ 1) = n / 2
  rw [Int.fdiv_eq_ediv_of_nonneg _ (by decide)]; rfl
theorem pow_even {a : Int} {n : Nat} (h : n % 2 = 0) : (a * a) ^ (n / 2) = a ^ n := by
  have e : n = 2 * (n / 2) := by omega
  have e2 : a ^ n = a ^ (2 * (n / 2)) := by rw [← e]
  rw [e2, Int.pow_mul, Int.pow_succ, Int.pow_succ, Int.pow_zero, Int.one_mul]
theorem pow_odd {a : Int} {n : Nat} (h : n % 2 = 1) : a * (a * a) ^ (n / 2) = a ^ n := by
  have e : n = 2 * (n / 2) + 1 := by omega
  have e2 : a ^ n = a ^ (2 * (n / 2) + 1) := by rw [← e]
  rw [e2, Int.pow_succ, Int.pow_mul, Int.pow_succ, Int.pow_succ, Int.pow_zero, Int.one_mul, Int.mul_comm]
theorem pow_mod (a : Int) (n : Nat) : ((a % 2130706433) ^ n) % 2130706433 = (a ^ n) % 2130706433 := by
  induction n with
  | zero => rw [Int.pow_zero, Int.pow_zero]
  | succ n ih => rw [Int.pow_succ, Int.pow_succ, mM2, ← mM1, ih, mM1]

theorem pow_step {a out : Int} {n : Nat} (hn : 0 < n) : (n % 2 = 1 → (mF out a * (mF a a) ^ (n / 2)) % 2130706433 = (out * a ^ n) % 2130706433) ∧ (n % 2 = 0 → (out * (mF a a) ^ (n / 2)) % 2130706433 = (out * a ^ n) % 2130706433) := by
  constructor
  · intro h
    unfold mF
    rw [mM1, ← mM2, pow_mod, mM2, ← pow_odd h, Int.mul_assoc]
  · intro h
    unfold mF
    rw [← mM2, pow_mod, mM2, pow_even h]
/-- The inverse. -/
def iF (a : Int) : Int := pF a 2130706431
/-- The root of order 2 to the k. -/
def rootM (k : Nat) : Int := pF 3 (127 * 2 ^ (24 - k))
theorem rootM_ok (k : Nat) : okF (rootM k) := pF_ok _ _
theorem p2_24 : ∀ j : Nat, j < 25 → (2 : Int) ^ j ≤ 16777216 ∧ 0 < (2 : Int) ^ j := by decide
theorem shl127 {j : Nat} (h : j ≤ 24) : shl64 .i64 127 (j : Int) = 127 * 2 ^ j := by
  obtain ⟨h1, h0⟩ := p2_24 j (by omega)
  show IntKind.wrap .i64 (127 * 2 ^ (min ((j : Int).toNat) 64)) = _
  rw [Int.toNat_natCast, Nat.min_eq_left (by omega), wrap_i64 _ (by omega) (by omega)]
/-! ### powers of two -/
def isP (n : Nat) : Bool := n == 1 || n == 2 || n == 4 || n == 8 || n == 16 || n == 32 || n == 64 || n == 128 || n == 256 || n == 512
/-- A power of two, at most a greatest one. -/
def powB (n most : Int) : Bool := decide (1 ≤ n) && decide (n ≤ most) && isP n.toNat
theorem and_isP : ∀ n : Nat, n < 513 → 1 ≤ n → (and64 .i64 (n : Int) ((n : Int) - 1) == 0) = isP n := by decide +kernel
theorem i_isPower_eq {n most : Int} (h : most ≤ 512) : i_isPower n most = some (powB n most) := by
  unfold i_isPower powB
  rw [i_in_eq, Option.bind_some]
  by_cases h1 : 1 ≤ n
  · by_cases h2 : n ≤ most
    · rw [decide_eq_true h1, decide_eq_true h2, Bool.and_true, br_true, Bool.true_and, wrap_i64 _ (by omega) (by omega)]
      have := and_isP n.toNat (by omega) (by omega)
      rw [Int.toNat_of_nonneg (by omega)] at this
      rw [this]
    · rw [decide_eq_false h2]; simp [br]
  · rw [decide_eq_false h1]; simp [br]
end Go.AI.Fn

set_option linter.unusedVariables false
namespace Go.AI.Fn

structure Src (B : Int) (m : l00Src) : Prop where
  at0 : 0 ≤ m.at_
  at1 : m.at_ ≤ B
  sd0 : 0 ≤ m.seed
  sd1 : m.seed < 2147483648
  len : m.code.length ≤ 1048576
theorem Src.mono {B C : Int} {m : l00Src} (h : Src B m) (hc : B ≤ C) : Src C m := ⟨h.at0, by have := h.at1; omega, h.sd0, h.sd1, h.len⟩
abbrev Big : Int := 4611686018427387904

theorem source_ok {code : List UInt8} (h : code.length ≤ 1048576) : ∃ m, s_l00Source code = some m ∧ Src 0 m := by
  refine ⟨_, rfl, ?_⟩
  have : (((code.length : Nat) : Int).tmod (1000 : Int)) = (code.length : Int) % 1000 := tmod_nn _ _ (by omega)
  constructor <;> dsimp only <;> omega

theorem byte_ok {B : Int} {m : l00Src} (h : Src B m) (hB : B < Big) : ∃ x m', s_l00Src_byte m = some (x, m') ∧ 0 ≤ x ∧ x < 256 ∧ Src (B + 1) m' := by
  obtain ⟨h1, h2, h3, h4, h5⟩ := h
  rcases m with ⟨code, at_, seed⟩
  dsimp only at h1 h2 h3 h4 h5
  unfold s_l00Src_byte
  dsimp only
  simp only [Big] at hB
  rw [wrap_i64 (at_ + 1) (by omega) (by omega)]
  by_cases c : at_ + 1 ≤ ((code.length : Nat) : Int)
  · rw [brd c, wrap_i64 (at_ + 1 - 1) (by omega) (by omega)]
    obtain ⟨x, hx, _, _⟩ := atL_of (l := code) (i := at_ + 1 - 1) (by omega) (by omega)
    have := u8_lt x
    rw [hx]
    simp only [Option.bind_some]
    rw [wrap_i64 (x.toNat : Int) (by omega) (by omega), wrap_i64 (seed * 31) (by omega) (by omega), wrap_i64 (seed * 31 + (x.toNat : Int)) (by omega) (by omega), wrap_i64 _ (by omega) (by omega), tmod_nn _ _ (by omega)]
    refine ⟨_, _, rfl, by omega, by omega, ?_⟩
    constructor <;> dsimp only <;> omega
  · rw [brn c]
    by_cases c2 : at_ + 1 > 3000
    · rw [brd c2]
      refine ⟨_, _, rfl, by omega, by omega, ?_⟩
      constructor <;> dsimp only <;> omega
    · rw [brn c2, wrap_i64 (seed * 1103515245) (by omega) (by omega), wrap_i64 (seed * 1103515245 + 12345) (by omega) (by omega), tmod_nn (seed * 1103515245 + 12345) _ (by omega), tdiv_nn _ _ (by omega), wrap_i64 _ (by omega) (by omega), tmod_nn _ _ (by omega)]
      refine ⟨_, _, rfl, by omega, by omega, ?_⟩
      constructor <;> dsimp only <;> omega

theorem next_ok {B n : Int} {m : l00Src} (h : Src B m) (hB : B + 3 < Big) : ∃ x m', s_l00Src_next n m = some (x, m') ∧ 0 ≤ x ∧ (1 < n → x < n) ∧ (n ≤ 1 → x = 0) ∧ Src (B + 3) m' := by
  unfold s_l00Src_next
  by_cases c : n ≤ 1
  · rw [brd c]; exact ⟨_, _, rfl, by omega, by omega, fun _ => rfl, h.mono (by omega)⟩
  · rw [brn c]
    by_cases c2 : n ≤ 256
    · rw [brd c2]
      obtain ⟨x, m1, e1, x0, x1, s1⟩ := byte_ok h (by omega)
      rw [e1]
      simp only [Option.bind_some]
      rw [brd (by omega), tmod_nn _ _ x0]
      exact ⟨_, _, rfl, Int.emod_nonneg _ (by omega), fun _ => Int.emod_lt_of_pos _ (by omega), by omega, s1.mono (by omega)⟩
    · rw [brn c2]
      obtain ⟨x, m1, e1, x0, x1, s1⟩ := byte_ok h (by omega)
      obtain ⟨y, m2, e2, y0, y1, s2⟩ := byte_ok s1 (by omega)
      obtain ⟨z, m3, e3, z0, z1, s3⟩ := byte_ok s2 (by omega)
      rw [e1]
      simp only [Option.bind_some]
      rw [e2]
      simp only [Option.bind_some]
      rw [e3]
      simp only [Option.bind_some]
      rw [brd (by omega), wrap_i64 (x * 65536) (by omega) (by omega), wrap_i64 (y * 256) (by omega) (by omega), wrap_i64 (x * 65536 + y * 256) (by omega) (by omega), wrap_i64 _ (by omega) (by omega), tmod_nn _ _ (by omega)]
      exact ⟨_, _, rfl, Int.emod_nonneg _ (by omega), fun _ => Int.emod_lt_of_pos _ (by omega), by omega, s3.mono (by omega)⟩

theorem chance_ok {B n : Int} {m : l00Src} (h : Src B m) (hB : B + 3 < Big) : ∃ x m', s_l00Src_chance n m = some (x, m') ∧ Src (B + 3) m' := by
  unfold s_l00Src_chance
  obtain ⟨x, m1, e1, _, _, _, s1⟩ := next_ok (n := n) h hB
  rw [e1]
  exact ⟨_, _, rfl, s1⟩

theorem field_ok {B : Int} {m : l00Src} (h : Src B m) (hB : B + 18 < Big) : ∃ x m', s_l00Src_field m = some (x, m') ∧ okF x ∧ Src (B + 18) m' := by
  unfold s_l00Src_field
  obtain ⟨x, m1, e1, x0, x1, _, s1⟩ := next_ok (n := 5) h (by omega)
  have := x1 (by omega)
  rw [e1]
  simp only [Option.bind_some]
  by_cases c : x = 0
  · rw [bre c]
    obtain ⟨y, m2, e2, y0, y1, _, s2⟩ := next_ok (n := 4) s1 (by omega)
    have := y1 (by omega)
    rw [e2]
    exact ⟨_, _, rfl, ⟨by omega, by omega⟩, s2.mono (by omega)⟩
  · rw [brne c]
    by_cases c2 : x = 1
    · rw [bre c2]
      obtain ⟨y, m2, e2, y0, y1, _, s2⟩ := next_ok (n := 3) s1 (by omega)
      have := y1 (by omega)
      rw [e2]
      refine ⟨_, _, rfl, ⟨?_, ?_⟩, s2.mono (by omega)⟩ <;> rw [wrap_i64 _ (by omega) (by omega)] <;> omega
    · rw [brne c2]
      have key := Loop_inv (step := s_l00Src_field_1_s)
        (fun s => okF s.1 ∧ 0 ≤ s.2.1 ∧ s.2.1 ≤ 5 ∧ Src (B + 3 + 3 * s.2.1) ⟨s.2.2.1, s.2.2.2.1, s.2.2.2.2⟩) (fun s => (5 - s.2.1).toNat)
        (fun e => okF e.1 ∧ Src (B + 18) ⟨e.2.2.2.1, e.2.2.2.2.1, e.2.2.2.2.2⟩) ?_ ((0 : Int), (0 : Int), m1.code, m1.at_, m1.seed) ⟨⟨by first | omega | (dsimp only; omega), by first | omega | (dsimp only; omega)⟩, by first | omega | (dsimp only; omega), by first | omega | (dsimp only; omega), s1.mono (by first | omega | (dsimp only; omega))⟩
      · obtain ⟨e, he, h1, h2⟩ := key
        rw [he]
        exact ⟨_, _, rfl, h1, h2⟩
      · rintro ⟨n, i, c, c2, c3⟩ ⟨⟨n0, n1⟩, i0, i1, hs⟩
        dsimp only at n0 n1 i0 i1 hs
        by_cases hi : i < 5
        · left
          obtain ⟨y, m2, e2, y0, y1, _, s2⟩ := next_ok (n := 256) hs (by omega)
          have := y1 (by omega)
          simp only [s_l00Src_field_1_s]
          rw [brd hi, e2]
          simp only [Option.bind_some]
          rw [wrap_i64 (n * 256) (by omega) (by omega), wrap_i64 (n * 256 + y) (by omega) (by omega), wrap_i64 (i + 1) (by omega) (by omega), tmod_nn _ _ (by omega)]
          refine ⟨_, rfl, ⟨⟨?_, ?_⟩, ?_, ?_, s2.mono ?_⟩, ?_⟩ <;> dsimp only <;> omega
        · right
          simp only [s_l00Src_field_1_s]
          rw [brn hi]
          exact ⟨_, rfl, ⟨n0, n1⟩, hs.mono (by first | omega | (dsimp only; omega))⟩
end Go.AI.Fn

set_option linter.unusedVariables false
namespace Go.AI.Fn
theorem ext_ok {B : Int} {m : l00Src} (h : Src B m) (hB : B + 40 < Big) : ∃ x m', s_l00Src_ext m = some (x, m') ∧ okE x ∧ Src (B + 40) m' := by
  unfold s_l00Src_ext
  obtain ⟨x, m1, e1, s1⟩ := chance_ok (n := 4) h (by omega)
  rw [e1]
  simp only [Option.bind_some]
  obtain ⟨y, m2, e2, y0, s2⟩ := field_ok s1 (by omega)
  obtain ⟨z, m3, e3, z0, s3⟩ := field_ok s2 (by omega)
  rw [e2]
  cases x
  · simp only [br_false, Option.bind_some]
    rw [e3]
    exact ⟨_, _, rfl, ⟨y0, z0⟩, s3.mono (by omega)⟩
  · exact ⟨_, _, rfl, ⟨y0, ⟨by first | omega | (dsimp only; omega), by first | omega | (dsimp only; omega)⟩⟩, s2.mono (by omega)⟩

theorem exts_ok {B n : Int} {m : l00Src} (h : Src B m) (hn0 : 0 ≤ n) (hn1 : n ≤ 1048576) (hB : B + 40 * n < Big) : ∃ l m', s_l00Src_exts n m = some (l, m') ∧ (l.length : Int) = n ∧ (∀ x ∈ l, okE x) ∧ Src (B + 40 * n) m' := by
  unfold s_l00Src_exts
  have key := Loop_inv (step := s_l00Src_exts_1_s n)
    (fun s => (s.1.length : Int) = s.2.1 ∧ (∀ x ∈ s.1, okE x) ∧ s.2.1 ≤ n ∧ Src (B + 40 * s.2.1) ⟨s.2.2.1, s.2.2.2.1, s.2.2.2.2⟩) (fun s => (n - s.2.1).toNat)
    (fun e => (e.1.length : Int) = n ∧ (∀ x ∈ e.1, okE x) ∧ Src (B + 40 * n) ⟨e.2.2.2.1, e.2.2.2.2.1, e.2.2.2.2.2⟩) ?_ (([] : List Ext), (0 : Int), m.code, m.at_, m.seed) ⟨by simp, by simp, by dsimp only; omega, h.mono (by first | omega | (dsimp only; omega))⟩
  · obtain ⟨e, he, h1, h2, h3⟩ := key
    rw [he]
    exact ⟨_, _, rfl, h1, h2, h3⟩
  · rintro ⟨l, i, c, c2, c3⟩ ⟨hl, ha, i1, hs⟩
    dsimp only at hl ha i1 hs
    by_cases hi : i < n
    · left
      obtain ⟨y, m2, e2, y0, s2⟩ := ext_ok hs (by omega)
      simp only [s_l00Src_exts_1_s]
      rw [brd hi, e2]
      simp only [Option.bind_some]
      rw [br_of (fits_of (by simp only [List.length_append, List.length_cons, List.length_nil]; omega)), wrap_i64 (i + 1) (by omega) (by omega)]
      refine ⟨_, rfl, ⟨?_, ?_, ?_, s2.mono ?_⟩, ?_⟩
      · simp only [List.length_append, List.length_cons, List.length_nil]; omega
      · intro x hx
        rcases List.mem_append.1 hx with hx | hx
        · exact ha x hx
        · rw [List.mem_singleton] at hx; subst hx; exact y0
      all_goals dsimp only; omega
    · right
      simp only [s_l00Src_exts_1_s]
      rw [brn hi]
      exact ⟨_, rfl, by dsimp only; omega, ha, hs.mono (by first | omega | (dsimp only; omega))⟩

theorem ExtsOf_ok {code : List UInt8} {n : Int} (h : code.length ≤ 1048576) (hn0 : 0 ≤ n) (hn1 : n ≤ 1048576) : ∃ l, s_ExtsOf code n = some l ∧ (l.length : Int) = n ∧ ∀ x ∈ l, okE x := by
  unfold s_ExtsOf
  obtain ⟨m, e1, s1⟩ := source_ok h
  rw [e1]
  simp only [Option.bind_some]
  obtain ⟨l, m2, e2, h1, h2, _⟩ := exts_ok (n := n) s1 hn0 hn1 (by simp only [Big]; omega)
  rw [e2]
  exact ⟨_, rfl, h1, h2⟩
end Go.AI.Fn

set_option linter.unusedVariables false
set_option linter.unusedSimpArgs false
namespace Go.AI.Fn

/-! ### shapes of loops -/
theorem any_of_bad {α : Type} {p : α → Bool} {l : List α} {k : Nat} (hk : k < l.length) (h : p l[k] = true) : l.any p = true := List.any_eq_true.2 ⟨l[k], List.getElem_mem hk, h⟩
theorem none_of {α : Type} {p : α → Bool} {l : List α} (h : ∀ k (hk : k < l.length), p l[k] = false) : l.any p = false := by
  rw [List.any_eq_false]
  intro x hx
  obtain ⟨k, hk, rfl⟩ := List.getElem_of_mem hx
  simp [h k hk]
/-- 'the first place where something holds', as the library's IndexFunc and ContainsFunc look for it. -/
theorem contains_gen {α : Type} {p : α → Bool} {f : α → Option Bool} {l : List α} (hl : l.length ≤ 1099511627776) (hf : ∀ x ∈ l, f x = some (p x)) {step : Int → Option (Int ⊕ (Int ⊕ (Int × Bool)))}
    (hs : ∀ t, step t = br (decide (t < ((l.length : Nat) : Int))) ((atL l t).bind fun x => (f x).bind fun r => br r (some (.inr (.inl t))) (some (.inl (IntKind.wrap .i64 (t + 1))))) (some (.inr (.inr (t, decide (t < ((l.length : Nat) : Int))))))) :
    ((Loop step 0).bind (alt (fun e => some e) (fun _ => some (-1)))).bind (fun r => some (decide (r ≥ 0))) = some (l.any p) := by
  have key := Loop_all (step := step) (fun k => (k : Int)) l.length (fun k => !((l[k]?.map p).getD false)) (fun k => .inl (k : Int)) (e := .inr ((l.length : Int), false)) (fun k hk hp => by
      have hb : p l[k] = false := by simpa [hk] using hp
      rw [hs, brd (by omega), atL_nat hk, Option.bind_some, hf _ (List.getElem_mem hk), Option.bind_some, hb, br_false, wrap_i64 _ (by omega) (by omega)]; rfl)
    (fun k hk hp => by
      have hb : p l[k] = true := by simpa [hk] using hp
      rw [hs, brd (by omega), atL_nat hk, Option.bind_some, hf _ (List.getElem_mem hk), Option.bind_some, hb, br_true])
    (by rw [hs, brn (by omega), decide_eq_false (by omega)])
  rcases key with ⟨h1, h2⟩ | ⟨k, hk, h1, _, h2⟩
  · have e : Loop step 0 = some (.inr ((l.length : Int), false)) := h2
    rw [e, none_of (fun k hk => by simpa [hk] using h1 k hk)]; rfl
  · have e : Loop step 0 = some (.inl (k : Int)) := h2
    rw [e, any_of_bad hk (by simpa [hk] using h1)]
    simp only [Option.bind_some, alt_inl]
    rw [decide_eq_true (by omega)]
/-- 'false at the first that is not right'. -/
theorem all_gen {α : Type} {p : α → Bool} {f : α → Option Bool} {l : List α} (hl : l.length ≤ 1099511627776) (hf : ∀ x ∈ l, f x = some (p x)) {step : Int → Option (Int ⊕ (Unit ⊕ (Int × Bool)))}
    (hs : ∀ t, step t = br (decide (t < ((l.length : Nat) : Int))) ((atL l t).bind fun x => (f x).bind fun r => br (!r) (some (.inr (.inl ()))) (some (.inl (IntKind.wrap .i64 (t + 1))))) (some (.inr (.inr (t, decide (t < ((l.length : Nat) : Int))))))) :
    (Loop step 0).bind (alt (fun _ => some false) (fun _ => some true)) = some (l.all p) := by
  have key := Loop_all (step := step) (fun k => (k : Int)) l.length (fun k => ((l[k]?.map p).getD false)) (fun k => .inl ()) (e := .inr ((l.length : Int), false)) (fun k hk hp => by
      have hb : p l[k] = true := by simpa [hk] using hp
      rw [hs, brd (by omega), atL_nat hk, Option.bind_some, hf _ (List.getElem_mem hk), Option.bind_some, hb, Bool.not_true, br_false, wrap_i64 _ (by omega) (by omega)]; rfl)
    (fun k hk hp => by
      have hb : p l[k] = false := by simpa [hk] using hp
      rw [hs, brd (by omega), atL_nat hk, Option.bind_some, hf _ (List.getElem_mem hk), Option.bind_some, hb, Bool.not_false, br_true])
    (by rw [hs, brn (by omega), decide_eq_false (by omega)])
  rcases key with ⟨h1, h2⟩ | ⟨k, hk, h1, _, h2⟩
  · have e : Loop step 0 = some (.inr ((l.length : Int), false)) := h2
    have ha : l.all p = true := List.all_eq_true.2 fun x hx => by
      obtain ⟨k, hk, rfl⟩ := List.getElem_of_mem hx
      simpa [hk] using h1 k hk
    rw [e, ha]; rfl
  · have e : Loop step 0 = some (.inl ()) := h2
    have ha : l.all p = false := by
      rw [List.all_eq_false]
      exact ⟨l[k], List.getElem_mem hk, by simpa [hk] using h1⟩
    rw [e, ha]; rfl
theorem not_any_not {α : Type} (p : α → Bool) (l : List α) : (!l.any fun x => !p x) = l.all p := by
  induction l with
  | nil => rfl
  | cons x l ih => simp only [List.any_cons, List.all_cons, ← ih]; cases p x <;> simp

theorem i_areF_eq {l : List Int} (hl : l.length ≤ 1099511627776) : i_are_int_FieldOK l = some (l.all okFb) := by
  unfold i_are_int_FieldOK slices_ContainsFunc_Lint_int_are_int_1_FieldOK slices_IndexFunc_Lint_int_are_int_1_FieldOK
  rw [contains_gen (step := slices_IndexFunc_Lint_int_are_int_1_FieldOK_1_s l ((l.length : Nat) : Int)) (p := fun x => !okFb x) (f := i_are_int_1_FieldOK) hl (fun x _ => by unfold i_are_int_1_FieldOK; rw [i_FieldOK_eq]; rfl) (fun t => rfl), Option.bind_some, not_any_not]
theorem i_areE_eq {l : List Ext} (hl : l.length ≤ 1099511627776) : i_are_i_Ext_ExtOK l = some (l.all okEb) := by
  unfold i_are_i_Ext_ExtOK slices_ContainsFunc_Li_Ext_i_Ext_are_i_Ext_1_ExtOK slices_IndexFunc_Li_Ext_i_Ext_are_i_Ext_1_ExtOK
  rw [contains_gen (step := slices_IndexFunc_Li_Ext_i_Ext_are_i_Ext_1_ExtOK_1_s l ((l.length : Nat) : Int)) (p := fun x => !okEb x) (f := i_are_i_Ext_1_ExtOK) hl (fun x _ => by unfold i_are_i_Ext_1_ExtOK; rw [i_ExtOK_eq]; rfl) (fun t => rfl), Option.bind_some, not_any_not]
def OkEs (l : List Ext) : Prop := ∀ x ∈ l, okE x
def OkFs (l : List Int) : Prop := ∀ x ∈ l, okF x
theorem allE {l : List Ext} : l.all okEb = true ↔ OkEs l := by
  rw [List.all_eq_true]; exact ⟨fun h x hx => okEb_iff.1 (h x hx), fun h x hx => okEb_iff.2 (h x hx)⟩
theorem allF {l : List Int} : l.all okFb = true ↔ OkFs l := by
  rw [List.all_eq_true]; exact ⟨fun h x hx => okFb_iff.1 (h x hx), fun h x hx => okFb_iff.2 (h x hx)⟩
theorem OkEs.get {l : List Ext} (h : OkEs l) {k : Nat} (hk : k < l.length) : okE l[k] := h _ (List.getElem_mem hk)
theorem OkFs.get {l : List Int} (h : OkFs l) {k : Nat} (hk : k < l.length) : okF l[k] := h _ (List.getElem_mem hk)
theorem OkEs.app {l m : List Ext} (h : OkEs l) (h2 : OkEs m) : OkEs (l ++ m) := fun x hx => (List.mem_append.1 hx).elim (h x) (h2 x)
theorem OkEs.nil : OkEs [] := fun x hx => by cases hx
theorem OkEs.one {x : Ext} (h : okE x) : OkEs [x] := fun y hy => by rw [List.mem_singleton.1 hy]; exact h
theorem OkEs.map {α : Type} {f : α → Ext} (l : List α) (h : ∀ x ∈ l, okE (f x)) : OkEs (l.map f) := fun y hy => by obtain ⟨x, hx, rfl⟩ := List.mem_map.1 hy; exact h x hx
theorem OkEs.take {l : List Ext} (h : OkEs l) (k : Nat) : OkEs (l.take k) := fun x hx => h x (List.mem_of_mem_take hx)
theorem OkEs.drop {l : List Ext} (h : OkEs l) (k : Nat) : OkEs (l.drop k) := fun x hx => h x (List.mem_of_mem_drop hx)

/-! ### sums of products -/
def dotM (a b : List Ext) : Ext := (a.zip b).foldl (fun c p => eA c (eM p.1 p.2)) e0
theorem zip_take_succ {α β : Type} {a : List α} {b : List β} {k : Nat} (ha : k < a.length) (hb : k < b.length) : (a.zip b).take (k + 1) = (a.zip b).take k ++ [(a[k], b[k])] := by
  rw [take_succ (by rw [List.length_zip]; omega), List.getElem_zip]
theorem dot_ok (l : List (Ext × Ext)) {c : Ext} (h : okE c) : okE (l.foldl (fun c p => eA c (eM p.1 p.2)) c) := by
  induction l generalizing c with
  | nil => exact h
  | cons p l ih => exact ih (eA_ok _ _)
theorem dotM_ok (a b : List Ext) : okE (dotM a b) := dot_ok _ e0_ok
theorem i_dot_eq {a b : List Ext} (ha : OkEs a) (hb : OkEs b) (hl : a.length ≤ b.length) (hn : a.length ≤ 1099511627776) : i_dot a b = some (dotM a b) := by
  unfold i_dot
  have key : Loop (i_dot_1_s b a ((a.length : Nat) : Int) 0 0) ((0 : Int), (0 : Int), (0 : Int)) = some ((a.length : Int), false, (dotM a b).A, (dotM a b).B) :=
    Loop_for (fun k => ((k : Int), (((a.zip b).take k).foldl (fun c p => eA c (eM p.1 p.2)) e0).A, (((a.zip b).take k).foldl (fun c p => eA c (eM p.1 p.2)) e0).B)) a.length (fun k hk => by
      simp only [i_dot_1_s]
      have hc := dot_ok ((a.zip b).take k) e0_ok
      rw [brd (by omega), atL_nat hk, Option.bind_some, atL_nat (by omega), Option.bind_some, i_times_eq (ha.get hk) (hb.get (by omega)), Option.bind_some, i_plus_eq hc (eM_ok _ _), Option.bind_some, wrap_i64 _ (by omega) (by omega), zip_take_succ hk (by omega), List.foldl_append]
      rfl) (by
      simp only [i_dot_1_s]
      rw [brn (by omega), decide_eq_false (by omega), List.take_of_length_le (by rw [List.length_zip]; omega)]
      rfl)
  rw [key]; rfl

/-! ### the table of a point -/
def eqS (out : List Ext) (p : Ext) : List Ext := out.map (fun a => eM a (eS e1 p)) ++ out.map (fun a => eM a p)
def eqT (pt : List Ext) : List Ext := pt.foldl eqS [e1]
theorem eqS_len (out : List Ext) (p : Ext) : (eqS out p).length = 2 * out.length := by simp [eqS]; omega
theorem eqS_ok (out : List Ext) (p : Ext) : OkEs (eqS out p) := OkEs.app (OkEs.map _ fun x _ => eM_ok _ _) (OkEs.map _ fun x _ => eM_ok _ _)
theorem eqT_snoc (l : List Ext) (p : Ext) : eqT (l ++ [p]) = eqS (eqT l) p := by simp [eqT, List.foldl_append]
theorem eqF_ok {l out : List Ext} (h : OkEs out) : OkEs (l.foldl eqS out) := by
  induction l generalizing out with
  | nil => exact h
  | cons p l ih => exact ih (eqS_ok _ _)
theorem eqT_ok (l : List Ext) : OkEs (eqT l) := eqF_ok (OkEs.one e1_ok)
theorem eqF_len (l out : List Ext) : (l.foldl eqS out).length = 2 ^ l.length * out.length := by
  induction l generalizing out with
  | nil => simp
  | cons p l ih => rw [List.foldl_cons, ih, eqS_len, List.length_cons, Nat.pow_succ]; rw [Nat.mul_assoc]
theorem eqT_len (l : List Ext) : (eqT l).length = 2 ^ l.length := by rw [eqT, eqF_len]; simp
theorem pow2_6 : ∀ k : Nat, k ≤ 6 → 2 ^ k ≤ 64 := by decide
theorem i_eq2 {t : List Ext} {t2 t3 : Int} {out : List Ext} {p : Ext} (ho : OkEs out) (hp : okE p) (hn : out.length ≤ 1000000000) :
    Loop (i_eqTable_2_s t t2 t3 out ((out.length : Nat) : Int) p.A p.B) ([], [], 0) = some (out.map (fun a => eM a (eS e1 p)), out.map (fun a => eM a p), (out.length : Int), false) :=
  Loop_for (fun k => ((out.take k).map (fun a => eM a (eS e1 p)), (out.take k).map (fun a => eM a p), (k : Int))) out.length (fun k hk => by
    have he : Ext.mk p.A p.B = p := rfl
    simp only [i_eqTable_2_s, he]
    rw [brd (by omega), atL_nat hk, Option.bind_some, i_one_eq, Option.bind_some, i_minus_eq e1_ok hp, Option.bind_some, i_times_eq (ho.get hk) (eS_ok _ _), Option.bind_some,
      br_fits (by simp only [List.length_append, List.length_map, List.length_take, List.length_singleton]; omega), i_times_eq (ho.get hk) hp, Option.bind_some,
      br_fits (by simp only [List.length_append, List.length_map, List.length_take, List.length_singleton]; omega), wrap_i64 _ (by omega) (by omega), take_succ hk, List.map_append, List.map_append]
    rfl) (by
    simp only [i_eqTable_2_s]
    rw [brn (by omega), decide_eq_false (by omega), List.take_length])
theorem i_eqTable_eq {l : List Ext} (h : OkEs l) (hn : l.length ≤ 6) : i_eqTable l = some (eqT l) := by
  unfold i_eqTable
  have key : Loop (i_eqTable_1_s l ((l.length : Nat) : Int)) ([e1], 0) = some (eqT l, (l.length : Int), false) :=
    Loop_for (fun k => (eqT (l.take k), (k : Int))) l.length (fun k hk => by
      have hl := eqT_len (l.take k)
      have hb := pow2_6 (l.take k).length (by rw [List.length_take]; omega)
      simp only [i_eqTable_1_s]
      rw [brd (by omega), atL_nat hk, Option.bind_some, i_eq2 (eqT_ok _) (h.get hk) (by omega), Option.bind_some]
      dsimp only
      rw [br_fits (by simp only [List.length_append, List.length_map]; omega), wrap_i64 _ (by omega) (by omega), take_succ hk, eqT_snoc]
      rfl) (by
      simp only [i_eqTable_1_s]
      rw [brn (by omega), decide_eq_false (by omega), List.take_length])
  rw [i_one_eq, Option.bind_some, key]; rfl

/-- Two halves filled side by side. -/
def eqU (out : List Ext) (p : Ext) (k : Nat) (l : List Ext) : List Ext := (l.set k (eM (out.getD k e0) (eS e1 p))).set (k + out.length) (eM (out.getD k e0) p)
theorem iU_lenE {f : Nat → List Ext → List Ext} (hf : ∀ k l, (f k l).length = l.length) : ∀ (k : Nat) (l : List Ext), (iU f k l).length = l.length
  | 0, l => rfl
  | k + 1, l => by rw [iU, hf, iU_lenE hf k l]
theorem eqU_len (out : List Ext) (p : Ext) (k : Nat) (l : List Ext) : (iU (eqU out p) k l).length = l.length := iU_lenE (fun _ _ => by simp [eqU]) k l
theorem eqU_get (out : List Ext) (p : Ext) (l : List Ext) (hl : l.length = 2 * out.length) : ∀ k, k ≤ out.length → ∀ j (hj : j < (iU (eqU out p) k l).length), (iU (eqU out p) k l)[j] =
    if j < k then eM (out.getD j e0) (eS e1 p) else if out.length ≤ j ∧ j < out.length + k then eM (out.getD (j - out.length) e0) p else l[j]'(by rw [eqU_len] at hj; exact hj)
  | 0, _, j, hj => by
    rw [if_neg (by omega), if_neg (by omega)]; rfl
  | k + 1, hk, j, hj => by
    have ih := eqU_get out p l hl k (by omega) j (by rw [eqU_len] at hj ⊢; exact hj)
    simp only [iU, eqU, List.getElem_set]
    by_cases h1 : k + out.length = j
    · rw [if_pos h1, if_neg (by omega), if_pos (by omega), show j - out.length = k by omega]
    · rw [if_neg h1]
      by_cases h2 : k = j
      · rw [if_pos h2, if_pos (by omega), h2]
      · rw [if_neg h2, ih]
        by_cases h3 : j < k
        · rw [if_pos h3, if_pos (by omega)]
        · by_cases h4 : out.length ≤ j ∧ j < out.length + k
          · rw [if_neg h3, if_pos h4, if_neg (by omega), if_pos (by omega)]
          · rw [if_neg h3, if_neg h4, if_neg (by omega), if_neg (by omega)]
theorem eqU_all (out : List Ext) (p : Ext) (l : List Ext) (hl : l.length = 2 * out.length) : iU (eqU out p) out.length l = eqS out p := by
  apply List.ext_getElem (by rw [eqU_len, eqS_len, hl])
  intro j h1 h2
  rw [eqU_get out p l hl out.length (Nat.le_refl _) j h1]
  rw [eqU_len, hl] at h1
  simp only [eqS]
  by_cases h3 : j < out.length
  · rw [if_pos h3, List.getElem_append_left (by simpa using h3), List.getElem_map]; simp [h3]
  · rw [if_neg h3, if_pos (by omega), List.getElem_append_right (by simp; omega), List.getElem_map]
    have : j - out.length < out.length := by omega
    simp [this]
theorem atL_e {l : List Ext} {k : Nat} (h : k < l.length) : atL l (k : Int) = some (l.getD k e0) := by simp [atL, h]
theorem OkEs.getD {l : List Ext} (h : OkEs l) (k : Nat) : okE (l.getD k e0) := by
  by_cases hk : k < l.length
  · simp [hk]; exact h.get hk
  · simp [List.getElem?_eq_none (Nat.le_of_not_lt hk)]; exact e0_ok
theorem get_e {β : Type} {l : List Ext} {i : Nat} {f : Ext → Option β} (h : i < l.length) : (l[i]?).bind f = f (l.getD i e0) := by simp [h]
end Go.AI.Fn

set_option linter.unusedVariables false
set_option linter.unusedSimpArgs false
namespace Go.AI.Fn

theorem set_fill {α : Type} {a : List α} {n k : Nat} {z x : α} (hk : k < n) (ha : a.length = k) : (a ++ List.replicate (n - k) z).set k x = (a ++ [x]) ++ List.replicate (n - (k + 1)) z := by
  subst ha
  have e : n - a.length = (n - (a.length + 1)) + 1 := by omega
  rw [e, List.replicate_succ]
  simp
/-- A list filled place by place. -/
theorem to_gen {α β : Type} {f : α → Option β} {g : α → β} {a : List α} {z : β} (hl : a.length ≤ 1099511627776) (hf : ∀ x ∈ a, f x = some (g x)) {step : List β × Int → Option ((List β × Int) ⊕ (List β × Int × Bool))}
    (hs : ∀ l i, step (l, i) = br (decide (i < ((a.length : Nat) : Int))) ((atL a i).bind fun x => (f x).bind fun r => br (decide (0 ≤ i)) (br (decide (i.toNat < l.length)) ((l[i.toNat]?).bind fun _ => some (.inl (l.set i.toNat r, IntKind.wrap .i64 (i + 1)))) none) none) (some (.inr (l, i, decide (i < ((a.length : Nat) : Int)))))) {n : Nat} (hn : a.length ≤ n) :
    Loop step (List.replicate n z, 0) = some (a.map g ++ List.replicate (n - a.length) z, (a.length : Int), false) := by
  have key := Loop_for (step := step) (fun k => ((a.take k).map g ++ List.replicate (n - k) z, (k : Int))) a.length (e := (a.map g ++ List.replicate (n - a.length) z, (a.length : Int), false)) (fun k hk => by
    have hlen : ((a.take k).map g ++ List.replicate (n - k) z).length = n := by simp; omega
    rw [hs, brd (by omega), atL_nat hk, Option.bind_some, hf _ (List.getElem_mem hk), Option.bind_some, brd (by omega), brd (by omega), Int.toNat_natCast, get_some (by omega), Option.bind_some, set_fill (by omega) (by simp; omega), wrap_i64 _ (by omega) (by omega), take_succ hk, List.map_append]
    rfl) (by
    rw [hs, brn (by omega), decide_eq_false (by omega), List.take_length])
  simpa using key
/-- Alike lists compare so. -/
theorem eq_gen {α : Type} {f : α → α → Option Bool} {a : List α} (hl : a.length ≤ 1099511627776) (hf : ∀ x ∈ a, f x x = some true) {step : Int → Option (Int ⊕ (Unit ⊕ (Int × Bool)))}
    (hs : ∀ t, step t = br (decide (t < ((a.length : Nat) : Int))) ((atL a t).bind fun x => (atL a t).bind fun y => (f x y).bind fun r => br (!r) (some (.inr (.inl ()))) (some (.inl (IntKind.wrap .i64 (t + 1))))) (some (.inr (.inr (t, decide (t < ((a.length : Nat) : Int))))))) :
    (Loop step 0).bind (alt (fun _ => some false) (fun _ => some true)) = some true := by
  have key : Loop step 0 = some (.inr ((a.length : Int), false)) := Loop_for (step := step) (fun k => (k : Int)) a.length (fun k hk => by
      rw [hs, brd (by omega), atL_nat hk, Option.bind_some, Option.bind_some, hf _ (List.getElem_mem hk), Option.bind_some, Bool.not_true, br_false, wrap_i64 _ (by omega) (by omega)]; rfl)
    (by rw [hs, brn (by omega), decide_eq_false (by omega)])
  rw [key]; rfl
end Go.AI.Fn

set_option linter.unusedVariables false
namespace Go.AI.Fn

theorem cmp_eq (x y : Int) : cmp_Compare_int x y = some (if x < y then -1 else if x > y then 1 else 0) := by
  unfold cmp_Compare_int cmp_isNaN_int
  simp only [Option.bind_some, bne_self_eq_false, br_false]
  by_cases h : x < y
  · rw [brd h, if_pos h]
  · rw [brn h, if_neg h]
    by_cases h2 : x > y
    · rw [brd h2, if_pos h2]
    · rw [brn h2, if_neg h2]
theorem or_step0 (a b : Int) : cmp_Or_int_1_s 0 [a, b] (([a, b].length : Nat) : Int) 0 = br (a != 0) (some (.inr (.inl a))) (some (.inl 1)) := by
  simp only [cmp_Or_int_1_s]
  rw [brd (by simp), show atL [a, b] 0 = some a by simp [atL], show IntKind.wrap .i64 (0 + 1) = 1 by decide]; rfl
theorem or_step1 (a b : Int) : cmp_Or_int_1_s 0 [a, b] (([a, b].length : Nat) : Int) 1 = br (b != 0) (some (.inr (.inl b))) (some (.inl 2)) := by
  simp only [cmp_Or_int_1_s]
  rw [brd (by simp), show atL [a, b] 1 = some b by simp [atL], show IntKind.wrap .i64 (1 + 1) = 2 by decide]; rfl
theorem or_step2 (a b : Int) : cmp_Or_int_1_s 0 [a, b] (([a, b].length : Nat) : Int) 2 = some (.inr (.inr (2, false))) := by
  simp only [cmp_Or_int_1_s]
  rw [brn (by simp)]; simp
theorem or_eq (a b : Int) : cmp_Or_int [a, b] = some (if a = 0 then b else a) := by
  unfold cmp_Or_int
  by_cases ha : a = 0
  · rw [Loop_inl (s' := 1) (by rw [or_step0, brbe ha]), if_pos ha]
    by_cases hb : b = 0
    · rw [Loop_inl (s' := 2) (by rw [or_step1, brbe hb]), Loop_inr (or_step2 a b), hb]; rfl
    · rw [Loop_inr (e := .inl b) (by rw [or_step1, brb hb])]; rfl
  · rw [Loop_inr (e := .inl a) (by rw [or_step0, brb ha]), if_neg ha]; rfl
def ltE (y x : Entry) : Prop := y.Row < x.Row ∨ (y.Row = x.Row ∧ y.Col < x.Col)
theorem order_eq (y x : Entry) : ∃ c, i_Entry_order y x = some c ∧ (c ≥ 0 ↔ ¬ ltE y x) := by
  unfold i_Entry_order
  rw [cmp_eq, cmp_eq]
  simp only [Option.bind_some, or_eq]
  refine ⟨_, rfl, ?_⟩
  unfold ltE
  by_cases h1 : y.Row < x.Row
  · simp [h1]
  · by_cases h2 : y.Row > x.Row
    · simp [h1, h2]; omega
    · have h3 : y.Row = x.Row := by omega
      by_cases h4 : y.Col < x.Col
      · simp [h3, h4]
      · by_cases h5 : y.Col > x.Col
        · simp [h3, h4, h5]
        · simp [h3, h4, h5]

def inE (R C : Int) (x : Entry) : Prop := (0 ≤ x.Row ∧ x.Row ≤ R - 1) ∧ (0 ≤ x.Col ∧ x.Col ≤ C - 1) ∧ 1 ≤ x.Value ∧ x.Value ≤ 2130706432
def badE (l : List Entry) (R C : Int) (t : Nat) : Prop := ∃ x, l[t]? = some x ∧ (¬ inE R C x ∨ (0 < t ∧ ∃ y, l[t - 1]? = some y ∧ ¬ ltE y x))
open Classical in
noncomputable def matB (l : List Entry) (R C : Int) : Bool := decide (l.length ≤ 200 ∧ ∀ t, ¬ badE l R C t)

open Classical in
theorem matB_t {l : List Entry} {R C : Int} (h : l.length ≤ 200) (g : ∀ t, ¬ badE l R C t) : matB l R C = true := by unfold matB; exact decide_eq_true ⟨h, g⟩
open Classical in
theorem matB_f {l : List Entry} {R C : Int} (h : l.length ≤ 200 → ¬ ∀ t, ¬ badE l R C t) : matB l R C = false := by unfold matB; exact decide_eq_false fun g => h g.1 g.2
open Classical in
theorem matB_len {l : List Entry} {R C : Int} (h : matB l R C = true) : l.length ≤ 200 := by unfold matB at h; exact (of_decide_eq_true h).1
theorem i_inA (n a b : Int) : i_in n a b = some (decide (a ≤ n ∧ n ≤ b)) := by
  unfold i_in
  by_cases h : a ≤ n
  · rw [brd h]; simp [h]
  · rw [brn h]; simp [h]
theorem isMatrix_eq {l : List Entry} {R C : Int} (hl : l.length ≤ 1099511627776) (hR : 1 ≤ R ∧ R ≤ 4096) (hC : 1 ≤ C ∧ C ≤ 4096) : i_isMatrix l R C = some (matB l R C) := by
  unfold i_isMatrix
  have key := Loop_inv (step := i_isMatrix_1_s l R C l ((l.length : Nat) : Int)) (fun t => 0 ≤ t ∧ t ≤ l.length ∧ ∀ k : Nat, (k : Int) < t → ¬ badE l R C k) (fun t => (l.length - t).toNat)
    (fun e => (∃ x, e = .inl x ∧ ∃ k, badE l R C k) ∨ (∃ x, e = .inr x ∧ ∀ k, ¬ badE l R C k)) ?_ 0 ⟨by omega, by omega, by omega⟩
  · obtain ⟨e, he, ⟨x, rfl, k, hk⟩ | ⟨x, rfl, hk⟩⟩ := key
    · rw [he]
      simp only [Option.bind_some, alt_inl]
      rw [matB_f fun _ h => h k hk]
    · rw [he]
      simp only [Option.bind_some, alt_inr]
      by_cases h : l.length ≤ 200
      · rw [decide_eq_true (by omega), matB_t h hk]
      · rw [decide_eq_false (by omega), matB_f fun g => absurd g h]
  · intro t ⟨h0, h1, h2⟩
    simp only [i_isMatrix_1_s]
    by_cases c : t < (l.length : Int)
    · obtain ⟨x, r, e1, e2, e3⟩ := drop_cons (l := l) (i := t.toNat) (by omega)
      have next : ¬ badE l R C t.toNat → (fun t : Int => 0 ≤ t ∧ t ≤ l.length ∧ ∀ k : Nat, (k : Int) < t → ¬ badE l R C k) (t + 1) := by
        intro hn
        refine ⟨by omega, by omega, fun k hk => ?_⟩
        by_cases e : k = t.toNat
        · subst e; exact hn
        · exact h2 k (by omega)
      rw [brd c, atL_get h0 e3]
      simp only [Option.bind_some, i_inA]
      rw [wrap_i64 (R - 1) (by omega) (by omega), wrap_i64 (C - 1) (by omega) (by omega), wrap_i64 (t + 1) (by omega) (by omega)]
      by_cases i1 : 0 ≤ x.Row ∧ x.Row ≤ R - 1
      · rw [notd i1]
        by_cases i2 : 0 ≤ x.Col ∧ x.Col ≤ C - 1
        · rw [notd i2]
          by_cases i3 : 1 ≤ x.Value ∧ x.Value ≤ 2130706432
          · rw [notd i3]
            by_cases c3 : t > 0
            · rw [brd c3, wrap_i64 (t - 1) (by omega) (by omega)]
              obtain ⟨y, r2, f1, f2, f3⟩ := drop_cons (l := l) (i := (t - 1).toNat) (by omega)
              rw [atL_get (by omega) f3]
              simp only [Option.bind_some]
              obtain ⟨d, hd, hd2⟩ := order_eq y x
              rw [hd]
              simp only [Option.bind_some]
              rw [show (t - 1).toNat = t.toNat - 1 by omega] at f3
              by_cases c4 : d ≥ 0
              · rw [brd c4]
                exact .inr ⟨_, rfl, .inl ⟨_, rfl, t.toNat, x, e3, .inr ⟨by omega, y, f3, hd2.1 c4⟩⟩⟩
              · rw [brn c4]
                refine .inl ⟨_, rfl, next ?_, by omega⟩
                rintro ⟨x', g1, g | ⟨_, y', g2, g3⟩⟩
                · rw [e3] at g1; cases g1; exact g ⟨i1, i2, i3⟩
                · rw [e3] at g1; cases g1; rw [f3] at g2; cases g2; exact c4 (hd2.2 g3)
            · rw [brn c3]
              refine .inl ⟨_, rfl, next ?_, by omega⟩
              rintro ⟨x', g1, g | ⟨g0, _⟩⟩
              · rw [e3] at g1; cases g1; exact g ⟨i1, i2, i3⟩
              · omega
          · rw [notn i3]
            exact .inr ⟨_, rfl, .inl ⟨_, rfl, t.toNat, x, e3, .inl fun g => i3 g.2.2⟩⟩
        · rw [notn i2]
          exact .inr ⟨_, rfl, .inl ⟨_, rfl, t.toNat, x, e3, .inl fun g => i2 g.2.1⟩⟩
      · rw [notn i1]
        exact .inr ⟨_, rfl, .inl ⟨_, rfl, t.toNat, x, e3, .inl fun g => i1 g.1⟩⟩
    · rw [brn c]
      refine .inr ⟨_, rfl, .inr ⟨_, rfl, fun k hk => ?_⟩⟩
      have hkl : k < l.length := by
        obtain ⟨x, hx, _⟩ := hk
        obtain ⟨h, _⟩ := List.getElem?_eq_some_iff.1 hx
        exact h
      exact h2 k (by omega) hk

end Go.AI.Fn

set_option linter.unusedVariables false
namespace Go.AI.Fn

theorem shl_ok {k : Int} (h : 0 ≤ k ∧ k ≤ 5) : 1 ≤ shl64 .i64 1 k ∧ shl64 .i64 1 k ≤ 4096 := by
  have : k = 0 ∨ k = 1 ∨ k = 2 ∨ k = 3 ∨ k = 4 ∨ k = 5 := by omega
  rcases this with rfl | rfl | rfl | rfl | rfl | rfl <;> decide

noncomputable def sysB (s : System) : Bool :=
  decide (1 ≤ s.Rows ∧ s.Rows ≤ 5) && (decide (2 ≤ s.Cols ∧ s.Cols ≤ 5) && (decide (0 ≤ s.Publics ∧ s.Publics ≤ shl64 .i64 1 (s.Cols - 1) - 1) &&
    (matB s.A (shl64 .i64 1 s.Rows) (shl64 .i64 1 s.Cols) && (matB s.B (shl64 .i64 1 s.Rows) (shl64 .i64 1 s.Cols) && matB s.C (shl64 .i64 1 s.Rows) (shl64 .i64 1 s.Cols)))))
theorem i_SystemOK_eq {s : System} (hA : s.A.length ≤ 1099511627776) (hB : s.B.length ≤ 1099511627776) (hC : s.C.length ≤ 1099511627776) : i_SystemOK s = some (sysB s) := by
  unfold i_SystemOK sysB
  simp only [i_inA, Option.bind_some]
  by_cases h1 : 1 ≤ s.Rows ∧ s.Rows ≤ 5
  · rw [notd h1]
    by_cases h2 : 2 ≤ s.Cols ∧ s.Cols ≤ 5
    · rw [notd h2]
      have k1 := shl_ok (k := s.Rows) (by omega)
      have k2 := shl_ok (k := s.Cols) (by omega)
      have k3 := shl_ok (k := s.Cols - 1) (by omega)
      unfold i_System_half i_System_matrices
      rw [wrap_i64 (s.Cols - 1) (by omega) (by omega), brd (by omega)]
      simp only [Option.bind_some]
      rw [wrap_i64 (shl64 .i64 1 (s.Cols - 1) - 1) (by omega) (by omega)]
      by_cases h3 : 0 ≤ s.Publics ∧ s.Publics ≤ shl64 .i64 1 (s.Cols - 1) - 1
      · rw [notd h3, brd (by omega), brd (by omega), isMatrix_eq hA k1 k2]
        simp only [Option.bind_some]
        rw [decide_eq_true h1, decide_eq_true h2, decide_eq_true h3]
        cases matB s.A (shl64 .i64 1 s.Rows) (shl64 .i64 1 s.Cols)
        · rfl
        · simp only [Bool.not_true, br_false]
          rw [brd (by omega), brd (by omega), isMatrix_eq hB k1 k2]
          simp only [Option.bind_some]
          cases matB s.B (shl64 .i64 1 s.Rows) (shl64 .i64 1 s.Cols)
          · rfl
          · simp only [Bool.not_true, br_false]
            rw [brd (by omega), brd (by omega), isMatrix_eq hC k1 k2]
            simp only [Option.bind_some]
            cases matB s.C (shl64 .i64 1 s.Rows) (shl64 .i64 1 s.Cols) <;> rfl
      · rw [notn h3, decide_eq_true h1, decide_eq_true h2, decide_eq_false h3]; rfl
    · rw [notn h2, decide_eq_true h1, decide_eq_false h2]; rfl
  · rw [notn h1, decide_eq_false h1]; rfl
theorem sysB_in {s : System} (h : sysB s = true) : (1 ≤ s.Rows ∧ s.Rows ≤ 5) ∧ (2 ≤ s.Cols ∧ s.Cols ≤ 5) ∧ (0 ≤ s.Publics ∧ s.Publics ≤ 4096) ∧ s.A.length ≤ 200 ∧ s.B.length ≤ 200 ∧ s.C.length ≤ 200 := by
  unfold sysB at h
  simp only [Bool.and_eq_true, decide_eq_true_eq] at h
  obtain ⟨h1, h2, h3, h4, h5, h6⟩ := h
  have k3 := shl_ok (k := s.Cols - 1) (by omega)
  exact ⟨h1, h2, by omega, matB_len h4, matB_len h5, matB_len h6⟩

def setB (t : Setting) : Bool := decide (1 ≤ t.Rate ∧ t.Rate ≤ 3) && (decide (1 ≤ t.Queries ∧ t.Queries ≤ 8) && decide (0 ≤ t.Grind ∧ t.Grind ≤ 12))
theorem setB_in {t : Setting} (h : setB t = true) : (1 ≤ t.Rate ∧ t.Rate ≤ 3) ∧ (1 ≤ t.Queries ∧ t.Queries ≤ 8) ∧ 0 ≤ t.Grind ∧ t.Grind ≤ 12 := by
  unfold setB at h
  simpa only [Bool.and_eq_true, decide_eq_true_eq] using h

end Go.AI.Fn

set_option linter.unusedVariables false
set_option linter.unusedSimpArgs false
namespace Go.AI.Fn

theorem shl1 {k : Nat} (h : k ≤ 62) : shl64 .i64 1 (k : Int) = ((2 ^ k : Nat) : Int) := by
  have h2 : ∀ k : Nat, k < 63 → (2 : Int) ^ k ≤ 4611686018427387904 ∧ 0 < (2 : Int) ^ k := by decide
  obtain ⟨h3, h4⟩ := h2 k (by omega)
  show IntKind.wrap .i64 (1 * 2 ^ (min ((k : Int).toNat) 64)) = _
  rw [Int.toNat_natCast, Nat.min_eq_left (by omega), Int.one_mul, wrap_i64 _ (by omega) (by omega)]
  simp
/-- A vector: a one, what is public, noughts; what is private, noughts. -/
def vecM (h n : Nat) (pub priv : List Int) : List Int := ((1 :: pub) ++ List.replicate (h - 1 - pub.length) 0) ++ (priv ++ List.replicate (n - h - priv.length) 0)
theorem vecM_len {h n : Nat} {pub priv : List Int} (h1 : pub.length + 1 ≤ h) (h2 : priv.length ≤ n - h) (h3 : h ≤ n) : (vecM h n pub priv).length = n := by simp [vecM]; omega
theorem copy_at {l r : List Int} {s : Nat} (h : s + r.length ≤ l.length) : copyL l s r.length r = l.take s ++ (r ++ l.drop (s + r.length)) := by
  rw [copyL, List.take_length]
theorem vec_copy {h n : Nat} {pub priv : List Int} (h1 : pub.length + 1 ≤ h) (h2 : priv.length ≤ n - h) (h3 : h ≤ n) :
    copyL (copyL ((List.replicate n (0 : Int)).set 0 1) 1 pub.length pub) h priv.length priv = vecM h n pub priv := by
  obtain ⟨m, rfl⟩ : ∃ m, n = m + 1 := ⟨n - 1, by omega⟩
  have e1 : (List.replicate (m + 1) (0 : Int)).set 0 1 = 1 :: List.replicate m 0 := by rw [List.replicate_succ]; rfl
  have e2 : copyL (1 :: List.replicate m (0 : Int)) 1 pub.length pub = 1 :: (pub ++ List.replicate (m - pub.length) 0) := by
    rw [copy_at (by simp; omega), Nat.add_comm 1]; simp
  rw [e1, e2, copy_at (by simp; omega), vecM]
  have e3 : (1 :: (pub ++ List.replicate (m - pub.length) (0 : Int))).take h = (1 :: pub) ++ List.replicate (h - 1 - pub.length) 0 := by
    obtain ⟨q, rfl⟩ : ∃ q, h = q + 1 := ⟨h - 1, by omega⟩
    rw [List.take_succ_cons, List.take_append, List.take_of_length_le (by omega), List.take_replicate, Nat.min_eq_left (by omega)]
    simp
  have e4 : (1 :: (pub ++ List.replicate (m - pub.length) (0 : Int))).drop (h + priv.length) = List.replicate (m + 1 - h - priv.length) 0 := by
    obtain ⟨q, rfl⟩ : ∃ q, h = q + 1 := ⟨h - 1, by omega⟩
    rw [show q + 1 + priv.length = (q + priv.length) + 1 by omega, List.drop_succ_cons, List.drop_append, List.drop_eq_nil_of_le (by omega), List.nil_append, List.drop_replicate]
    congr 1; omega
  rw [e3, e4]

def colsN (s : System) : Nat := s.Cols.toNat
def halfN (s : System) : Nat := 2 ^ (s.Cols.toNat - 1)
theorem cols_pos {s : System} (h : sysB s = true) : 2 ≤ s.Cols.toNat ∧ s.Cols.toNat ≤ 5 ∧ s.Cols = (s.Cols.toNat : Int) := by
  obtain ⟨_, h2, _⟩ := sysB_in h; omega
theorem two_half {s : System} (h : sysB s = true) : 2 ^ s.Cols.toNat = 2 * halfN s := by
  obtain ⟨h1, _⟩ := cols_pos h
  rw [halfN, ← Nat.pow_succ']; congr 1; omega
theorem pow2_5 : ∀ k : Nat, k ≤ 5 → 1 ≤ 2 ^ k ∧ 2 ^ k ≤ 32 := by decide
theorem i_half_eq {s : System} (h : sysB s = true) : i_System_half s = some (halfN s : Int) := by
  obtain ⟨h1, h2, h3⟩ := cols_pos h
  unfold i_System_half
  rw [wrap_i64 _ (by omega) (by omega), brd (by omega), show s.Cols - 1 = ((s.Cols.toNat - 1 : Nat) : Int) by omega, shl1 (by omega)]; rfl
theorem i_vector_eq {s : System} (h : sysB s = true) {pub priv : List Int} (h1 : pub.length + 1 ≤ halfN s) (h2 : priv.length ≤ halfN s) : i_System_vector s pub priv = some (vecM (halfN s) (2 ^ s.Cols.toNat) pub priv) := by
  obtain ⟨c1, c2, c3⟩ := cols_pos h
  have hh := two_half h
  have hb := pow2_5 s.Cols.toNat c2
  unfold i_System_vector
  rw [brd (by omega), c3, shl1 (by omega), ← c3]
  simp only [Int.toNat_natCast, List.length_replicate]
  have hn0 : 0 < (List.replicate (2 ^ s.Cols.toNat) (0 : Int)).length := by rw [List.length_replicate]; omega
  rw [br_mk (by omega) (by omega) (by omega), brd (by omega), get_bind hn0, brd (by omega), brd (by omega), i_half_eq h, Option.bind_some, brdd (by omega) (by omega), brd (by omega)]
  simp only [Int.toNat_natCast]
  rw [Nat.min_eq_left (by omega), Nat.min_eq_left (by omega), vec_copy h1 (by omega) (by omega)]

theorem i_exts_eq {l : List Int} (h : l.length ≤ 1000000) : i_exts l = some (l.map eN) := by
  unfold i_exts
  have key : Loop (i_exts_1_s l ((l.length : Nat) : Int)) ([], 0) = some (l.map eN, (l.length : Int), false) :=
    Loop_for (fun k => ((l.take k).map eN, (k : Int))) l.length (fun k hk => by
      simp only [i_exts_1_s]
      rw [brd (by omega), atL_nat hk, Option.bind_some, br_fits (by simp only [List.length_append, List.length_map, List.length_take, List.length_singleton]; omega), wrap_i64 _ (by omega) (by omega), take_succ hk, List.map_append]
      rfl) (by
      simp only [i_exts_1_s]
      rw [brn (by omega), decide_eq_false (by omega), List.take_length])
  rw [key]; rfl
theorem vec_okF {h n : Nat} {pub priv : List Int} (h1 : OkFs pub) (h2 : OkFs priv) : OkFs (vecM h n pub priv) := by
  intro x hx
  simp only [vecM, List.mem_append, List.mem_cons, List.mem_replicate] at hx
  rcases hx with ((rfl | hx) | ⟨_, rfl⟩) | hx | ⟨_, rfl⟩
  · exact okF1
  · exact h1 x hx
  · exact okF0
  · exact h2 x hx
  · exact okF0
theorem eN_map_ok {l : List Int} (h : OkFs l) : OkEs (l.map eN) := OkEs.map l fun x hx => eN_ok (h x hx)

/-- What is public, at a point. -/
def pubM (s : System) (pub : List Int) (pt : List Ext) : Ext := dotM (((vecM (halfN s) (2 ^ s.Cols.toNat) pub []).take (halfN s)).map eN) (eqT pt)
theorem i_publicAt_eq {s : System} (h : sysB s = true) {pub : List Int} {pt : List Ext} (h1 : pub.length + 1 ≤ halfN s) (hf : OkFs pub) (hp : OkEs pt) (hl : pt.length + 1 = s.Cols.toNat) : i_publicAt s pub pt = some (pubM s pub pt) := by
  obtain ⟨c1, c2, c3⟩ := cols_pos h
  have hh := two_half h
  have hb := pow2_5 s.Cols.toNat c2
  have hv : (vecM (halfN s) (2 ^ s.Cols.toNat) pub []).length = 2 ^ s.Cols.toNat := vecM_len h1 (by simp) (by omega)
  have hz : OkFs (vecM (halfN s) (2 ^ s.Cols.toNat) pub []) := vec_okF hf (fun x hx => by cases hx)
  unfold i_publicAt
  rw [i_vector_eq h h1 (by simp), Option.bind_some, i_half_eq h, Option.bind_some, subL_of (by omega) (by omega) (by omega), Option.bind_some]
  have e : ((vecM (halfN s) (2 ^ s.Cols.toNat) pub []).drop (Int.toNat 0)).take (((halfN s : Nat) : Int).toNat - Int.toNat 0) = (vecM (halfN s) (2 ^ s.Cols.toNat) pub []).take (halfN s) := rfl
  have hel := eqT_len pt
  have hpl : pt.length = s.Cols.toNat - 1 := by omega
  have hq : 2 ^ pt.length = halfN s := by rw [hpl]; rfl
  rw [e, i_exts_eq (by rw [List.length_take]; omega), Option.bind_some, i_eqTable_eq hp (by omega), Option.bind_some,
    i_dot_eq (eN_map_ok fun x hx => hz x (List.mem_of_mem_take hx)) (eqT_ok _) (by rw [List.length_map, List.length_take]; omega) (by rw [List.length_map, List.length_take]; omega)]
  rfl
open Classical in
/-- PublicAt's answer. -/
noncomputable def pubA (s : System) (pub : List Int) (pt : List Ext) : Ext × Int :=
  if pub.length > 4096 then (e0, 2) else if pt.length > 4096 then (e0, 2) else if sysB s = false then (e0, 1) else if pub.all okFb = false then (e0, 1) else if pt.all okEb = false then (e0, 1)
  else if (pub.length : Int) ≠ s.Publics then (e0, 8) else if (pt.length : Int) ≠ s.Cols - 1 then (e0, 8) else (pubM s pub pt, 0)
theorem sys_pub {s : System} (h : sysB s = true) : 0 ≤ s.Publics ∧ s.Publics.toNat + 1 ≤ halfN s := by
  obtain ⟨c1, c2, c3⟩ := cols_pos h
  have h0 := h
  unfold sysB at h0
  simp only [Bool.and_eq_true, decide_eq_true_eq] at h0
  obtain ⟨_, _, h3, _⟩ := h0
  have e : shl64 .i64 1 (s.Cols - 1) = (halfN s : Int) := by
    rw [show s.Cols - 1 = ((s.Cols.toNat - 1 : Nat) : Int) by omega, shl1 (by omega)]; rfl
  rw [e] at h3
  omega
theorem not_bool {α : Type} {b : Bool} {x y : α} : br (!b) x y = br b y x := br_not b x y
theorem i_PublicAt_eq {s : System} {pub : List Int} {pt : List Ext} (hA : s.A.length ≤ 1048576) (hB : s.B.length ≤ 1048576) (hC : s.C.length ≤ 1048576) : i_PublicAt s pub pt = some (pubA s pub pt) := by
  unfold i_PublicAt pubA
  by_cases c1 : pub.length > 4096
  · rw [brd (by omega), if_pos c1]; rfl
  rw [brn (by omega), if_neg c1]
  by_cases c2 : pt.length > 4096
  · rw [brd (by omega), if_pos c2]; rfl
  rw [brn (by omega), if_neg c2, i_SystemOK_eq (by omega) (by omega) (by omega), Option.bind_some, i_areF_eq (by omega), i_areE_eq (by omega)]
  cases hs : sysB s
  · rfl
  cases hf : pub.all okFb
  · rfl
  cases hp : pt.all okEb
  · rfl
  simp only [Option.bind_some, Bool.not_true, br_false, Bool.true_eq_false, if_false]
  obtain ⟨d1, d2, d3⟩ := cols_pos hs
  obtain ⟨g1, g2⟩ := sys_pub hs
  by_cases c3 : (pub.length : Int) = s.Publics
  · rw [brbe c3, if_neg (by simpa using c3), wrap_i64 _ (by omega) (by omega)]
    by_cases c4 : (pt.length : Int) = s.Cols - 1
    · rw [brbe c4, if_neg (by simpa using c4), i_publicAt_eq hs (by omega) (allF.1 hf) (allE.1 hp) (by omega)]; rfl
    · rw [brb c4, if_pos c4]; rfl
  · rw [brb c3, if_pos c3]; rfl
end Go.AI.Fn

set_option linter.unusedVariables false
namespace Go.AI.Fn

theorem srt_add {l : List Entry} {R C : Int} {y : Entry} (h : ∀ k, ¬ badE l R C k) (hy : inE R C y) (hl : ∀ x ∈ l, ltE x y) : ∀ k, ¬ badE (l ++ [y]) R C k := by
  rintro k ⟨x, hx, hb⟩
  by_cases hk : k < l.length
  · rw [List.getElem?_append_left hk] at hx
    rcases hb with hb | ⟨h0, z, hz, hb⟩
    · exact h k ⟨x, hx, .inl hb⟩
    · rw [List.getElem?_append_left (by omega)] at hz
      exact h k ⟨x, hx, .inr ⟨h0, z, hz, hb⟩⟩
  · have hk2 : k = l.length := by
      obtain ⟨h1, _⟩ := List.getElem?_eq_some_iff.1 hx
      rw [List.length_append, List.length_singleton] at h1; omega
    subst hk2
    rw [List.getElem?_append_right (Nat.le_refl _), Nat.sub_self] at hx
    cases hx
    rcases hb with hb | ⟨h0, z, hz, hb⟩
    · exact hb hy
    · rw [List.getElem?_append_left (by omega)] at hz
      exact hb (hl z (List.mem_of_getElem? hz))

theorem mx_ok {v : Int} (h : okF v) : 1 ≤ mx 1 v ∧ mx 1 v ≤ 2130706432 := by
  obtain ⟨h0, h1⟩ := h
  unfold mx
  split <;> omega

theorem inner_ok {R C r c r0 B : Int} (hr : shl64 .i64 1 r = R) (hc : shl64 .i64 1 c = C) (hr' : 0 ≤ r ∧ r ≤ 5) (hc' : 0 ≤ c ∧ c ≤ 5) (hR : 1 ≤ R ∧ R ≤ 8) (hC : 1 ≤ C ∧ C ≤ 8) (h0 : 0 ≤ r0 ∧ r0 < R) (hB : B + 200 < Big)
    {l : List Entry} {m : l00Src} (hs : Src B m) (hl : ∀ k, ¬ badE l R C k) (hm : ∀ x ∈ l, x.Row < r0) (hn : (l.length : Int) ≤ 8 * r0) :
    ∃ e, Loop (s_l00Src_entries_2_s r c r0) (l, (0 : Int), m.code, m.at_, m.seed) = some e ∧ (∀ k, ¬ badE e.1 R C k) ∧ (∀ x ∈ e.1, x.Row < r0 + 1) ∧ (e.1.length : Int) ≤ 8 * (r0 + 1) ∧ Src (B + 200) ⟨e.2.2.2.1, e.2.2.2.2.1, e.2.2.2.2.2⟩ := by
  refine Loop_inv (step := s_l00Src_entries_2_s r c r0)
    (fun s => 0 ≤ s.2.1 ∧ s.2.1 ≤ C ∧ (∀ k, ¬ badE s.1 R C k) ∧ (∀ x ∈ s.1, x.Row < r0 ∨ (x.Row = r0 ∧ x.Col < s.2.1)) ∧ (s.1.length : Int) ≤ 8 * r0 + s.2.1 ∧ Src (B + 21 * s.2.1) ⟨s.2.2.1, s.2.2.2.1, s.2.2.2.2⟩)
    (fun s => (C - s.2.1).toNat) (fun e => (∀ k, ¬ badE e.1 R C k) ∧ (∀ x ∈ e.1, x.Row < r0 + 1) ∧ (e.1.length : Int) ≤ 8 * (r0 + 1) ∧ Src (B + 200) ⟨e.2.2.2.1, e.2.2.2.2.1, e.2.2.2.2.2⟩) ?_ (l, (0 : Int), m.code, m.at_, m.seed)
    ⟨by dsimp only; omega, by dsimp only; omega, hl, fun x hx => .inl (hm x hx), by dsimp only; omega, hs.mono (by dsimp only; omega)⟩
  rintro ⟨l, j, c1, c2, c3⟩ ⟨j0, j1, g1, g2, g3, g4⟩
  dsimp only at j0 j1 g1 g2 g3 g4
  simp only [s_l00Src_entries_2_s]
  rw [wrap_u64 c (by omega) (by omega), brd hc'.1, hc]
  by_cases hj : j < C
  · rw [brd hj]
    obtain ⟨b, m1, e1, s1⟩ := chance_ok (n := 4) g4 (by omega)
    rw [e1]
    simp only [Option.bind_some]
    rw [wrap_i64 (j + 1) (by omega) (by omega)]
    cases b
    · rw [br_false]
      exact .inl ⟨_, rfl, ⟨by dsimp only; omega, by dsimp only; omega, g1, fun x hx => by rcases g2 x hx with h | h; exact .inl h; exact .inr ⟨h.1, by dsimp only; omega⟩, by dsimp only; omega, s1.mono (by dsimp only; omega)⟩, by dsimp only; omega⟩
    · rw [br_true]
      obtain ⟨v, m2, e2, v0, s2⟩ := field_ok s1 (by omega)
      rw [e2]
      simp only [Option.bind_some]
      rw [br_of (fits_of (by simp only [List.length_append, List.length_cons, List.length_nil]; omega))]
      have hmx := mx_ok v0
      refine .inl ⟨_, rfl, ⟨by dsimp only; omega, by dsimp only; omega, ?_, ?_, ?_, s2.mono (by dsimp only; omega)⟩, by dsimp only; omega⟩
      · refine srt_add g1 ⟨⟨by dsimp only; omega, by dsimp only; omega⟩, ⟨by dsimp only; omega, by dsimp only; omega⟩, hmx.1, hmx.2⟩ fun x hx => ?_
        exact g2 x hx
      · intro x hx
        rcases List.mem_append.1 hx with hx | hx
        · rcases g2 x hx with h | h
          · exact .inl h
          · exact .inr ⟨h.1, by dsimp only; omega⟩
        · rw [List.mem_singleton] at hx; subst hx; exact .inr ⟨rfl, by dsimp only; omega⟩
      · simp only [List.length_append, List.length_cons, List.length_nil]; omega
  · rw [brn hj]
    exact .inr ⟨_, rfl, g1, fun x hx => by rcases g2 x hx with h | h <;> omega, by show (l.length : Int) ≤ 8 * (r0 + 1); omega, g4.mono (by omega)⟩
theorem entries_ok {R C r c B : Int} (hr : shl64 .i64 1 r = R) (hc : shl64 .i64 1 c = C) (hr' : 0 ≤ r ∧ r ≤ 5) (hc' : 0 ≤ c ∧ c ≤ 5) (hR : 1 ≤ R ∧ R ≤ 8) (hC : 1 ≤ C ∧ C ≤ 8) {m : l00Src} (hs : Src B m) (hB : B + 2000 < Big) :
    ∃ l m', s_l00Src_entries r c m = some (l, m') ∧ matB l R C = true ∧ Src (B + 1600) m' := by
  unfold s_l00Src_entries
  have key := Loop_inv (step := s_l00Src_entries_1_s r c)
    (fun s => 0 ≤ s.2.1 ∧ s.2.1 ≤ R ∧ (∀ k, ¬ badE s.1 R C k) ∧ (∀ x ∈ s.1, x.Row < s.2.1) ∧ (s.1.length : Int) ≤ 8 * s.2.1 ∧ Src (B + 200 * s.2.1) ⟨s.2.2.1, s.2.2.2.1, s.2.2.2.2⟩)
    (fun s => (R - s.2.1).toNat) (fun e => (∀ k, ¬ badE e.1 R C k) ∧ (e.1.length : Int) ≤ 64 ∧ Src (B + 1600) ⟨e.2.2.2.1, e.2.2.2.2.1, e.2.2.2.2.2⟩) ?_ (([] : List Entry), (0 : Int), m.code, m.at_, m.seed)
    ⟨by dsimp only; omega, by dsimp only; omega, fun k ⟨x, hx, _⟩ => by simp at hx, fun x hx => by simp at hx, by simp, hs.mono (by dsimp only; omega)⟩
  · obtain ⟨e, he, h1, h2, h3⟩ := key
    rw [he]
    exact ⟨_, _, rfl, matB_t (by omega) h1, h3⟩
  rintro ⟨l, j, c1, c2, c3⟩ ⟨j0, j1, g1, g2, g3, g4⟩
  dsimp only at j0 j1 g1 g2 g3 g4
  simp only [s_l00Src_entries_1_s]
  rw [wrap_u64 r (by omega) (by omega), brd hr'.1, hr]
  by_cases hj : j < R
  · rw [brd hj]
    obtain ⟨e, he, k1, k2, k3, k4⟩ := inner_ok (B := B + 200 * j) hr hc hr' hc' hR hC ⟨j0, hj⟩ (by omega) g4 g1 g2 g3
    rw [he]
    simp only [Option.bind_some]
    rw [wrap_i64 (j + 1) (by omega) (by omega)]
    exact .inl ⟨_, rfl, ⟨by dsimp only; omega, by dsimp only; omega, k1, k2, k3, k4.mono (by dsimp only; omega)⟩, by dsimp only; omega⟩
  · rw [brn hj]
    exact .inr ⟨_, rfl, g1, by show (l.length : Int) ≤ 64; omega, g4.mono (by omega)⟩

theorem shl_small {k : Int} (h : 0 ≤ k ∧ k ≤ 3) : 1 ≤ shl64 .i64 1 k ∧ shl64 .i64 1 k ≤ 8 := by
  have : k = 0 ∨ k = 1 ∨ k = 2 ∨ k = 3 := by omega
  rcases this with rfl | rfl | rfl | rfl <;> decide
theorem shl_more {k : Int} (h : 1 ≤ k ∧ k ≤ 3) : 1 < shl64 .i64 1 k := by
  have : k = 1 ∨ k = 2 ∨ k = 3 := by omega
  rcases this with rfl | rfl | rfl <;> decide
theorem system_ok {B : Int} {m : l00Src} (hs : Src B m) (hB : B + 9000 < Big) : ∃ s m', s_l00Src_system m = some (s, m') ∧ sysB s = true ∧ s.Rows ≤ 2 ∧ s.Cols ≤ 3 ∧ Src (B + 6000) m' := by
  unfold s_l00Src_system
  obtain ⟨a, m1, e1, a0, a1, _, s1⟩ := next_ok (n := 2) hs (by omega)
  have := a1 (by omega)
  rw [e1]
  simp only [Option.bind_some]
  obtain ⟨b, m2, e2, b0, b1, _, s2⟩ := next_ok (n := 2) s1 (by omega)
  have := b1 (by omega)
  rw [e2]
  simp only [Option.bind_some]
  rw [wrap_i64 (1 + a) (by omega) (by omega), wrap_i64 (2 + b) (by omega) (by omega), wrap_i64 (2 + b - 1) (by omega) (by omega), wrap_u64 (2 + b - 1) (by omega) (by omega), brd (by omega)]
  have k3 := shl_more (k := 2 + b - 1) (by omega)
  obtain ⟨p, m3, e3, p0, p1, _, s3⟩ := next_ok (n := shl64 .i64 1 (2 + b - 1)) s2 (by omega)
  have := p1 k3
  rw [e3]
  simp only [Option.bind_some]
  have kR := shl_small (k := 1 + a) (by omega)
  have kC := shl_small (k := 2 + b) (by omega)
  obtain ⟨x, m4, e4, x1, s4⟩ := entries_ok (r := 1 + a) (c := 2 + b) rfl rfl (by omega) (by omega) kR kC s3 (by omega)
  rw [e4]
  simp only [Option.bind_some]
  obtain ⟨y, m5, e5, y1, s5⟩ := entries_ok (r := 1 + a) (c := 2 + b) rfl rfl (by omega) (by omega) kR kC s4 (by omega)
  rw [e5]
  simp only [Option.bind_some]
  obtain ⟨z, m6, e6, z1, s6⟩ := entries_ok (r := 1 + a) (c := 2 + b) rfl rfl (by omega) (by omega) kR kC s5 (by omega)
  rw [e6]
  refine ⟨_, _, rfl, ?_, by dsimp only; omega, by dsimp only; omega, s6.mono (by omega)⟩
  unfold sysB
  dsimp only
  rw [x1, y1, z1, decide_eq_true (by omega), decide_eq_true (by omega), decide_eq_true (by omega)]; rfl
theorem SystemDrawn_ok {code : List UInt8} (h : code.length ≤ 1048576) : ∃ s, s_SystemDrawn code = some s ∧ sysB s = true ∧ s.Rows ≤ 2 ∧ s.Cols ≤ 3 := by
  unfold s_SystemDrawn
  obtain ⟨m, e1, s1⟩ := source_ok h
  rw [e1]
  simp only [Option.bind_some]
  obtain ⟨s, m', e2, h1, h2, h3, _⟩ := system_ok s1 (by decide)
  rw [e2]
  exact ⟨s, rfl, h1, h2, h3⟩
end Go.AI.Fn

set_option linter.unusedVariables false
set_option linter.unusedSimpArgs false
namespace Go.AI.Fn

theorem isP_pow : ∀ k : Nat, k ≤ 9 → isP (2 ^ k) = true := by decide
theorem powB_two {k : Nat} {most : Int} (h : k ≤ 9) (hm : ((2 ^ k : Nat) : Int) ≤ most) : powB ((2 ^ k : Nat) : Int) most = true := by
  have : 1 ≤ 2 ^ k := Nat.one_le_two_pow
  unfold powB
  rw [decide_eq_true (by omega), decide_eq_true hm, Int.toNat_natCast, isP_pow k h]; rfl
theorem i_TableOK_eq {l : List Ext} (hl : l.length ≤ 1099511627776) : i_TableOK l = some (powB (l.length : Int) 64 && l.all okEb) := by
  unfold i_TableOK
  rw [i_isPower_eq (by decide), Option.bind_some, i_areE_eq hl]
  cases powB (l.length : Int) 64 <;> rfl
theorem i_isPoint_eq {l : List Ext} (hl : l.length ≤ 1099511627776) : i_isPoint l = some (decide (l.length ≤ 6) && l.all okEb) := by
  unfold i_isPoint
  rw [i_areE_eq hl]
  by_cases h : l.length ≤ 6
  · rw [brd (by omega), decide_eq_true h]; rfl
  · rw [brn (by omega), decide_eq_false h]; rfl
theorem i_TableAt_ok {t p : List Ext} (ht : OkEs t) (hp : OkEs p) (hn : p.length ≤ 6) (hl : t.length = 2 ^ p.length) : i_TableAt t p = some (dotM t (eqT p), 0) := by
  have h6 := pow2_6 p.length hn
  unfold i_TableAt
  rw [brn (by omega), brn (by omega), i_TableOK_eq (by omega), Option.bind_some, i_isPoint_eq (by omega), allE.2 ht, allE.2 hp, hl, powB_two (by omega) (by omega), decide_eq_true hn]
  simp only [Bool.and_self, Bool.not_true, br_false, Option.bind_some]
  rw [brd (by omega), shl1 (by omega), brbe rfl, i_eqTable_eq hp hn, Option.bind_some, i_dot_eq ht (eqT_ok _) (by rw [eqT_len]; omega) (by omega), Option.bind_some]

theorem fields_ok {B n : Int} {m : l00Src} (h : Src B m) (hn0 : 0 ≤ n) (hn1 : n ≤ 1048576) (hB : B + 40 * n < Big) : ∃ l m', s_l00Src_fields n m = some (l, m') ∧ (l.length : Int) = n ∧ (∀ x ∈ l, okF x) ∧ Src (B + 40 * n) m' := by
  unfold s_l00Src_fields
  have key := Loop_inv (step := s_l00Src_fields_1_s n)
    (fun s => (s.1.length : Int) = s.2.1 ∧ (∀ x ∈ s.1, okF x) ∧ s.2.1 ≤ n ∧ Src (B + 40 * s.2.1) ⟨s.2.2.1, s.2.2.2.1, s.2.2.2.2⟩) (fun s => (n - s.2.1).toNat)
    (fun e => (e.1.length : Int) = n ∧ (∀ x ∈ e.1, okF x) ∧ Src (B + 40 * n) ⟨e.2.2.2.1, e.2.2.2.2.1, e.2.2.2.2.2⟩) ?_ (([] : List Int), (0 : Int), m.code, m.at_, m.seed) ⟨by simp, by simp, by dsimp only; omega, h.mono (by first | omega | (dsimp only; omega))⟩
  · obtain ⟨e, he, h1, h2, h3⟩ := key
    rw [he]
    exact ⟨_, _, rfl, h1, h2, h3⟩
  · rintro ⟨l, i, c, c2, c3⟩ ⟨hl, ha, i1, hs⟩
    dsimp only at hl ha i1 hs
    by_cases hi : i < n
    · left
      obtain ⟨y, m2, e2, y0, s2⟩ := field_ok hs (by omega)
      simp only [s_l00Src_fields_1_s]
      rw [brd hi, e2]
      simp only [Option.bind_some]
      rw [br_of (fits_of (by simp only [List.length_append, List.length_cons, List.length_nil]; omega)), wrap_i64 (i + 1) (by omega) (by omega)]
      refine ⟨_, rfl, ⟨?_, ?_, ?_, s2.mono ?_⟩, ?_⟩
      · simp only [List.length_append, List.length_cons, List.length_nil]; omega
      · intro x hx
        rcases List.mem_append.1 hx with hx | hx
        · exact ha x hx
        · rw [List.mem_singleton] at hx; subst hx; exact y0
      all_goals dsimp only; omega
    · right
      simp only [s_l00Src_fields_1_s]
      rw [brn hi]
      exact ⟨_, rfl, by dsimp only; omega, ha, hs.mono (by first | omega | (dsimp only; omega))⟩

theorem NumbersOf_ok {code : List UInt8} {n : Int} (h : code.length ≤ 1048576) (hn0 : 0 ≤ n) (hn1 : n ≤ 1048576) : ∃ l, s_NumbersOf code n = some l ∧ (l.length : Int) = n ∧ ∀ x ∈ l, okF x := by
  unfold s_NumbersOf
  obtain ⟨m, e1, s1⟩ := source_ok h
  rw [e1]
  simp only [Option.bind_some]
  obtain ⟨l, m2, e2, h1, h2, _⟩ := fields_ok (n := n) s1 hn0 hn1 (by simp only [Big]; omega)
  rw [e2]
  exact ⟨_, rfl, h1, h2⟩
end Go.AI.Fn

set_option linter.unusedVariables false
namespace Go.AI.Fn
theorem pub_loop {t : List Ext} {z : List Int} {c c2 c3 c7 c8 : Int} {A B C : List Entry} {h : Nat} (hz : z.length = 2 * h) (hb : h ≤ 1000000) :
    Loop (w_FnPublic_1_s t z c c2 c3 A B C c7 c8) ([], 0) = some ((z.take h).map eN, (h : Int), false) := by
  have e : IntKind.wrap .i64 ((((z.length : Nat) : Int)).tdiv 2) = (h : Int) := by
    rw [tdiv_nn _ _ (by omega), wrap_i64 _ (by omega) (by omega)]; omega
  have key := Loop_for (step := w_FnPublic_1_s t z c c2 c3 A B C c7 c8) (fun k => (((z.take h).take k).map eN, (k : Int))) h (e := ((z.take h).map eN, (h : Int), false)) (fun k hk => by
    have hk' : k < (z.take h).length := by rw [List.length_take]; omega
    simp only [w_FnPublic_1_s, e]
    rw [brd (by omega), atL_nat (by omega), Option.bind_some, br_fits (by simp only [List.length_append, List.length_map, List.length_take, List.length_singleton]; omega), wrap_i64 _ (by omega) (by omega), take_succ hk', List.map_append, List.getElem_take]
    rfl) (by
    simp only [w_FnPublic_1_s, e]
    rw [brn (by omega), decide_eq_false (by omega), List.take_of_length_le (by rw [List.length_take]; omega)])
  exact key
theorem law_FnPublic (a b : List UInt8) (ha : bdL bdT a) (hb : bdL bdT b) : w_FnPublic a b = some true := by
  unfold w_FnPublic
  by_cases c1 : ((a.length : Nat) : Int) > 1048576
  · rw [brd c1]
  rw [brn c1]
  by_cases c2 : ((b.length : Nat) : Int) > 1048576
  · rw [brd c2]
  rw [brn c2]
  obtain ⟨s, e1, hs, r2, r3⟩ := SystemDrawn_ok (code := a) (by omega)
  obtain ⟨d1, d2, d3⟩ := cols_pos hs
  obtain ⟨g1, g2⟩ := sys_pub hs
  obtain ⟨_, _, _, hA, hB, hC⟩ := sysB_in hs
  have hh := two_half hs
  have hbd := pow2_5 s.Cols.toNat d2
  obtain ⟨pub, e2, p0, p1⟩ := NumbersOf_ok (code := b) (n := s.Publics) (by omega) g1 (by omega)
  have hf : OkFs pub := p1
  have e0 : IntKind.wrap .i64 (s.Cols - 1) = s.Cols - 1 := wrap_i64 _ (by omega) (by omega)
  obtain ⟨pt, e3, q0, q1⟩ := ExtsOf_ok (code := b) (n := s.Cols - 1) (by omega) (by omega) (by omega)
  have hp : OkEs pt := q1
  rw [e1, Option.bind_some, e2, Option.bind_some, e0, e3, Option.bind_some, i_PublicAt_eq (by omega) (by omega) (by omega), Option.bind_some]
  have hpa : pubA s pub pt = (pubM s pub pt, 0) := by
    unfold pubA
    rw [if_neg (by omega), if_neg (by omega), if_neg (by simp [hs]), if_neg (by simp [allF.2 hf]), if_neg (by simp [allE.2 hp]), if_neg (by omega), if_neg (by omega)]
  have hvl := vecM_len (h := halfN s) (n := 2 ^ s.Cols.toNat) (pub := pub) (priv := []) (by omega) (by simp) (by omega)
  have hv : i_VectorOf s pub [] = some (vecM (halfN s) (2 ^ s.Cols.toNat) pub [], 0) := by
    unfold i_VectorOf
    rw [brn (by omega), brn (by simp), i_SystemOK_eq (by omega) (by omega) (by omega), Option.bind_some, hs, Bool.not_true, br_false, i_areF_eq (by omega), Option.bind_some, allF.2 hf, Bool.not_true, br_false,
      i_areF_eq (by simp), Option.bind_some, allF.2 (fun x hx => by cases hx), Bool.not_true, br_false, brbe (by omega), i_half_eq hs, Option.bind_some, brn (by simp), i_vector_eq hs (by omega) (by simp), Option.bind_some]
  rw [hpa, hv, Option.bind_some]
  dsimp only
  rw [brbe rfl, brbe rfl, wrap_u64 s.Cols (by omega) (by omega), brd (by omega)]
  have e5 : shl64 .i64 1 s.Cols = ((2 ^ s.Cols.toNat : Nat) : Int) := by rw [d3, shl1 (by omega), ← d3]
  rw [e5, hvl, brbe rfl, pub_loop (h := halfN s) (by omega) (by omega), Option.bind_some]
  dsimp only
  have hz : OkFs (vecM (halfN s) (2 ^ s.Cols.toNat) pub []) := vec_okF hf (fun x hx => by cases hx)
  have ht : OkEs (((vecM (halfN s) (2 ^ s.Cols.toNat) pub []).take (halfN s)).map eN) := eN_map_ok fun x hx => hz x (List.mem_of_mem_take hx)
  have htl : (((vecM (halfN s) (2 ^ s.Cols.toNat) pub []).take (halfN s)).map eN).length = halfN s := by rw [List.length_map, List.length_take]; omega
  have hpl : pt.length = s.Cols.toNat - 1 := by omega
  have hq : 2 ^ pt.length = halfN s := by rw [hpl]; rfl
  rw [i_TableAt_ok ht hp (by omega) (by omega), Option.bind_some]
  have e6 : dotM (((vecM (halfN s) (2 ^ s.Cols.toNat) pub []).take (halfN s)).map eN) (eqT pt) = pubM s pub pt := rfl
  rw [e6]
  dsimp only
  rw [bre rfl, bre rfl, bre rfl]
end Go.AI.Fn
