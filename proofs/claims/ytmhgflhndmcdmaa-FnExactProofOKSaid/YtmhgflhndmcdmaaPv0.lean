/- Plain laws for printed functions: loops whose states are told in advance; numbers; places. -/
import Derived.Test.YtmhgflhndmcdmaaAiW
import Derived.Test.YtmhgflhndmcdmaaFx0
import Derived.KernelRfl
set_option linter.unusedVariables false
namespace Go.AI

theorem Loop_inl {S E : Type} {step : S → Option (S ⊕ E)} {s s' : S} (h : step s = some (.inl s')) : Loop step s = Loop step s' := by rw [Loop_eq, h]; rfl
theorem Loop_inr {S E : Type} {step : S → Option (S ⊕ E)} {s : S} {e : E} (h : step s = some (.inr e)) : Loop step s = some e := by rw [Loop_eq, h]; rfl
/-- A loop that goes through states that are told. -/
theorem Loop_for {S E : Type} {step : S → Option (S ⊕ E)} (F : Nat → S) (n : Nat) {e : E} (hs : ∀ k, k < n → step (F k) = some (.inl (F (k + 1)))) (he : step (F n) = some (.inr e)) : Loop step (F 0) = some e := by
  have key : ∀ m k, k + m = n → Loop step (F k) = some e := by
    intro m
    induction m with
    | zero => intro k hk; have : k = n := by omega
              subst this; exact Loop_inr he
    | succ m ih => intro k hk; rw [Loop_inl (hs k (by omega))]; exact ih (k + 1) (by omega)
  exact key n 0 (by omega)
/-- The first place where something fails. -/
theorem first_bad (P : Nat → Bool) : ∀ n, (∀ k, k < n → P k = true) ∨ ∃ k, k < n ∧ P k = false ∧ ∀ j, j < k → P j = true
  | 0 => .inl (by omega)
  | n + 1 => by
    rcases first_bad P n with h | ⟨k, hk, h1, h2⟩
    · cases hn : P n
      · exact .inr ⟨n, by omega, hn, h⟩
      · refine .inl fun k hk => ?_
        by_cases e : k = n
        · subst e; exact hn
        · exact h k (by omega)
    · exact .inr ⟨k, by omega, h1, h2⟩
/-- A loop that goes on as long as something holds. -/
theorem Loop_all {S E : Type} {step : S → Option (S ⊕ E)} (F : Nat → S) (n : Nat) (P : Nat → Bool) (x : Nat → E) {e : E} (hs : ∀ k, k < n → P k = true → step (F k) = some (.inl (F (k + 1))))
    (hx : ∀ k, k < n → P k = false → step (F k) = some (.inr (x k))) (he : step (F n) = some (.inr e)) :
    ((∀ k, k < n → P k = true) ∧ Loop step (F 0) = some e) ∨ ∃ k, k < n ∧ P k = false ∧ (∀ j, j < k → P j = true) ∧ Loop step (F 0) = some (x k) := by
  rcases first_bad P n with h | ⟨k, hk, h1, h2⟩
  · exact .inl ⟨h, Loop_for F n (fun k hk => hs k hk (h k hk)) he⟩
  · exact .inr ⟨k, hk, h1, h2, Loop_for F k (fun j hj => hs j (by omega) (h2 j hj)) (hx k hk h1)⟩
/-- A loop with an invariant, a measure, a postcondition. -/
theorem Loop_inv {S E : Type} {step : S → Option (S ⊕ E)} (Inv : S → Prop) (me : S → Nat) (Post : E → Prop)
    (hs : ∀ s, Inv s → (∃ s', step s = some (.inl s') ∧ Inv s' ∧ me s' < me s) ∨ (∃ e, step s = some (.inr e) ∧ Post e)) :
    ∀ s, Inv s → ∃ e, Loop step s = some e ∧ Post e := by
  intro s
  generalize hm : me s = m
  induction m using Nat.strongRecOn generalizing s with
  | _ m ih =>
    intro hi
    rw [Loop_eq]
    rcases hs s hi with ⟨s', h1, h2, h3⟩ | ⟨e, h1, h2⟩
    · rw [h1]; exact ih (me s') (by omega) s' rfl h2
    · rw [h1]; exact ⟨e, rfl, h2⟩

theorem br_of {α : Type} {c : Bool} {x y : α} (h : c = true) : br c x y = x := by subst h; rfl
theorem br_no {α : Type} {c : Bool} {x y : α} (h : c = false) : br c x y = y := by subst h; rfl
theorem brd {α : Type} {p : Prop} [Decidable p] {x y : α} (h : p) : br (decide p) x y = x := br_of (decide_eq_true h)
theorem brn {α : Type} {p : Prop} [Decidable p] {x y : α} (h : ¬p) : br (decide p) x y = y := br_no (decide_eq_false h)
theorem bre {α : Type} {a b : Int} {x y : α} (h : a = b) : br (a == b) x y = x := br_of (by simp [h])
theorem brne {α : Type} {a b : Int} {x y : α} (h : a ≠ b) : br (a == b) x y = y := br_no (by simp [h])
theorem brb {α : Type} {a b : Int} {x y : α} (h : a ≠ b) : br (a != b) x y = x := br_of (by simp [h])
theorem brbe {α : Type} {a b : Int} {x y : α} (h : a = b) : br (a != b) x y = y := br_no (by simp [h])
theorem notd {α : Type} {p : Prop} [Decidable p] {x y : α} (h : p) : br (!decide p) x y = y := br_no (by simp [h])
theorem notn {α : Type} {p : Prop} [Decidable p] {x y : α} (h : ¬p) : br (!decide p) x y = x := br_of (by simp [h])
theorem tdiv_nn (a b : Int) (h : 0 ≤ a) : a.tdiv b = a / b := Int.tdiv_eq_ediv_of_nonneg h
theorem fits_of {n b : Nat} (h : n * b ≤ 1099511627776) : fits n b = true := by simp [fits, okBound, h]
theorem br_fits {α : Type} {n b : Nat} {x y : α} (h : n * b ≤ 1099511627776) : br (fits n b) x y = x := br_of (fits_of h)
theorem mkOK_of {l c : Int} {b : Nat} (h0 : 0 ≤ l) (h1 : l ≤ c) (h2 : c * b ≤ 1099511627776) : mkOK l c b = true := by simp [mkOK, okBound, h0, h1, h2]
theorem br_mk {α : Type} {l c : Int} {b : Nat} {x y : α} (h0 : 0 ≤ l) (h1 : l ≤ c) (h2 : c * b ≤ 1099511627776) : br (mkOK l c b) x y = x := br_of (mkOK_of h0 h1 h2)

theorem atL_get {α : Type} {l : List α} {i : Int} (h0 : 0 ≤ i) {x : α} (h : l[i.toNat]? = some x) : atL l i = some x := by simp [atL, h0, h]
theorem atL_nat {α : Type} {l : List α} {k : Nat} (h : k < l.length) : atL l (k : Int) = some l[k] := by simp [atL, h]
theorem get_some {α : Type} {l : List α} {i : Nat} (h : i < l.length) : l[i]? = some l[i] := List.getElem?_eq_getElem h
theorem atL_of {α : Type} {l : List α} {i : Int} (h0 : 0 ≤ i) (h1 : i < l.length) : ∃ x, atL l i = some x ∧ l[i.toNat]? = some x ∧ x ∈ l := by
  have h : i.toNat < l.length := by omega
  exact ⟨l[i.toNat], by simp [atL, h0, h], by simp [h], List.getElem_mem h⟩
theorem drop_cons {α : Type} {l : List α} {i : Nat} (h : i < l.length) : ∃ x r, l.drop i = x :: r ∧ l.drop (i + 1) = r ∧ l[i]? = some x :=
  ⟨l[i], l.drop (i + 1), List.drop_eq_getElem_cons h, rfl, by simp [h]⟩
theorem take_succ {α : Type} {l : List α} {k : Nat} (h : k < l.length) : l.take (k + 1) = l.take k ++ [l[k]] := by rw [List.take_succ_eq_append_getElem h]
theorem cast_succ (k : Nat) : ((k + 1 : Nat) : Int) = (k : Int) + 1 := by omega
/-- A state that is turned step by step. -/
def iU {α : Type} (f : Nat → α → α) : Nat → α → α
  | 0, l => l
  | k + 1, l => f k (iU f k l)
end Go.AI

set_option linter.unusedVariables false
set_option linter.unusedSimpArgs false
namespace Go.AI.Fn

abbrev xo (a b : Int) : Int := xor64 .u64 a b
/-- Turned left. -/
def rot (x s : Int) : Int := if s = 0 then x else or64 .u64 (shl64 .u64 x s) (shr64 .u64 x (64 - s))
end Go.AI.Fn

set_option linter.unusedVariables false
set_option linter.unusedSimpArgs false
namespace Go.AI.Fn

abbrev g (l : List Int) (i : Int) : Int := l.getD i.toNat 0

def shiftL : List Int := [0, 1, 62, 28, 27, 36, 44, 6, 55, 20, 3, 10, 43, 25, 39, 41, 45, 15, 21, 8, 18, 2, 61, 56, 14]
def p2 (m : List Int) (k : Nat) (l : List Int) : List Int := l.set ((k : Int) % 5).toNat (xo (g l ((k : Int) % 5)) (g m k))
def p3 (m c : List Int) (k : Nat) (l : List Int) : List Int :=
  l.set ((k : Int) / 5 + 5 * ((2 * ((k : Int) % 5) + 3 * ((k : Int) / 5)) % 5)).toNat (rot (xo (g m k) (xo (g c (((k : Int) % 5 + 4) % 5)) (rot (g c (((k : Int) % 5 + 1) % 5)) 1))) (g shiftL k))
def p4 (b : List Int) (k : Nat) (l : List Int) : List Int :=
  l.set k (xo (g b k) (andn64 .u64 (g b ((k : Int) - (k : Int) % 5 + ((k : Int) % 5 + 2) % 5)) (g b ((k : Int) - (k : Int) % 5 + ((k : Int) % 5 + 1) % 5))))
-- the reference
/-- One round, as the program and as the reference do it. -/
def roundP (m : List Int) (rc : Int) : List Int :=
  let c := iU (p2 m) 25 (nZ 5)
  let b := iU (p3 m c) 25 (nZ 25)
  let r := iU (p4 b) 25 m
  r.set 0 (xo (r.getD 0 0) rc)
end Go.AI.Fn

set_option linter.unusedVariables false
set_option linter.unusedSimpArgs false
namespace Go.AI.Fn

end Go.AI.Fn

set_option linter.unusedVariables false
set_option linter.unusedSimpArgs false
set_option maxRecDepth 10000
namespace Go.AI.Fn

def rcL : List Int := [1, 32898, 9223372036854808714, 9223372039002292224, 32907, 2147483649, 9223372039002292353, 9223372036854808585, 138, 136, 2147516425, 2147483658, 2147516555, 9223372036854775947, 9223372036854808713, 9223372036854808579, 9223372036854808578, 9223372036854775936, 32778, 9223372039002259466, 9223372039002292353, 9223372036854808704, 2147483649, 9223372039002292232]
def rdP (k : Nat) (m : List Int) : List Int := roundP m (rcL.getD k 0)
/-- The permutation. -/
def permM (m : List Int) : List Int := iU rdP 24 m
def lnS (t : List UInt8) (k : Nat) (l : List Int) : List Int := l.set ((k : Int) / 8).toNat (or64 .u64 (g l ((k : Int) / 8)) (shl64 .u64 (IntKind.wrap .u64 ((t.getD k 0).toNat : Int)) (8 * ((k : Int) % 8))))
/-- The lanes that bytes are. -/
def lanesM (t : List UInt8) : List Int := iU (lnS t) t.length (nZ 25)
def txB (m : List Int) (i : Nat) : UInt8 := UInt8.ofInt (shr64 .u64 (g m ((i : Int) / 8)) (8 * ((i : Int) % 8)))
def textM (m : List Int) (n : Nat) : List UInt8 := (List.range n).map (txB m)
theorem textM_len (m : List Int) (n : Nat) : (textM m n).length = n := by simp [textM]
end Go.AI.Fn

set_option linter.unusedVariables false
set_option linter.unusedSimpArgs false
namespace Go.AI.Fn

def xoS (t : List Int) (k : Nat) (l : List Int) : List Int := l.set k (xo (g l k) (g t k))
def xorM (t m : List Int) : List Int := iU (xoS t) 25 m
/-- One block taken in. -/
def absB (a : List UInt8) (k : Nat) (m : List Int) : List Int := permM (xorM (lanesM ((a.drop (136 * k)).take 136)) m)
def absM (a : List UInt8) (n : Nat) : List Int := iU (absB a) n (nZ 25)
/-- Noughts behind a text, up to a whole number of blocks. -/
def padZ (l : List UInt8) : List UInt8 := l ++ List.replicate ((136 - l.length % 136) % 136) 0
/-- The last byte's highest bit, set too. -/
def padM (b : List UInt8) : List UInt8 := (padZ (b ++ [1])).set ((padZ (b ++ [1])).length - 1) (UInt8.ofInt (or64 .u8 (((padZ (b ++ [1])).getD ((padZ (b ++ [1])).length - 1) 0).toNat : Int) 128))
/-- The hash. -/
def H (b : List UInt8) : List UInt8 := textM (absM (padM b) ((b.length + 136) / 136)) 32
theorem H_len (b : List UInt8) : (H b).length = 32 := textM_len _ _
end Go.AI.Fn

set_option linter.unusedVariables false
set_option linter.unusedSimpArgs false
namespace Go.AI.Fn

def okF (a : Int) : Prop := 0 ≤ a ∧ a ≤ 2130706432
def okE (x : Ext) : Prop := okF x.A ∧ okF x.B
def okFb (a : Int) : Bool := decide (0 ≤ a) && decide (a ≤ 2130706432)
def okEb (x : Ext) : Bool := okFb x.A && okFb x.B
def eA (x y : Ext) : Ext := ⟨(x.A + y.A) % 2130706433, (x.B + y.B) % 2130706433⟩
def eS (x y : Ext) : Ext := ⟨(x.A - y.A) % 2130706433, (x.B - y.B) % 2130706433⟩
def eM (x y : Ext) : Ext := ⟨(x.A * y.A + 3 * (x.B * y.B)) % 2130706433, (x.A * y.B + x.B * y.A) % 2130706433⟩
def e0 : Ext := ⟨0, 0⟩
def e1 : Ext := ⟨1, 0⟩
def eN (n : Int) : Ext := ⟨n, 0⟩

theorem okF0 : okF 0 := ⟨by decide, by decide⟩
theorem okF_mod (a : Int) : okF (a % 2130706433) := ⟨by omega, by omega⟩
theorem eA_ok (x y : Ext) : okE (eA x y) := ⟨okF_mod _, okF_mod _⟩
theorem eS_ok (x y : Ext) : okE (eS x y) := ⟨okF_mod _, okF_mod _⟩
theorem eM_ok (x y : Ext) : okE (eM x y) := ⟨okF_mod _, okF_mod _⟩
theorem e0_ok : okE e0 := ⟨⟨by decide, by decide⟩, ⟨by decide, by decide⟩⟩
theorem eN_ok {n : Int} (h : okF n) : okE (eN n) := ⟨h, okF0⟩

theorem mod_self {a : Int} (h : okF a) : a % 2130706433 = a := by obtain ⟨h1, h2⟩ := h; omega

/-! ### remainders of remainders -/
theorem ext_eq {x y : Ext} (h1 : x.A = y.A) (h2 : x.B = y.B) : x = y := by cases x; cases y; cases h1; cases h2; rfl
theorem mA1 (a b : Int) : (a % 2130706433 + b) % 2130706433 = (a + b) % 2130706433 := Int.emod_add_emod _ _ _
theorem mA2 (a b : Int) : (a + b % 2130706433) % 2130706433 = (a + b) % 2130706433 := Int.add_emod_emod _ _ _
theorem mS1 (a b : Int) : (a % 2130706433 - b) % 2130706433 = (a - b) % 2130706433 := Int.emod_sub_emod _ _ _
theorem mS2 (a b : Int) : (a - b % 2130706433) % 2130706433 = (a - b) % 2130706433 := Int.sub_emod_emod _ _ _
theorem mM1 (a b : Int) : (a % 2130706433 * b) % 2130706433 = (a * b) % 2130706433 := by rw [Int.mul_emod, Int.emod_emod, ← Int.mul_emod]
theorem mM2 (a b : Int) : (a * (b % 2130706433)) % 2130706433 = (a * b) % 2130706433 := by rw [Int.mul_emod, Int.emod_emod, ← Int.mul_emod]
theorem mX1 (a b c : Int) : (a % 2130706433 * b + c) % 2130706433 = (a * b + c) % 2130706433 := by rw [← mA1, mM1, mA1]
theorem mX2 (a b c : Int) : (a * (b % 2130706433) + c) % 2130706433 = (a * b + c) % 2130706433 := by rw [← mA1, mM2, mA1]
theorem mX3 (a b c : Int) : (c + a % 2130706433 * b) % 2130706433 = (c + a * b) % 2130706433 := by rw [← mA2, mM1, mA2]
theorem mX4 (a b c : Int) : (c + a * (b % 2130706433)) % 2130706433 = (c + a * b) % 2130706433 := by rw [← mA2, mM2, mA2]
theorem mX5 (a b c d : Int) : (c + d * (a % 2130706433 * b)) % 2130706433 = (c + d * (a * b)) % 2130706433 := by rw [← mX4, mM1, mX4]
theorem mX6 (a b c d : Int) : (c + d * (a * (b % 2130706433))) % 2130706433 = (c + d * (a * b)) % 2130706433 := by rw [← mX4, mM2, mX4]
/-! ### the program -/
theorem i_in_eq (n a b : Int) : i_in n a b = some (decide (a ≤ n) && decide (n ≤ b)) := by
  unfold i_in; cases decide (a ≤ n) <;> rfl
theorem i_FieldOK_eq (a : Int) : i_FieldOK a = some (okFb a) := by
  unfold i_FieldOK; rw [i_in_eq]; rfl
theorem i_ExtOK_eq (x : Ext) : i_ExtOK x = some (okEb x) := by
  unfold i_ExtOK okEb; rw [i_FieldOK_eq, i_FieldOK_eq]; cases okFb x.A <;> rfl
/-! ### the reference -/
theorem s_in_eq (n a b : Int) : s_l01In n a b = some (decide (a ≤ n) && decide (n ≤ b)) := by
  unfold s_l01In; cases decide (a ≤ n) <;> rfl
theorem s_FieldOK_eq (a : Int) : s_FieldOK a = some (okFb a) := by
  unfold s_FieldOK; rw [s_in_eq]; rfl
theorem s_ExtOK_eq (x : Ext) : s_ExtOK x = some (okEb x) := by
  unfold s_ExtOK okEb; rw [s_FieldOK_eq, s_FieldOK_eq]; cases okFb x.A <;> rfl

/-! ### laws -/
theorem eA_comm (x y : Ext) : eA x y = eA y x := by
  unfold eA; rw [Int.add_comm, Int.add_comm x.B]
theorem eM_comm (x y : Ext) : eM x y = eM y x := by
  apply ext_eq <;> (simp only [eM]; congr 1; grind)
theorem eA_assoc (x y z : Ext) : eA (eA x y) z = eA x (eA y z) := by
  apply ext_eq <;> (simp only [eA, mA1, mA2]; congr 1; grind)
theorem eM_assoc (x y z : Ext) : eM (eM x y) z = eM x (eM y z) := by
  apply ext_eq <;> (simp only [eM, mA1, mA2, mS1, mS2, mM1, mM2, mX1, mX2, mX3, mX4, mX5, mX6]; congr 1; grind)
theorem eM_add (x y z : Ext) : eM x (eA y z) = eA (eM x y) (eM x z) := by
  apply ext_eq <;> (simp only [eA, eM, mA1, mA2, mS1, mS2, mM1, mM2, mX1, mX2, mX3, mX4, mX5, mX6]; congr 1; grind)
theorem eM_sub (x y z : Ext) : eM x (eS y z) = eS (eM x y) (eM x z) := by
  apply ext_eq <;> (simp only [eS, eM, mA1, mA2, mS1, mS2, mM1, mM2, mX1, mX2, mX3, mX4, mX5, mX6]; congr 1; grind)
theorem add_eM (x y z : Ext) : eM (eA y z) x = eA (eM y x) (eM z x) := by rw [eM_comm, eM_add, eM_comm x, eM_comm x]
theorem sub_eM (x y z : Ext) : eM (eS y z) x = eS (eM y x) (eM z x) := by rw [eM_comm, eM_sub, eM_comm x, eM_comm x]
theorem e0_add {x : Ext} (h : okE x) : eA e0 x = x := by
  apply ext_eq <;> simp only [eA, e0, Int.zero_add, mod_self h.1, mod_self h.2]
theorem add_e0 {x : Ext} (h : okE x) : eA x e0 = x := by rw [eA_comm, e0_add h]
theorem e1_mul {x : Ext} (h : okE x) : eM e1 x = x := by
  apply ext_eq <;> simp only [eM, e1, Int.one_mul, Int.zero_mul, Int.mul_zero, Int.add_zero, mod_self h.1, mod_self h.2]
theorem mul_e1 {x : Ext} (h : okE x) : eM x e1 = x := by rw [eM_comm, e1_mul h]
theorem e0_mul (x : Ext) : eM e0 x = e0 := by
  apply ext_eq <;> simp [eM, e0]
theorem mul_e0 (x : Ext) : eM x e0 = e0 := by rw [eM_comm, e0_mul]
theorem sub_add (x y : Ext) (h : okE x) : eA (eS x y) y = x := by
  have h1 := mod_self h.1
  have h2 := mod_self h.2
  apply ext_eq
  · simp only [eA, eS, mA1]; rw [show x.A - y.A + y.A = x.A by grind, h1]
  · simp only [eA, eS, mA1]; rw [show x.B - y.B + y.B = x.B by grind, h2]
end Go.AI.Fn

set_option linter.unusedVariables false
namespace Go.AI.Fn

structure Src (B : Int) (m : l00Src) : Prop where
  at0 : 0 ≤ m.at_
  at1 : m.at_ ≤ B
  sd0 : 0 ≤ m.seed
  sd1 : m.seed < 2147483648
  len : m.code.length ≤ 1048600
end Go.AI.Fn

set_option linter.unusedVariables false
namespace Go.AI.Fn
end Go.AI.Fn

set_option linter.unusedVariables false
namespace Go.AI.Fn

def four (n : Int) : List UInt8 := [UInt8.ofInt (shr64 .i64 n 24), UInt8.ofInt (shr64 .i64 n 16), UInt8.ofInt (shr64 .i64 n 8), UInt8.ofInt n]
end Go.AI.Fn

set_option linter.unusedVariables false
set_option linter.unusedSimpArgs false
namespace Go.AI.Fn

/-! ### powers of two -/
end Go.AI.Fn

set_option linter.unusedVariables false
set_option linter.unusedSimpArgs false
namespace Go.AI.Fn

/-! ### shapes of loops -/
theorem any_of_bad {α : Type} {p : α → Bool} {l : List α} {k : Nat} (hk : k < l.length) (h : p l[k] = true) : l.any p = true := List.any_eq_true.2 ⟨l[k], List.getElem_mem hk, h⟩
theorem none_of {α : Type} {p : α → Bool} {l : List α} (h : ∀ k (hk : k < l.length), p l[k] = false) : l.any p = false := by
  rw [List.any_eq_false]
  intro x hx
  obtain ⟨k, hk, rfl⟩ := List.getElem_of_mem hx
  simp [h k hk]
/-- 'the first place where something holds', as the library's IndexFunc and ContainsFunc look for it. -/
theorem contains_gen {α : Type} {p : α → Bool} {f : α → Option Bool} {l : List α} (hl : l.length ≤ 1099511627776) (hf : ∀ x ∈ l, f x = some (p x)) {step : Int → Option (Int ⊕ (Int ⊕ (Int × Bool)))}
    (hs : ∀ t, step t = br (decide (t < ((l.length : Nat) : Int))) ((atL l t).bind fun x => (f x).bind fun r => br r (some (.inr (.inl t))) (some (.inl (IntKind.wrap .i64 (t + 1))))) (some (.inr (.inr (t, decide (t < ((l.length : Nat) : Int))))))) :
    ((Loop step 0).bind (alt (fun e => some e) (fun _ => some (-1)))).bind (fun r => some (decide (r ≥ 0))) = some (l.any p) := by
  have key := Loop_all (step := step) (fun k => (k : Int)) l.length (fun k => !((l[k]?.map p).getD false)) (fun k => .inl (k : Int)) (e := .inr ((l.length : Int), false)) (fun k hk hp => by
      have hb : p l[k] = false := by simpa [hk] using hp
      rw [hs, brd (by omega), atL_nat hk, Option.bind_some, hf _ (List.getElem_mem hk), Option.bind_some, hb, br_false, wrap_i64 _ (by omega) (by omega)]; rfl)
    (fun k hk hp => by
      have hb : p l[k] = true := by simpa [hk] using hp
      rw [hs, brd (by omega), atL_nat hk, Option.bind_some, hf _ (List.getElem_mem hk), Option.bind_some, hb, br_true])
    (by rw [hs, brn (by omega), decide_eq_false (by omega)])
  rcases key with ⟨h1, h2⟩ | ⟨k, hk, h1, _, h2⟩
  · have e : Loop step 0 = some (.inr ((l.length : Int), false)) := h2
    rw [e, none_of (fun k hk => by simpa [hk] using h1 k hk)]; rfl
  · have e : Loop step 0 = some (.inl (k : Int)) := h2
    rw [e, any_of_bad hk (by simpa [hk] using h1)]
    simp only [Option.bind_some, alt_inl]
    rw [decide_eq_true (by omega)]
/-- 'false at the first that is not right'. -/
theorem all_gen {α : Type} {p : α → Bool} {f : α → Option Bool} {l : List α} (hl : l.length ≤ 1099511627776) (hf : ∀ x ∈ l, f x = some (p x)) {step : Int → Option (Int ⊕ (Unit ⊕ (Int × Bool)))}
    (hs : ∀ t, step t = br (decide (t < ((l.length : Nat) : Int))) ((atL l t).bind fun x => (f x).bind fun r => br (!r) (some (.inr (.inl ()))) (some (.inl (IntKind.wrap .i64 (t + 1))))) (some (.inr (.inr (t, decide (t < ((l.length : Nat) : Int))))))) :
    (Loop step 0).bind (alt (fun _ => some false) (fun _ => some true)) = some (l.all p) := by
  have key := Loop_all (step := step) (fun k => (k : Int)) l.length (fun k => ((l[k]?.map p).getD false)) (fun k => .inl ()) (e := .inr ((l.length : Int), false)) (fun k hk hp => by
      have hb : p l[k] = true := by simpa [hk] using hp
      rw [hs, brd (by omega), atL_nat hk, Option.bind_some, hf _ (List.getElem_mem hk), Option.bind_some, hb, Bool.not_true, br_false, wrap_i64 _ (by omega) (by omega)]; rfl)
    (fun k hk hp => by
      have hb : p l[k] = false := by simpa [hk] using hp
      rw [hs, brd (by omega), atL_nat hk, Option.bind_some, hf _ (List.getElem_mem hk), Option.bind_some, hb, Bool.not_false, br_true])
    (by rw [hs, brn (by omega), decide_eq_false (by omega)])
  rcases key with ⟨h1, h2⟩ | ⟨k, hk, h1, _, h2⟩
  · have e : Loop step 0 = some (.inr ((l.length : Int), false)) := h2
    have ha : l.all p = true := List.all_eq_true.2 fun x hx => by
      obtain ⟨k, hk, rfl⟩ := List.getElem_of_mem hx
      simpa [hk] using h1 k hk
    rw [e, ha]; rfl
  · have e : Loop step 0 = some (.inl ()) := h2
    have ha : l.all p = false := by
      rw [List.all_eq_false]
      exact ⟨l[k], List.getElem_mem hk, by simpa [hk] using h1⟩
    rw [e, ha]; rfl
theorem not_any_not {α : Type} (p : α → Bool) (l : List α) : (!l.any fun x => !p x) = l.all p := by
  induction l with
  | nil => rfl
  | cons x l ih => simp only [List.any_cons, List.all_cons, ← ih]; cases p x <;> simp

theorem i_areE_eq {l : List Ext} (hl : l.length ≤ 1099511627776) : i_are_i_Ext_ExtOK l = some (l.all okEb) := by
  unfold i_are_i_Ext_ExtOK slices_ContainsFunc_Li_Ext_i_Ext_are_i_Ext_1_ExtOK slices_IndexFunc_Li_Ext_i_Ext_are_i_Ext_1_ExtOK
  rw [contains_gen (step := slices_IndexFunc_Li_Ext_i_Ext_are_i_Ext_1_ExtOK_1_s l ((l.length : Nat) : Int)) (p := fun x => !okEb x) (f := i_are_i_Ext_1_ExtOK) hl (fun x _ => by unfold i_are_i_Ext_1_ExtOK; rw [i_ExtOK_eq]; rfl) (fun t => rfl), Option.bind_some, not_any_not]
theorem s_listE_eq {l : List Ext} (hl : l.length ≤ 1099511627776) : s_l02List l = some (l.all okEb) := by
  unfold s_l02List
  exact all_gen (f := s_ExtOK) hl (fun x _ => s_ExtOK_eq x) (fun t => rfl)
def OkEs (l : List Ext) : Prop := ∀ x ∈ l, okE x
def OkFs (l : List Int) : Prop := ∀ x ∈ l, okF x
theorem OkEs.get {l : List Ext} (h : OkEs l) {k : Nat} (hk : k < l.length) : okE l[k] := h _ (List.getElem_mem hk)
theorem OkFs.get {l : List Int} (h : OkFs l) {k : Nat} (hk : k < l.length) : okF l[k] := h _ (List.getElem_mem hk)
theorem OkEs.nil : OkEs [] := fun x hx => by cases hx
theorem OkEs.one {x : Ext} (h : okE x) : OkEs [x] := fun y hy => by rw [List.mem_singleton.1 hy]; exact h
theorem OkEs.map {α : Type} {f : α → Ext} (l : List α) (h : ∀ x ∈ l, okE (f x)) : OkEs (l.map f) := fun y hy => by obtain ⟨x, hx, rfl⟩ := List.mem_map.1 hy; exact h x hx
theorem OkEs.take {l : List Ext} (h : OkEs l) (k : Nat) : OkEs (l.take k) := fun x hx => h x (List.mem_of_mem_take hx)
theorem OkEs.drop {l : List Ext} (h : OkEs l) (k : Nat) : OkEs (l.drop k) := fun x hx => h x (List.mem_of_mem_drop hx)

/-! ### sums of products -/
/-! ### the table of a point -/
theorem OkEs.getD {l : List Ext} (h : OkEs l) (k : Nat) : okE (l.getD k e0) := by
  by_cases hk : k < l.length
  · simp [hk]; exact h.get hk
  · simp [List.getElem?_eq_none (Nat.le_of_not_lt hk)]; exact e0_ok
end Go.AI.Fn

set_option linter.unusedVariables false
namespace Go.AI.Fn

theorem long {l : List UInt8} (h : 8 ≤ l.length) : ∃ a b c d e f g k r, l = a :: b :: c :: d :: e :: f :: g :: k :: r := by
  match l, h with
  | a :: b :: c :: d :: e :: f :: g :: k :: r, _ => exact ⟨a, b, c, d, e, f, g, k, r, rfl⟩
end Go.AI.Fn

set_option linter.unusedVariables false
set_option linter.unusedSimpArgs false
namespace Go.AI.Fn

def tagA : List UInt8 := [97, 98, 115, 111, 114, 98]
structure OkSrc (s : Source) : Prop where
  len : s.Script.length ≤ 64
  scr : OkEs s.Script
  st : s.State.length = 32
  a0 : 0 ≤ s.At
  a1 : s.At ≤ 1000000
  c0 : 0 ≤ s.Count
  c1 : s.Count ≤ 1000000
theorem i_isHash_eq (h : List UInt8) : i_isHash h = some (decide (h.length = 32)) := by
  unfold i_isHash
  congr 1
  by_cases c : h.length = 32
  · rw [decide_eq_true c, c]; rfl
  · rw [decide_eq_false c]; simp; omega
/-! ### grinding -/
end Go.AI.Fn

set_option linter.unusedVariables false
namespace Go.AI.Fn

theorem cmp_eq (x y : Int) : cmp_Compare_int x y = some (if x < y then -1 else if x > y then 1 else 0) := by
  unfold cmp_Compare_int cmp_isNaN_int
  simp only [Option.bind_some, bne_self_eq_false, br_false]
  by_cases h : x < y
  · rw [brd h, if_pos h]
  · rw [brn h, if_neg h]
    by_cases h2 : x > y
    · rw [brd h2, if_pos h2]
    · rw [brn h2, if_neg h2]
theorem or_step0 (a b : Int) : cmp_Or_int_1_s 0 [a, b] (([a, b].length : Nat) : Int) 0 = br (a != 0) (some (.inr (.inl a))) (some (.inl 1)) := by
  simp only [cmp_Or_int_1_s]
  rw [brd (by simp), show atL [a, b] 0 = some a by simp [atL], show IntKind.wrap .i64 (0 + 1) = 1 by decide]; rfl
theorem or_step1 (a b : Int) : cmp_Or_int_1_s 0 [a, b] (([a, b].length : Nat) : Int) 1 = br (b != 0) (some (.inr (.inl b))) (some (.inl 2)) := by
  simp only [cmp_Or_int_1_s]
  rw [brd (by simp), show atL [a, b] 1 = some b by simp [atL], show IntKind.wrap .i64 (1 + 1) = 2 by decide]; rfl
theorem or_step2 (a b : Int) : cmp_Or_int_1_s 0 [a, b] (([a, b].length : Nat) : Int) 2 = some (.inr (.inr (2, false))) := by
  simp only [cmp_Or_int_1_s]
  rw [brn (by simp)]; simp
theorem or_eq (a b : Int) : cmp_Or_int [a, b] = some (if a = 0 then b else a) := by
  unfold cmp_Or_int
  by_cases ha : a = 0
  · rw [Loop_inl (s' := 1) (by rw [or_step0, brbe ha]), if_pos ha]
    by_cases hb : b = 0
    · rw [Loop_inl (s' := 2) (by rw [or_step1, brbe hb]), Loop_inr (or_step2 a b), hb]; rfl
    · rw [Loop_inr (e := .inl b) (by rw [or_step1, brb hb])]; rfl
  · rw [Loop_inr (e := .inl a) (by rw [or_step0, brb ha]), if_neg ha]; rfl
def ltE (y x : Entry) : Prop := y.Row < x.Row ∨ (y.Row = x.Row ∧ y.Col < x.Col)
theorem order_eq (y x : Entry) : ∃ c, i_Entry_order y x = some c ∧ (c ≥ 0 ↔ ¬ ltE y x) := by
  unfold i_Entry_order
  rw [cmp_eq, cmp_eq]
  simp only [Option.bind_some, or_eq]
  refine ⟨_, rfl, ?_⟩
  unfold ltE
  by_cases h1 : y.Row < x.Row
  · simp [h1]
  · by_cases h2 : y.Row > x.Row
    · simp [h1, h2]; omega
    · have h3 : y.Row = x.Row := by omega
      by_cases h4 : y.Col < x.Col
      · simp [h3, h4]
      · by_cases h5 : y.Col > x.Col
        · simp [h3, h4, h5]
        · simp [h3, h4, h5]

def inE (R C : Int) (x : Entry) : Prop := (0 ≤ x.Row ∧ x.Row ≤ R - 1) ∧ (0 ≤ x.Col ∧ x.Col ≤ C - 1) ∧ 1 ≤ x.Value ∧ x.Value ≤ 2130706432
def badE (l : List Entry) (R C : Int) (t : Nat) : Prop := ∃ x, l[t]? = some x ∧ (¬ inE R C x ∨ (0 < t ∧ ∃ y, l[t - 1]? = some y ∧ ¬ ltE y x))
open Classical in
noncomputable def matB (l : List Entry) (R C : Int) : Bool := decide (l.length ≤ 200 ∧ ∀ t, ¬ badE l R C t)

open Classical in
theorem matB_t {l : List Entry} {R C : Int} (h : l.length ≤ 200) (g : ∀ t, ¬ badE l R C t) : matB l R C = true := by unfold matB; exact decide_eq_true ⟨h, g⟩
open Classical in
theorem matB_f {l : List Entry} {R C : Int} (h : l.length ≤ 200 → ¬ ∀ t, ¬ badE l R C t) : matB l R C = false := by unfold matB; exact decide_eq_false fun g => h g.1 g.2
open Classical in
theorem matB_len {l : List Entry} {R C : Int} (h : matB l R C = true) : l.length ≤ 200 := by unfold matB at h; exact (of_decide_eq_true h).1
theorem i_inA (n a b : Int) : i_in n a b = some (decide (a ≤ n ∧ n ≤ b)) := by
  unfold i_in
  by_cases h : a ≤ n
  · rw [brd h]; simp [h]
  · rw [brn h]; simp [h]
theorem s_inA (n a b : Int) : s_l01In n a b = some (decide (a ≤ n ∧ n ≤ b)) := by
  unfold s_l01In
  by_cases h : a ≤ n
  · rw [brd h]; simp [h]
  · rw [brn h]; simp [h]
theorem isMatrix_eq {l : List Entry} {R C : Int} (hl : l.length ≤ 1099511627776) (hR : 1 ≤ R ∧ R ≤ 4096) (hC : 1 ≤ C ∧ C ≤ 4096) : i_isMatrix l R C = some (matB l R C) := by
  unfold i_isMatrix
  have key := Loop_inv (step := i_isMatrix_1_s l R C l ((l.length : Nat) : Int)) (fun t => 0 ≤ t ∧ t ≤ l.length ∧ ∀ k : Nat, (k : Int) < t → ¬ badE l R C k) (fun t => (l.length - t).toNat)
    (fun e => (∃ x, e = .inl x ∧ ∃ k, badE l R C k) ∨ (∃ x, e = .inr x ∧ ∀ k, ¬ badE l R C k)) ?_ 0 ⟨by omega, by omega, by omega⟩
  · obtain ⟨e, he, ⟨x, rfl, k, hk⟩ | ⟨x, rfl, hk⟩⟩ := key
    · rw [he]
      simp only [Option.bind_some, alt_inl]
      rw [matB_f fun _ h => h k hk]
    · rw [he]
      simp only [Option.bind_some, alt_inr]
      by_cases h : l.length ≤ 200
      · rw [decide_eq_true (by omega), matB_t h hk]
      · rw [decide_eq_false (by omega), matB_f fun g => absurd g h]
  · intro t ⟨h0, h1, h2⟩
    simp only [i_isMatrix_1_s]
    by_cases c : t < (l.length : Int)
    · obtain ⟨x, r, e1, e2, e3⟩ := drop_cons (l := l) (i := t.toNat) (by omega)
      have next : ¬ badE l R C t.toNat → (fun t : Int => 0 ≤ t ∧ t ≤ l.length ∧ ∀ k : Nat, (k : Int) < t → ¬ badE l R C k) (t + 1) := by
        intro hn
        refine ⟨by omega, by omega, fun k hk => ?_⟩
        by_cases e : k = t.toNat
        · subst e; exact hn
        · exact h2 k (by omega)
      rw [brd c, atL_get h0 e3]
      simp only [Option.bind_some, i_inA]
      rw [wrap_i64 (R - 1) (by omega) (by omega), wrap_i64 (C - 1) (by omega) (by omega), wrap_i64 (t + 1) (by omega) (by omega)]
      by_cases i1 : 0 ≤ x.Row ∧ x.Row ≤ R - 1
      · rw [notd i1]
        by_cases i2 : 0 ≤ x.Col ∧ x.Col ≤ C - 1
        · rw [notd i2]
          by_cases i3 : 1 ≤ x.Value ∧ x.Value ≤ 2130706432
          · rw [notd i3]
            by_cases c3 : t > 0
            · rw [brd c3, wrap_i64 (t - 1) (by omega) (by omega)]
              obtain ⟨y, r2, f1, f2, f3⟩ := drop_cons (l := l) (i := (t - 1).toNat) (by omega)
              rw [atL_get (by omega) f3]
              simp only [Option.bind_some]
              obtain ⟨d, hd, hd2⟩ := order_eq y x
              rw [hd]
              simp only [Option.bind_some]
              rw [show (t - 1).toNat = t.toNat - 1 by omega] at f3
              by_cases c4 : d ≥ 0
              · rw [brd c4]
                exact .inr ⟨_, rfl, .inl ⟨_, rfl, t.toNat, x, e3, .inr ⟨by omega, y, f3, hd2.1 c4⟩⟩⟩
              · rw [brn c4]
                refine .inl ⟨_, rfl, next ?_, by omega⟩
                rintro ⟨x', g1, g | ⟨_, y', g2, g3⟩⟩
                · rw [e3] at g1; cases g1; exact g ⟨i1, i2, i3⟩
                · rw [e3] at g1; cases g1; rw [f3] at g2; cases g2; exact c4 (hd2.2 g3)
            · rw [brn c3]
              refine .inl ⟨_, rfl, next ?_, by omega⟩
              rintro ⟨x', g1, g | ⟨g0, _⟩⟩
              · rw [e3] at g1; cases g1; exact g ⟨i1, i2, i3⟩
              · omega
          · rw [notn i3]
            exact .inr ⟨_, rfl, .inl ⟨_, rfl, t.toNat, x, e3, .inl fun g => i3 g.2.2⟩⟩
        · rw [notn i2]
          exact .inr ⟨_, rfl, .inl ⟨_, rfl, t.toNat, x, e3, .inl fun g => i2 g.2.1⟩⟩
      · rw [notn i1]
        exact .inr ⟨_, rfl, .inl ⟨_, rfl, t.toNat, x, e3, .inl fun g => i1 g.1⟩⟩
    · rw [brn c]
      refine .inr ⟨_, rfl, .inr ⟨_, rfl, fun k hk => ?_⟩⟩
      have hkl : k < l.length := by
        obtain ⟨x, hx, _⟩ := hk
        obtain ⟨h, _⟩ := List.getElem?_eq_some_iff.1 hx
        exact h
      exact h2 k (by omega) hk

theorem list_eq {l : List Entry} {r c : Int} (hr : 0 ≤ r ∧ r ≤ 5) (hc : 0 ≤ c ∧ c ≤ 5) {R C : Int} (hR : shl64 .i64 1 r = R) (hC : shl64 .i64 1 c = C) (hR' : 1 ≤ R ∧ R ≤ 4096) (hC' : 1 ≤ C ∧ C ≤ 4096) : s_l10List l r c = some (matB l R C) := by
  unfold s_l10List
  by_cases hl : (l.length : Int) > 200
  · rw [brd hl]
    rw [matB_f (by omega)]
  rw [brn hl]
  have key := Loop_inv (step := s_l10List_1_s l r c) (fun t => 0 ≤ t ∧ t ≤ l.length ∧ ∀ k : Nat, (k : Int) < t → ¬ badE l R C k) (fun t => (l.length - t).toNat)
    (fun e => (∃ x, e = .inl x ∧ ∃ k, badE l R C k) ∨ (∃ x, e = .inr x ∧ ∀ k, ¬ badE l R C k)) ?_ 0 ⟨by omega, by omega, by omega⟩
  · obtain ⟨e, he, ⟨x, rfl, k, hk⟩ | ⟨x, rfl, hk⟩⟩ := key
    · rw [he]
      simp only [Option.bind_some, alt_inl]
      rw [matB_f fun _ h => h k hk]
    · rw [he]
      simp only [Option.bind_some, alt_inr]
      rw [matB_t (by omega) hk]
  · intro t ⟨h0, h1, h2⟩
    simp only [s_l10List_1_s]
    rw [wrap_u64 r (by omega) (by omega), wrap_u64 c (by omega) (by omega), hR, hC]
    by_cases ct : t < (l.length : Int)
    · obtain ⟨x, rest, e1, e2, e3⟩ := drop_cons (l := l) (i := t.toNat) (by omega)
      have next : ¬ badE l R C t.toNat → (fun t : Int => 0 ≤ t ∧ t ≤ l.length ∧ ∀ k : Nat, (k : Int) < t → ¬ badE l R C k) (t + 1) := by
        intro hn
        refine ⟨by omega, by omega, fun k hk => ?_⟩
        by_cases e : k = t.toNat
        · subst e; exact hn
        · exact h2 k (by omega)
      rw [brd ct, atL_get h0 e3]
      simp only [Option.bind_some, s_inA]
      rw [brd hr.1]
      rw [wrap_i64 (R - 1) (by omega) (by omega), wrap_i64 (C - 1) (by omega) (by omega), wrap_i64 (t + 1) (by omega) (by omega)]
      by_cases i1 : 0 ≤ x.Row ∧ x.Row ≤ R - 1
      · rw [notd i1, brd hc.1]
        by_cases i2 : 0 ≤ x.Col ∧ x.Col ≤ C - 1
        · rw [notd i2]
          by_cases i3 : 1 ≤ x.Value ∧ x.Value ≤ 2130706432
          · rw [notd i3]
            by_cases c3 : t > 0
            · rw [brd c3, wrap_i64 (t - 1) (by omega) (by omega)]
              obtain ⟨y, r2, f1, f2, f3⟩ := drop_cons (l := l) (i := (t - 1).toNat) (by omega)
              rw [atL_get (by omega) f3]
              simp only [Option.bind_some]
              rw [show (t - 1).toNat = t.toNat - 1 by omega] at f3
              have good : ltE y x → ¬ badE l R C t.toNat := by
                rintro hlt ⟨x', g1, g | ⟨_, y', g2, g3⟩⟩
                · rw [e3] at g1; cases g1; exact g ⟨i1, i2, i3⟩
                · rw [e3] at g1; cases g1; rw [f3] at g2; cases g2; exact g3 hlt
              have bad : ¬ ltE y x → badE l R C t.toNat := fun h => ⟨x, e3, .inr ⟨by omega, y, f3, h⟩⟩
              by_cases c4 : y.Row > x.Row
              · rw [brd c4]
                exact .inr ⟨_, rfl, .inl ⟨_, rfl, _, bad (by unfold ltE; omega)⟩⟩
              · rw [brn c4]
                by_cases c5 : y.Row = x.Row
                · rw [bre c5]
                  by_cases c6 : y.Col ≥ x.Col
                  · rw [brd c6]
                    exact .inr ⟨_, rfl, .inl ⟨_, rfl, _, bad (by unfold ltE; omega)⟩⟩
                  · rw [brn c6]
                    exact .inl ⟨_, rfl, next (good (by unfold ltE; omega)), by omega⟩
                · rw [brne c5]
                  exact .inl ⟨_, rfl, next (good (by unfold ltE; omega)), by omega⟩
            · rw [brn c3]
              refine .inl ⟨_, rfl, next ?_, by omega⟩
              rintro ⟨x', g1, g | ⟨g0, _⟩⟩
              · rw [e3] at g1; cases g1; exact g ⟨i1, i2, i3⟩
              · omega
          · rw [notn i3]
            exact .inr ⟨_, rfl, .inl ⟨_, rfl, t.toNat, x, e3, .inl fun g => i3 g.2.2⟩⟩
        · rw [notn i2]
          exact .inr ⟨_, rfl, .inl ⟨_, rfl, t.toNat, x, e3, .inl fun g => i2 g.2.1⟩⟩
      · rw [notn i1]
        exact .inr ⟨_, rfl, .inl ⟨_, rfl, t.toNat, x, e3, .inl fun g => i1 g.1⟩⟩
    · rw [brn ct]
      refine .inr ⟨_, rfl, .inr ⟨_, rfl, fun k hk => ?_⟩⟩
      have hkl : k < l.length := by
        obtain ⟨x, hx, _⟩ := hk
        obtain ⟨h, _⟩ := List.getElem?_eq_some_iff.1 hx
        exact h
      exact h2 k (by omega) hk
end Go.AI.Fn

set_option linter.unusedVariables false
namespace Go.AI.Fn

theorem shl_ok {k : Int} (h : 0 ≤ k ∧ k ≤ 5) : 1 ≤ shl64 .i64 1 k ∧ shl64 .i64 1 k ≤ 4096 := by
  have : k = 0 ∨ k = 1 ∨ k = 2 ∨ k = 3 ∨ k = 4 ∨ k = 5 := by omega
  rcases this with rfl | rfl | rfl | rfl | rfl | rfl <;> decide

noncomputable def sysB (s : System) : Bool :=
  decide (1 ≤ s.Rows ∧ s.Rows ≤ 5) && (decide (2 ≤ s.Cols ∧ s.Cols ≤ 5) && (decide (0 ≤ s.Publics ∧ s.Publics ≤ shl64 .i64 1 (s.Cols - 1) - 1) &&
    (matB s.A (shl64 .i64 1 s.Rows) (shl64 .i64 1 s.Cols) && (matB s.B (shl64 .i64 1 s.Rows) (shl64 .i64 1 s.Cols) && matB s.C (shl64 .i64 1 s.Rows) (shl64 .i64 1 s.Cols)))))
theorem i_SystemOK_eq {s : System} (hA : s.A.length ≤ 1099511627776) (hB : s.B.length ≤ 1099511627776) (hC : s.C.length ≤ 1099511627776) : i_SystemOK s = some (sysB s) := by
  unfold i_SystemOK sysB
  simp only [i_inA, Option.bind_some]
  by_cases h1 : 1 ≤ s.Rows ∧ s.Rows ≤ 5
  · rw [notd h1]
    by_cases h2 : 2 ≤ s.Cols ∧ s.Cols ≤ 5
    · rw [notd h2]
      have k1 := shl_ok (k := s.Rows) (by omega)
      have k2 := shl_ok (k := s.Cols) (by omega)
      have k3 := shl_ok (k := s.Cols - 1) (by omega)
      unfold i_System_half i_System_matrices
      rw [wrap_i64 (s.Cols - 1) (by omega) (by omega), brd (by omega)]
      simp only [Option.bind_some]
      rw [wrap_i64 (shl64 .i64 1 (s.Cols - 1) - 1) (by omega) (by omega)]
      by_cases h3 : 0 ≤ s.Publics ∧ s.Publics ≤ shl64 .i64 1 (s.Cols - 1) - 1
      · rw [notd h3, brd (by omega), brd (by omega), isMatrix_eq hA k1 k2]
        simp only [Option.bind_some]
        rw [decide_eq_true h1, decide_eq_true h2, decide_eq_true h3]
        cases matB s.A (shl64 .i64 1 s.Rows) (shl64 .i64 1 s.Cols)
        · rfl
        · simp only [Bool.not_true, br_false]
          rw [brd (by omega), brd (by omega), isMatrix_eq hB k1 k2]
          simp only [Option.bind_some]
          cases matB s.B (shl64 .i64 1 s.Rows) (shl64 .i64 1 s.Cols)
          · rfl
          · simp only [Bool.not_true, br_false]
            rw [brd (by omega), brd (by omega), isMatrix_eq hC k1 k2]
            simp only [Option.bind_some]
            cases matB s.C (shl64 .i64 1 s.Rows) (shl64 .i64 1 s.Cols) <;> rfl
      · rw [notn h3, decide_eq_true h1, decide_eq_true h2, decide_eq_false h3]; rfl
    · rw [notn h2, decide_eq_true h1, decide_eq_false h2]; rfl
  · rw [notn h1, decide_eq_false h1]; rfl
theorem s_SystemOK_eq (s : System) : s_SystemOK s = some (sysB s) := by
  unfold s_SystemOK sysB
  simp only [s_inA, Option.bind_some]
  by_cases h1 : 1 ≤ s.Rows ∧ s.Rows ≤ 5
  · rw [brd h1]
    by_cases h2 : 2 ≤ s.Cols ∧ s.Cols ≤ 5
    · rw [brd h2]
      have k1 := shl_ok (k := s.Rows) (by omega)
      have k2 := shl_ok (k := s.Cols) (by omega)
      have k3 := shl_ok (k := s.Cols - 1) (by omega)
      rw [wrap_i64 (s.Cols - 1) (by omega) (by omega), wrap_u64 (s.Cols - 1) (by omega) (by omega), brd (by omega), wrap_i64 (shl64 .i64 1 (s.Cols - 1) - 1) (by omega) (by omega)]
      by_cases h3 : 0 ≤ s.Publics ∧ s.Publics ≤ shl64 .i64 1 (s.Cols - 1) - 1
      · rw [brd h3, list_eq (by omega) (by omega) rfl rfl k1 k2, list_eq (by omega) (by omega) rfl rfl k1 k2, list_eq (by omega) (by omega) rfl rfl k1 k2]
        rw [decide_eq_true h1, decide_eq_true h2, decide_eq_true h3]
        cases matB s.A (shl64 .i64 1 s.Rows) (shl64 .i64 1 s.Cols) <;> cases matB s.B (shl64 .i64 1 s.Rows) (shl64 .i64 1 s.Cols) <;> cases matB s.C (shl64 .i64 1 s.Rows) (shl64 .i64 1 s.Cols) <;> rfl
      · rw [brn h3, decide_eq_true h1, decide_eq_true h2, decide_eq_false h3]; rfl
    · rw [brn h2, decide_eq_true h1, decide_eq_false h2]; rfl
  · rw [brn h1, decide_eq_false h1]; rfl
theorem sysB_in {s : System} (h : sysB s = true) : (1 ≤ s.Rows ∧ s.Rows ≤ 5) ∧ (2 ≤ s.Cols ∧ s.Cols ≤ 5) ∧ (0 ≤ s.Publics ∧ s.Publics ≤ 4096) ∧ s.A.length ≤ 200 ∧ s.B.length ≤ 200 ∧ s.C.length ≤ 200 := by
  unfold sysB at h
  simp only [Bool.and_eq_true, decide_eq_true_eq] at h
  obtain ⟨h1, h2, h3, h4, h5, h6⟩ := h
  have k3 := shl_ok (k := s.Cols - 1) (by omega)
  exact ⟨h1, h2, by omega, matB_len h4, matB_len h5, matB_len h6⟩

def setB (t : Setting) : Bool := decide (1 ≤ t.Rate ∧ t.Rate ≤ 3) && (decide (1 ≤ t.Queries ∧ t.Queries ≤ 8) && decide (0 ≤ t.Grind ∧ t.Grind ≤ 12))
theorem i_SettingOK_eq (t : Setting) : i_SettingOK t = some (setB t) := by
  unfold i_SettingOK setB
  simp only [i_inA, Option.bind_some]
  cases decide (1 ≤ t.Rate ∧ t.Rate ≤ 3) <;> cases decide (1 ≤ t.Queries ∧ t.Queries ≤ 8) <;> rfl
theorem s_SettingOK_eq (t : Setting) : s_SettingOK t = some (setB t) := by
  unfold s_SettingOK setB
  simp only [s_inA, Option.bind_some]
  cases decide (1 ≤ t.Rate ∧ t.Rate ≤ 3) <;> cases decide (1 ≤ t.Queries ∧ t.Queries ≤ 8) <;> rfl
theorem setB_in {t : Setting} (h : setB t = true) : (1 ≤ t.Rate ∧ t.Rate ≤ 3) ∧ (1 ≤ t.Queries ∧ t.Queries ≤ 8) ∧ 0 ≤ t.Grind ∧ t.Grind ≤ 12 := by
  unfold setB at h
  simpa only [Bool.and_eq_true, decide_eq_true_eq] using h

theorem szE_eq {a : List Entry} {left : Int} (ha : a.length ≤ 9223372036854775807) (h0 : -1 ≤ left) (h1 : left ≤ 1048576) : ∃ r, w_szEntryS a left = some r ∧ -1 ≤ r ∧ r ≤ 1048576 ∧ (0 ≤ r → a.length ≤ 1048576) := by
  unfold w_szEntryS
  rw [wrap_i64 _ (by omega) (by omega)]
  by_cases c : left - (a.length : Int) < 0
  · rw [brd c]; exact ⟨_, rfl, by omega, by omega, by omega⟩
  · rw [brn c]; exact ⟨_, rfl, by omega, by omega, by omega⟩
theorem szS_eq {s : System} {left : Int} (hA : s.A.length ≤ 9223372036854775807) (hB : s.B.length ≤ 9223372036854775807) (hC : s.C.length ≤ 9223372036854775807) (h0 : -1 ≤ left) (h1 : left ≤ 1048576) :
    ∃ r, w_szSystem s left = some r ∧ -1 ≤ r ∧ r ≤ 1048576 ∧ (0 ≤ r → s.A.length ≤ 1048576 ∧ s.B.length ≤ 1048576 ∧ s.C.length ≤ 1048576) := by
  unfold w_szSystem
  obtain ⟨a, ea, a0, a1, a2⟩ := szE_eq (left := left) hA (by omega) (by omega)
  rw [ea]
  simp only [Option.bind_some]
  by_cases ca : a < 0
  · rw [brd ca]; exact ⟨_, rfl, by omega, by omega, by omega⟩
  rw [brn ca]
  obtain ⟨b, eb, b0, b1, b2⟩ := szE_eq (left := a) hB a0 a1
  rw [eb]
  simp only [Option.bind_some]
  by_cases cb : b < 0
  · rw [brd cb]; exact ⟨_, rfl, by omega, by omega, by omega⟩
  rw [brn cb]
  obtain ⟨c, ec, c0, c1, c2⟩ := szE_eq (left := b) hC b0 b1
  rw [ec]
  simp only [Option.bind_some]
  by_cases cc : c < 0
  · rw [brd cc]; exact ⟨_, rfl, by omega, by omega, by omega⟩
  rw [brn cc]
  exact ⟨_, rfl, by omega, by omega, fun _ => ⟨a2 (by omega), b2 (by omega), c2 (by omega)⟩⟩

theorem toE_eq {a : List Entry} (ha : a.length ≤ 1048576) : w_toEntryS a = some a := by
  unfold w_toEntryS
  have hm : mkOK ((a.length : Nat) : Int) ((a.length : Nat) : Int) 24 = true := by
    have h24 : ((a.length : Nat) : Int) * ((24 : Nat) : Int) ≤ ((okBound : Nat) : Int) := by simp only [okBound]; omega
    unfold mkOK; rw [decide_eq_true (show (0 : Int) ≤ ((a.length : Nat) : Int) by omega), decide_eq_true (Int.le_refl _), decide_eq_true h24]; rfl
  rw [br_of hm]
  have key := Loop_inv (step := w_toEntryS_1_s a) (fun s => 0 ≤ s.2 ∧ s.2 ≤ a.length ∧ s.1.length = a.length ∧ ∀ k : Nat, (k : Int) < s.2 → s.1[k]? = a[k]?) (fun s => (a.length - s.2).toNat)
    (fun e => e.1 = a) ?_ ((List.replicate (((a.length : Nat) : Int).toNat) (Entry.mk (0 : Int) (0 : Int) (0 : Int))), (0 : Int)) ⟨by simp, by simp, by simp, fun k (hk : (k : Int) < 0) => by omega⟩
  · obtain ⟨e, he, h⟩ := key
    rw [he]; simp only [Option.bind_some, h]
  · rintro ⟨l, i⟩ ⟨h0, h1, hl, h2⟩
    dsimp only at h0 h1 hl h2
    simp only [w_toEntryS_1_s]
    by_cases c : i < (a.length : Int)
    · obtain ⟨x, rest, e1, e2, e3⟩ := drop_cons (l := a) (i := i.toNat) (by omega)
      obtain ⟨y, rest2, f1, f2, f3⟩ := drop_cons (l := l) (i := i.toNat) (by omega)
      rw [brd c, atL_get h0 e3]
      simp only [Option.bind_some, w_toEntry]
      rw [brd h0, brd (by omega), f3]
      simp only [Option.bind_some]
      rw [wrap_i64 (i + 1) (by omega) (by omega)]
      refine .inl ⟨_, rfl, ⟨by dsimp only; omega, by dsimp only; omega, by simp [hl], fun k hk => ?_⟩, by dsimp only; omega⟩
      dsimp only at hk ⊢
      rw [List.getElem?_set]
      by_cases e : i.toNat = k
      · rw [if_pos e, if_pos (by omega), ← e, e3]
      · rw [if_neg e]; exact h2 k (by omega)
    · rw [brn c]
      refine .inr ⟨_, rfl, ?_⟩
      apply List.ext_getElem?
      intro k
      show l[k]? = a[k]?
      by_cases hk : k < a.length
      · exact h2 k (by omega)
      · rw [List.getElem?_eq_none (by omega), List.getElem?_eq_none (by omega)]
theorem toS_eq {s : System} (hA : s.A.length ≤ 1048576) (hB : s.B.length ≤ 1048576) (hC : s.C.length ≤ 1048576) : w_toSystem s = some s := by
  unfold w_toSystem
  rw [toE_eq hA, toE_eq hB, toE_eq hC]; rfl

theorem eqE_eq {a : List Entry} (ha : a.length ≤ 1048576) : w_eqEntryS a a = some true := by
  unfold w_eqEntryS
  rw [brbe rfl]
  have key := Loop_inv (step := w_eqEntryS_1_s a a) (fun t => 0 ≤ t ∧ t ≤ a.length) (fun t => (a.length - t).toNat) (fun e => ∃ p, e = .inr p) ?_ 0 ⟨by omega, by omega⟩
  · obtain ⟨e, he, p, rfl⟩ := key
    rw [he]; rfl
  · intro t ⟨h0, h1⟩
    simp only [w_eqEntryS_1_s]
    by_cases c : t < (a.length : Int)
    · left
      obtain ⟨x, r, e1, e2, e3⟩ := drop_cons (l := a) (i := t.toNat) (by omega)
      rw [brd c, atL_get h0 e3]
      simp only [Option.bind_some, w_eqEntry]
      rw [brbe rfl, brbe rfl, brbe rfl]
      simp only [Option.bind_some, Bool.not_true, br_false]
      rw [wrap_i64 (t + 1) (by omega) (by omega)]
      exact ⟨_, rfl, ⟨by omega, by omega⟩, by omega⟩
    · right
      rw [brn c]
      exact ⟨_, rfl, _, rfl⟩
theorem eqS_eq {s : System} (hA : s.A.length ≤ 1048576) (hB : s.B.length ≤ 1048576) (hC : s.C.length ≤ 1048576) : w_eqSystem s s = some true := by
  unfold w_eqSystem
  rw [brbe rfl, brbe rfl, brbe rfl, eqE_eq hA, eqE_eq hB, eqE_eq hC]; rfl
end Go.AI.Fn

set_option linter.unusedVariables false
set_option linter.unusedSimpArgs false
namespace Go.AI.Fn

/-- All numbers below a bound. -/
def allN (n : Nat) (p : Nat → Bool) : Bool := (List.range n).all p
theorem allN_iff {n : Nat} {p : Nat → Bool} : allN n p = true ↔ ∀ j, j < n → p j = true := by simp [allN]
theorem allN_of {n : Nat} {p : Nat → Bool} (h : ∀ j, j < n → p j = true) : allN n p = true := allN_iff.2 h
theorem allN_no {n : Nat} {p : Nat → Bool} {k : Nat} (hk : k < n) (h : p k = false) : allN n p = false := by
  refine Bool.eq_false_iff.2 fun e => ?_
  rw [allN_iff.1 e k hk] at h; cases h
/-- A loop that stops at the first number that is not right. -/
theorem loop_all {E1 E2 R : Type} {step : Int → Option (Int ⊕ (E1 ⊕ E2))} (n : Nat) (p : Nat → Bool) (e1 : Nat → E1) {e2 : E2} {f : E1 → Option R} {g : E2 → Option R} {x y : R} (hs : ∀ k, k < n → p k = true → step (k : Int) = some (.inl ((k + 1 : Nat) : Int)))
    (hx : ∀ k, k < n → p k = false → step (k : Int) = some (.inr (.inl (e1 k)))) (he : step (n : Int) = some (.inr (.inr e2))) (hf : ∀ e, f e = some x) (hg : g e2 = some y) :
    (Loop step 0).bind (alt f g) = some (if allN n p = true then y else x) := by
  rcases Loop_all (step := step) (fun k => (k : Int)) n p (fun k => .inl (e1 k)) hs hx he with ⟨h1, h2⟩ | ⟨k, hk, h1, _, h2⟩
  · have h2' : Loop step 0 = _ := h2
    rw [h2', if_pos (allN_of h1), Option.bind_some, alt_inr, hg]
  · have h2' : Loop step 0 = _ := h2
    rw [h2', if_neg (by rw [allN_no hk h1]; decide), Option.bind_some, alt_inl, hf]
theorem ite_bool {b : Bool} : (if b = true then true else false) = b := by cases b <;> rfl
def h32 (x : List UInt8) : Bool := decide (x.length = 32)
theorem i_areH_eq {l : List (List UInt8)} (hl : l.length ≤ 1099511627776) : i_are_string_isHash l = some (l.all h32) := by
  unfold i_are_string_isHash slices_ContainsFunc_Lstring_string_are_string_1_isHash slices_IndexFunc_Lstring_string_are_string_1_isHash
  rw [contains_gen (step := slices_IndexFunc_Lstring_string_are_string_1_isHash_1_s l ((l.length : Nat) : Int)) (p := fun x => !h32 x) (f := i_are_string_1_isHash) hl (fun x _ => by unfold i_are_string_1_isHash; rw [i_isHash_eq]; rfl) (fun t => rfl), Option.bind_some, not_any_not]
/-- Rounds of so many elements. -/
def rndB (size : Int) (g : List Ext) : Bool := decide ((g.length : Int) = size) && g.all okEb
def rndsB (R : List (List Ext)) (many size : Int) : Bool := decide ((R.length : Int) = many) && R.all (rndB size)
/-- 'Is there one?', with a number that is carried along. -/
theorem contains_c {α C : Type} {p : α → Bool} {f : α → C → Option (Bool × C)} {l : List α} {c : C} (hl : l.length ≤ 1099511627776) (hf : ∀ x ∈ l, f x c = some (p x, c)) {step : Int × C → Option ((Int × C) ⊕ ((Int × C) ⊕ (Int × Bool × C)))}
    (hs : ∀ t, step (t, c) = br (decide (t < ((l.length : Nat) : Int))) ((atL l t).bind fun x => (f x c).bind fun r => br r.1 (some (.inr (.inl (t, r.2)))) (some (.inl (IntKind.wrap .i64 (t + 1), r.2)))) (some (.inr (.inr (t, decide (t < ((l.length : Nat) : Int)), c))))) :
    ∃ n : Int, Loop step (0, c) = some (if l.any p then .inl (n, c) else .inr (n, false, c)) ∧ 0 ≤ n := by
  have key := Loop_all (step := step) (fun k => ((k : Int), c)) l.length (fun k => !((l[k]?.map p).getD false)) (fun k => .inl ((k : Int), c)) (e := .inr ((l.length : Int), false, c)) (fun k hk hp => by
      have hb : p l[k] = false := by simpa [hk] using hp
      rw [hs, brd (by omega), atL_nat hk, Option.bind_some, hf _ (List.getElem_mem hk), Option.bind_some, hb, br_false, wrap_i64 _ (by omega) (by omega)]; rfl)
    (fun k hk hp => by
      have hb : p l[k] = true := by simpa [hk] using hp
      rw [hs, brd (by omega), atL_nat hk, Option.bind_some, hf _ (List.getElem_mem hk), Option.bind_some, hb, br_true])
    (by rw [hs, brn (by omega), decide_eq_false (by omega)])
  rcases key with ⟨h1, h2⟩ | ⟨k, hk, h1, _, h2⟩
  · exact ⟨(l.length : Int), by rw [none_of (fun k hk => by simpa [hk] using h1 k hk)]; exact h2, by omega⟩
  · exact ⟨(k : Int), by rw [any_of_bad hk (by simpa [hk] using h1)]; exact h2, by omega⟩
theorem i_areRounds_eq {R : List (List Ext)} {many size : Int} (hl : R.length ≤ 1099511627776) (hR : ∀ g ∈ R, g.length ≤ 1099511627776) : i_areRounds R many size = some (rndsB R many size) := by
  unfold i_areRounds rndsB
  by_cases h : (R.length : Int) = many
  · rw [bre h, decide_eq_true h]
    obtain ⟨n, e, hn⟩ := contains_c (c := size) (p := fun g => !rndB size g) (f := i_areRounds_1) (l := R) hl (fun x hx => by
      unfold i_areRounds_1 rndB
      by_cases h2 : (x.length : Int) = size
      · rw [brbe h2, i_areE_eq (hR x hx), Option.bind_some, decide_eq_true h2]; rfl
      · rw [brb h2, decide_eq_false h2]; rfl) (step := slices_IndexFunc_LLi_Ext_Li_Ext_areRounds_1_1_s R ((R.length : Nat) : Int)) (fun t => rfl)
    unfold slices_ContainsFunc_LLi_Ext_Li_Ext_areRounds_1 slices_IndexFunc_LLi_Ext_Li_Ext_areRounds_1
    rw [e, ← not_any_not (rndB size)]
    cases (R.any fun g => !rndB size g)
    · rfl
    · simp only [if_pos, Option.bind_some, alt_inl, decide_eq_true (show n ≥ 0 from hn)]; rfl
  · rw [brne h, decide_eq_false h]; rfl
/-- A query of an opening. -/
def pthB (vars : Int) (t : Setting) (q : Query) (j : Nat) : Bool := decide (((q.Paths.getD j []).length : Int) = vars + t.Rate - 1 - j) && (q.Paths.getD j []).all h32
def qryB (vars : Int) (t : Setting) (q : Query) : Bool := decide ((q.Pairs.length : Int) = 2 * vars) && (q.Pairs.all okEb && (decide ((q.Paths.length : Int) = vars) && allN vars.toNat (pthB vars t q)))
def okO (o : Opening) (vars : Int) (t : Setting) : Bool := decide (1 ≤ vars ∧ vars ≤ 6) && (setB t && (rndsB o.Rounds vars 3 && (decide ((o.Roots.length : Int) = vars - 1) && (o.Roots.all h32 && (okEb o.Last && (decide (0 ≤ o.Nonce ∧ o.Nonce ≤ 65535) && (decide ((o.Queries.length : Int) = t.Queries) && o.Queries.all (qryB vars t))))))))
/-- An opening that a machine has. -/
structure SmO (o : Opening) : Prop where
  rn : o.Rounds.length ≤ 1099511627776
  rr : ∀ g ∈ o.Rounds, g.length ≤ 1099511627776
  ro : o.Roots.length ≤ 1099511627776
  qn : o.Queries.length ≤ 1099511627776
  qp : ∀ q ∈ o.Queries, q.Pairs.length ≤ 1099511627776
  qt : ∀ q ∈ o.Queries, ∀ p ∈ q.Paths, p.length ≤ 1099511627776
theorem atL_gd {l : List (List (List UInt8))} {j : Nat} (h : j < l.length) : atL l (j : Int) = some (l.getD j []) := by rw [atL_nat h]; simp [h]
theorem gd_mem {l : List (List (List UInt8))} {j : Nat} (h : j < l.length) : l.getD j [] ∈ l := by simp [h]
theorem i_isQuery_eq {q : Query} {vars : Int} {t : Setting} (hv : 1 ≤ vars ∧ vars ≤ 6) (ht : setB t = true) (hp : q.Pairs.length ≤ 1099511627776) (hq : ∀ p ∈ q.Paths, p.length ≤ 1099511627776) : i_isQuery q vars t = some (qryB vars t q) := by
  have h2 := setB_in ht
  unfold i_isQuery qryB
  rw [wrap_i64 _ (by omega) (by omega)]
  by_cases c1 : (q.Pairs.length : Int) = 2 * vars
  · rw [brbe c1, decide_eq_true c1, i_areE_eq hp, Option.bind_some]
    cases hb : q.Pairs.all okEb
    · rfl
    · rw [Bool.not_true, br_false]
      by_cases c2 : (q.Paths.length : Int) = vars
      · rw [brbe c2, decide_eq_true c2]
        have hn : vars.toNat = q.Paths.length := by omega
        have key := loop_all (step := i_isQuery_1_s vars q.Paths ((q.Paths.length : Nat) : Int) q.Pairs q.Paths t.Rate t.Queries t.Grind) vars.toNat (pthB vars t q) (fun _ => ()) (e2 := ((vars.toNat : Int), false)) (f := fun _ => some false) (g := fun _ => some true) (x := false) (y := true) (fun k hk hp => by
          have hm := hq _ (gd_mem (l := q.Paths) (j := k) (by omega))
          simp only [pthB, Bool.and_eq_true, decide_eq_true_eq] at hp
          simp only [i_isQuery_1_s]
          rw [brd (by omega), atL_gd (by omega), Option.bind_some, wrap_i64 (vars + t.Rate) (by omega) (by omega), wrap_i64 (vars + t.Rate - 1) (by omega) (by omega), wrap_i64 (vars + t.Rate - 1 - k) (by omega) (by omega), brbe hp.1, i_areH_eq hm, Option.bind_some, hp.2, Bool.not_true, br_false, wrap_i64 _ (by omega) (by omega)]; rfl) (fun k hk hp => by
          have hm := hq _ (gd_mem (l := q.Paths) (j := k) (by omega))
          simp only [i_isQuery_1_s]
          rw [brd (by omega), atL_gd (by omega), Option.bind_some, wrap_i64 (vars + t.Rate) (by omega) (by omega), wrap_i64 (vars + t.Rate - 1) (by omega) (by omega), wrap_i64 (vars + t.Rate - 1 - k) (by omega) (by omega)]
          by_cases c3 : ((q.Paths.getD k []).length : Int) = vars + t.Rate - 1 - k
          · rw [brbe c3, i_areH_eq hm, Option.bind_some]
            rw [pthB, decide_eq_true c3, Bool.true_and] at hp
            rw [hp]; rfl
          · rw [brb c3]) (by
          simp only [i_isQuery_1_s]
          rw [brn (by omega), decide_eq_false (by omega)]) (fun _ => rfl) rfl
        rw [ite_bool] at key
        rw [key]; rfl
      · rw [brb c2, decide_eq_false c2]; rfl
  · rw [brb c1, decide_eq_false c1]; rfl
theorem i_OpeningOK_eq {o : Opening} {vars : Int} {t : Setting} (S : SmO o) : i_OpeningOK o vars t = some (okO o vars t) := by
  unfold i_OpeningOK okO
  rw [i_in_eq, Option.bind_some]
  by_cases hv : 1 ≤ vars ∧ vars ≤ 6
  · rw [decide_eq_true hv, decide_eq_true hv.1, decide_eq_true hv.2, Bool.and_self, br_true, i_SettingOK_eq, Option.bind_some, Bool.true_and]
    cases ht : setB t
    · rfl
    · rw [br_true, i_areRounds_eq S.rn S.rr, Option.bind_some, Bool.true_and]
      cases hr : rndsB o.Rounds vars 3
      · rfl
      · rw [br_true, wrap_i64 _ (by omega) (by omega), Bool.true_and]
        by_cases c1 : (o.Roots.length : Int) = vars - 1
        · rw [bre c1, decide_eq_true c1, i_areH_eq S.ro, Option.bind_some, Bool.true_and]
          cases hh : o.Roots.all h32
          · rfl
          · rw [br_true, i_ExtOK_eq, Option.bind_some, Bool.true_and]
            cases hl : okEb o.Last
            · rfl
            · rw [br_true, i_in_eq, Option.bind_some, Bool.true_and]
              by_cases c2 : 0 ≤ o.Nonce ∧ o.Nonce ≤ 65535
              · rw [decide_eq_true c2, decide_eq_true c2.1, decide_eq_true c2.2, Bool.and_self, br_true, Bool.true_and]
                by_cases c3 : (o.Queries.length : Int) = t.Queries
                · rw [bre c3, decide_eq_true c3, Bool.true_and]
                  obtain ⟨n, e, hn⟩ := contains_c (c := (vars, t.Rate, t.Queries, t.Grind)) (p := fun q => !qryB vars t q) (f := fun x c => (i_are_i_Query_1_OpeningOK_1 x c.1 ⟨c.2.1, c.2.2.1, c.2.2.2⟩).bind fun r => some (r.1, r.2.1, r.2.2.Rate, r.2.2.Queries, r.2.2.Grind)) (l := o.Queries) S.qn (fun x hx => by
                    unfold i_are_i_Query_1_OpeningOK_1 i_OpeningOK_1
                    show ((((i_isQuery x vars t).bind _).bind _).bind _) = _
                    rw [i_isQuery_eq hv ht (S.qp x hx) (S.qt x hx)]; rfl) (step := slices_IndexFunc_Li_Query_i_Query_are_i_Query_1_OpeningOK_1_1_s o.Queries ((o.Queries.length : Nat) : Int)) (fun z => by
                    show slices_IndexFunc_Li_Query_i_Query_are_i_Query_1_OpeningOK_1_1_s _ _ (z, vars, t.Rate, t.Queries, t.Grind) = _
                    simp only [slices_IndexFunc_Li_Query_i_Query_are_i_Query_1_OpeningOK_1_1_s]
                    congr 1
                    cases atL o.Queries z with
                    | none => rfl
                    | some x =>
                      simp only [Option.bind_some]
                      cases i_are_i_Query_1_OpeningOK_1 x vars ⟨t.Rate, t.Queries, t.Grind⟩ <;> rfl)
                  unfold i_are_i_Query_OpeningOK_1 slices_ContainsFunc_Li_Query_i_Query_are_i_Query_1_OpeningOK_1 slices_IndexFunc_Li_Query_i_Query_are_i_Query_1_OpeningOK_1
                  rw [e, ← not_any_not (qryB vars t)]
                  cases (o.Queries.any fun q => !qryB vars t q)
                  · rfl
                  · simp only [if_pos, Option.bind_some, alt_inl, decide_eq_true (show n ≥ 0 from hn)]
                · rw [brne c3, decide_eq_false c3]; rfl
              · rw [decide_eq_false c2]
                have : (decide (0 ≤ o.Nonce) && decide (o.Nonce ≤ 65535)) = false := by
                  rw [← Bool.decide_and]; exact decide_eq_false c2
                rw [this]; rfl
        · rw [brne c1, decide_eq_false c1]; rfl
  · rw [decide_eq_false hv]
    have : (decide (1 ≤ vars) && decide (vars ≤ 6)) = false := by
      rw [← Bool.decide_and]; exact decide_eq_false hv
    rw [this]; rfl
end Go.AI.Fn

set_option linter.unusedVariables false
set_option linter.unusedSimpArgs false
namespace Go.AI.Fn

theorem allN_list {α : Type} (l : List α) (d : α) (P : α → Bool) : allN l.length (fun k => P (l.getD k d)) = l.all P := by
  refine Bool.eq_iff_iff.2 ⟨fun h => List.all_eq_true.2 fun x hx => ?_, fun h => allN_of fun k hk => ?_⟩
  · obtain ⟨k, hk, rfl⟩ := List.getElem_of_mem hx
    have := allN_iff.1 h k hk
    simpa [hk] using this
  · have := List.all_eq_true.1 h _ (List.getElem_mem hk)
    simpa [hk] using this
theorem atL_gdX {α : Type} {l : List α} {d : α} {j : Nat} (h : j < l.length) : atL l (j : Int) = some (l.getD j d) := by rw [atL_nat h]; simp [h]
theorem s_path_eq {a t9 : Int} {c30 : List (List Ext)} {c31 : List (List UInt8)} {c32 c33 c34 : Int} {c35 : List Query} {c36 c37 c38 : Int} {c39 : List Ext} {C : List (List (List UInt8))} {j : Nat} (hj : j < C.length) (hl : (C.getD j []).length ≤ 1099511627776) {R : Type} {x y : R} :
    (Loop (s_OpeningOK_4_s a t9 (j : Int) c30 c31 c32 c33 c34 c35 c36 c37 c38 c39 C) 0).bind (alt (fun _ => some x) (fun _ => some y)) = some (if (C.getD j []).all h32 = true then y else x) := by
  rw [← allN_list (C.getD j []) [] h32]
  refine loop_all (C.getD j []).length _ (fun _ => ()) (fun k hk hp => ?_) (fun k hk hp => ?_) (e2 := (((C.getD j []).length : Int), false)) ?_ (fun _ => rfl) rfl
  · simp only [s_OpeningOK_4_s]
    simp only [h32, decide_eq_true_eq] at hp
    rw [atL_gd hj, Option.bind_some, brd (by omega), Option.bind_some, atL_gdX (d := []) hk, Option.bind_some, brbe (by omega), wrap_i64 _ (by omega) (by omega)]; rfl
  · simp only [s_OpeningOK_4_s]
    simp only [h32, decide_eq_false_iff_not] at hp
    rw [atL_gd hj, Option.bind_some, brd (by omega), Option.bind_some, atL_gdX (d := []) hk, Option.bind_some, brb (by omega)]
  · simp only [s_OpeningOK_4_s]
    rw [atL_gd hj, Option.bind_some, brn (by omega), decide_eq_false (by omega)]
theorem s_paths_eq {vars : Int} {t : Setting} {q : Query} {t6 : Int} {c19 : List (List Ext)} {c20 : List (List UInt8)} {c21 c22 c23 : Int} {c24 : List Query} {c26 c27 : Int} {c28 : List Ext} (hv : 1 ≤ vars ∧ vars ≤ 6) (ht : setB t = true) (hq : (q.Paths.length : Int) = vars) (hl : ∀ p ∈ q.Paths, p.length ≤ 1099511627776) {R : Type} {x y : R} :
    (Loop (s_OpeningOK_3_s vars t6 c19 c20 c21 c22 c23 c24 t.Rate c26 c27 c28 q.Paths) 0).bind (alt (fun _ => some x) (fun _ => some y)) = some (if allN vars.toNat (pthB vars t q) = true then y else x) := by
  have h2 := setB_in ht
  refine loop_all vars.toNat _ (fun _ => ()) (fun k hk hp => ?_) (fun k hk hp => ?_) (e2 := ((vars.toNat : Int), false)) ?_ (fun _ => rfl) rfl
  · have hm := hl _ (gd_mem (l := q.Paths) (j := k) (by omega))
    simp only [pthB, Bool.and_eq_true, decide_eq_true_eq] at hp
    simp only [s_OpeningOK_3_s]
    rw [brd (by omega), atL_gd (by omega), Option.bind_some, wrap_i64 (vars + t.Rate) (by omega) (by omega), wrap_i64 (vars + t.Rate - 1) (by omega) (by omega), wrap_i64 (vars + t.Rate - 1 - k) (by omega) (by omega), brbe hp.1, s_path_eq (by omega) hm, if_pos hp.2, wrap_i64 _ (by omega) (by omega)]; rfl
  · have hm := hl _ (gd_mem (l := q.Paths) (j := k) (by omega))
    simp only [s_OpeningOK_3_s]
    rw [brd (by omega), atL_gd (by omega), Option.bind_some, wrap_i64 (vars + t.Rate) (by omega) (by omega), wrap_i64 (vars + t.Rate - 1) (by omega) (by omega), wrap_i64 (vars + t.Rate - 1 - k) (by omega) (by omega)]
    by_cases c3 : ((q.Paths.getD k []).length : Int) = vars + t.Rate - 1 - k
    · rw [pthB, decide_eq_true c3, Bool.true_and] at hp
      rw [brbe c3, s_path_eq (by omega) hm, if_neg (by rw [hp]; decide)]
    · rw [brb c3]
  · simp only [s_OpeningOK_3_s]
    rw [brn (by omega), decide_eq_false (by omega)]
theorem s_queries_eq {vars : Int} {t : Setting} {o : Opening} {c14 c12 c13 : Int} {c10 : List (List Ext)} {c11 : List (List UInt8)} {c17 c18 : Int} (S : SmO o) (hv : 1 ≤ vars ∧ vars ≤ 6) (ht : setB t = true) {R : Type} {x y : R} :
    (Loop (s_OpeningOK_2_s vars c10 c11 c12 c13 c14 o.Queries t.Rate c17 c18) 0).bind (alt (fun _ => some x) (fun _ => some y)) = some (if o.Queries.all (qryB vars t) = true then y else x) := by
  rw [← allN_list o.Queries ⟨[], []⟩ (qryB vars t)]
  have hQ : ∀ k, k < o.Queries.length → o.Queries.getD k ⟨[], []⟩ ∈ o.Queries := fun k hk => by simp [hk]
  have hqn := S.qn
  refine loop_all o.Queries.length _ (fun k => ((o.Queries.getD k ⟨[], []⟩).Pairs, (o.Queries.getD k ⟨[], []⟩).Paths)) (fun k hk hp => ?_) (fun k hk hp => ?_) (e2 := ((o.Queries.length : Int), false)) ?_ (fun _ => rfl) rfl
  · have hm := hQ k hk
    simp only [qryB, Bool.and_eq_true, decide_eq_true_eq] at hp
    simp only [s_OpeningOK_2_s]
    rw [brd (by omega), atL_gdX (d := ⟨[], []⟩) hk, Option.bind_some, wrap_i64 (2 * vars) (by omega) (by omega), brbe hp.1, s_listE_eq (S.qp _ hm), Option.bind_some, hp.2.1, Bool.not_true, br_false, brbe hp.2.2.1, s_paths_eq hv ht hp.2.2.1 (S.qt _ hm), if_pos hp.2.2.2, wrap_i64 _ (by omega) (by omega)]; rfl
  · have hm := hQ k hk
    simp only [s_OpeningOK_2_s]
    rw [brd (by omega), atL_gdX (d := ⟨[], []⟩) hk, Option.bind_some, wrap_i64 (2 * vars) (by omega) (by omega)]
    rw [qryB] at hp
    by_cases c1 : ((o.Queries.getD k ⟨[], []⟩).Pairs.length : Int) = 2 * vars
    · rw [brbe c1, s_listE_eq (S.qp _ hm), Option.bind_some]
      rw [decide_eq_true c1, Bool.true_and] at hp
      cases hb : (o.Queries.getD k ⟨[], []⟩).Pairs.all okEb
      · rfl
      · rw [Bool.not_true, br_false]
        rw [hb, Bool.true_and] at hp
        by_cases c2 : ((o.Queries.getD k ⟨[], []⟩).Paths.length : Int) = vars
        · rw [decide_eq_true c2, Bool.true_and] at hp
          rw [brbe c2, s_paths_eq hv ht c2 (S.qt _ hm), if_neg (by rw [hp]; decide)]
        · rw [brb c2]
    · rw [brb c1]
  · simp only [s_OpeningOK_2_s]
    rw [brn (by omega), decide_eq_false (by omega)]
theorem s_OpeningOK_eq {o : Opening} {vars : Int} {t : Setting} (S : SmO o) : s_OpeningOK o vars t = some (okO o vars t) := by
  unfold s_OpeningOK okO
  rw [s_in_eq, Option.bind_some]
  by_cases hv : 1 ≤ vars ∧ vars ≤ 6
  · rw [decide_eq_true hv, decide_eq_true hv.1, decide_eq_true hv.2, Bool.and_self, Bool.not_true, br_false, s_SettingOK_eq, Option.bind_some, Bool.true_and]
    cases ht : setB t
    · rfl
    · rw [Bool.not_true, br_false, wrap_i64 _ (by omega) (by omega), Bool.true_and, rndsB]
      by_cases c0 : (o.Rounds.length : Int) = vars
      · rw [brbe c0, decide_eq_true c0, Bool.true_and]
        by_cases c1 : (o.Roots.length : Int) = vars - 1
        · rw [brbe c1, decide_eq_true c1, Bool.true_and]
          by_cases c3 : (o.Queries.length : Int) = t.Queries
          · rw [brbe c3, decide_eq_true c3, Bool.true_and, s_ExtOK_eq, Option.bind_some]
            cases hl : okEb o.Last
            · rw [Bool.not_false, br_true]; cases o.Rounds.all (rndB 3) <;> cases o.Roots.all h32 <;> rfl
            · rw [Bool.not_true, br_false, s_in_eq, Option.bind_some, Bool.true_and]
              by_cases c2 : 0 ≤ o.Nonce ∧ o.Nonce ≤ 65535
              · rw [decide_eq_true c2, decide_eq_true c2.1, decide_eq_true c2.2, Bool.and_self, Bool.not_true, br_false, Bool.true_and]
                have key := loop_all (step := s_OpeningOK_1_s vars o.Rounds o.Roots o.Last.A o.Last.B o.Nonce o.Queries t.Rate t.Queries t.Grind) vars.toNat (fun i => rndB 3 (o.Rounds.getD i []) && (decide (i = 0) || h32 (o.Roots.getD (i - 1) []))) (fun _ => ()) (e2 := ((vars.toNat : Int), false)) (f := fun _ => some false)
                  (g := fun _ => (Loop (s_OpeningOK_2_s vars o.Rounds o.Roots o.Last.A o.Last.B o.Nonce o.Queries t.Rate t.Queries t.Grind) 0).bind (alt (fun e_11 => some false) (fun e_12 => some true))) (x := false) (y := o.Queries.all (qryB vars t)) (fun k hk hp => by
                  simp only [Bool.and_eq_true, Bool.or_eq_true, rndB, h32, decide_eq_true_eq] at hp
                  have hm := S.rr _ (show o.Rounds.getD k [] ∈ o.Rounds by simp [show k < o.Rounds.length by omega])
                  simp only [s_OpeningOK_1_s]
                  rw [brd (by omega), atL_gdX (d := []) (by omega), Option.bind_some, brbe hp.1.1, Option.bind_some, s_listE_eq hm, Option.bind_some, hp.1.2, Bool.not_true, br_false, wrap_i64 ((k : Int) + 1) (by omega) (by omega)]
                  by_cases h0 : k = 0
                  · rw [brn (by omega)]; rfl
                  · rw [brd (by omega), wrap_i64 _ (by omega) (by omega), show (k : Int) - 1 = ((k - 1 : Nat) : Int) by omega, atL_gdX (d := []) (by omega), Option.bind_some, brbe (by have := hp.2.resolve_left h0; omega)]; rfl) (fun k hk hp => by
                  have hm := S.rr _ (show o.Rounds.getD k [] ∈ o.Rounds by simp [show k < o.Rounds.length by omega])
                  simp only [s_OpeningOK_1_s]
                  rw [brd (by omega), atL_gdX (d := []) (by omega), Option.bind_some]
                  by_cases c4 : ((o.Rounds.getD k []).length : Int) = 3
                  · rw [brbe c4, Option.bind_some, s_listE_eq hm, Option.bind_some]
                    cases hb : (o.Rounds.getD k []).all okEb
                    · rfl
                    · rw [rndB, decide_eq_true c4, hb, Bool.true_and, Bool.true_and, Bool.or_eq_false_iff, decide_eq_false_iff_not, h32, decide_eq_false_iff_not] at hp
                      rw [Bool.not_true, br_false, brd (by omega), wrap_i64 _ (by omega) (by omega), show (k : Int) - 1 = ((k - 1 : Nat) : Int) by omega, atL_gdX (d := []) (by omega), Option.bind_some, brb (by omega)]
                  · rw [brb c4]) (by
                  simp only [s_OpeningOK_1_s]
                  rw [brn (by omega), decide_eq_false (by omega)]) (fun _ => rfl) (by rw [s_queries_eq S hv ht, ite_bool])
                rw [key]
                have hall : allN vars.toNat (fun i => rndB 3 (o.Rounds.getD i []) && (decide (i = 0) || h32 (o.Roots.getD (i - 1) []))) = (o.Rounds.all (rndB 3) && o.Roots.all h32) := by
                  rw [← allN_list o.Rounds [], ← allN_list o.Roots []]
                  refine Bool.eq_iff_iff.2 ⟨fun h => ?_, fun h => ?_⟩
                  · rw [Bool.and_eq_true]
                    refine ⟨allN_of fun k hk => ?_, allN_of fun k hk => ?_⟩
                    · have := allN_iff.1 h k (by omega)
                      simp only [Bool.and_eq_true] at this; exact this.1
                    · have := allN_iff.1 h (k + 1) (by omega)
                      simpa using (Bool.and_eq_true _ _ ▸ this).2
                  · rw [Bool.and_eq_true] at h
                    refine allN_of fun k hk => ?_
                    rw [Bool.and_eq_true]
                    refine ⟨allN_iff.1 h.1 k (by omega), ?_⟩
                    by_cases h0 : k = 0
                    · simp [h0]
                    · have := allN_iff.1 h.2 (k - 1) (by omega)
                      simp only [Bool.or_eq_true]; exact .inr this
                rw [hall]
                cases o.Rounds.all (rndB 3) <;> cases o.Roots.all h32 <;> simp
              · have : (decide (0 ≤ o.Nonce) && decide (o.Nonce ≤ 65535)) = false := by
                  rw [← Bool.decide_and]; exact decide_eq_false c2
                rw [decide_eq_false c2, this, Bool.not_false, br_true]
                cases o.Rounds.all (rndB 3) <;> cases o.Roots.all h32 <;> rfl
          · rw [brb c3, decide_eq_false c3]
            cases o.Rounds.all (rndB 3) <;> cases o.Roots.all h32 <;> cases okEb o.Last <;> cases decide (0 ≤ o.Nonce ∧ o.Nonce ≤ 65535) <;> rfl
        · rw [brb c1, decide_eq_false c1]; cases o.Rounds.all (rndB 3) <;> rfl
      · rw [brb c0, decide_eq_false c0]; rfl
  · rw [decide_eq_false hv]
    have : (decide (1 ≤ vars) && decide (vars ≤ 6)) = false := by
      rw [← Bool.decide_and]; exact decide_eq_false hv
    rw [this]; rfl
end Go.AI.Fn

set_option linter.unusedVariables false
set_option linter.unusedSimpArgs false
namespace Go.AI.Fn

theorem set_fill {α : Type} {a : List α} {n k : Nat} {z x : α} (hk : k < n) (ha : a.length = k) : (a ++ List.replicate (n - k) z).set k x = (a ++ [x]) ++ List.replicate (n - (k + 1)) z := by
  subst ha
  have e : n - a.length = (n - (a.length + 1)) + 1 := by omega
  rw [e, List.replicate_succ]
  simp
/-- A list filled place by place. -/
theorem to_gen {α β : Type} {f : α → Option β} {g : α → β} {a : List α} {z : β} (hl : a.length ≤ 1099511627776) (hf : ∀ x ∈ a, f x = some (g x)) {step : List β × Int → Option ((List β × Int) ⊕ (List β × Int × Bool))}
    (hs : ∀ l i, step (l, i) = br (decide (i < ((a.length : Nat) : Int))) ((atL a i).bind fun x => (f x).bind fun r => br (decide (0 ≤ i)) (br (decide (i.toNat < l.length)) ((l[i.toNat]?).bind fun _ => some (.inl (l.set i.toNat r, IntKind.wrap .i64 (i + 1)))) none) none) (some (.inr (l, i, decide (i < ((a.length : Nat) : Int)))))) {n : Nat} (hn : a.length ≤ n) :
    Loop step (List.replicate n z, 0) = some (a.map g ++ List.replicate (n - a.length) z, (a.length : Int), false) := by
  have key := Loop_for (step := step) (fun k => ((a.take k).map g ++ List.replicate (n - k) z, (k : Int))) a.length (e := (a.map g ++ List.replicate (n - a.length) z, (a.length : Int), false)) (fun k hk => by
    have hlen : ((a.take k).map g ++ List.replicate (n - k) z).length = n := by simp; omega
    rw [hs, brd (by omega), atL_nat hk, Option.bind_some, hf _ (List.getElem_mem hk), Option.bind_some, brd (by omega), brd (by omega), Int.toNat_natCast, get_some (by omega), Option.bind_some, set_fill (by omega) (by simp; omega), wrap_i64 _ (by omega) (by omega), take_succ hk, List.map_append]
    rfl) (by
    rw [hs, brn (by omega), decide_eq_false (by omega), List.take_length])
  simpa using key
/-- Alike lists compare so. -/
theorem eq_gen {α : Type} {f : α → α → Option Bool} {a : List α} (hl : a.length ≤ 1099511627776) (hf : ∀ x ∈ a, f x x = some true) {step : Int → Option (Int ⊕ (Unit ⊕ (Int × Bool)))}
    (hs : ∀ t, step t = br (decide (t < ((a.length : Nat) : Int))) ((atL a t).bind fun x => (atL a t).bind fun y => (f x y).bind fun r => br (!r) (some (.inr (.inl ()))) (some (.inl (IntKind.wrap .i64 (t + 1))))) (some (.inr (.inr (t, decide (t < ((a.length : Nat) : Int))))))) :
    (Loop step 0).bind (alt (fun _ => some false) (fun _ => some true)) = some true := by
  have key : Loop step 0 = some (.inr ((a.length : Int), false)) := Loop_for (step := step) (fun k => (k : Int)) a.length (fun k hk => by
      rw [hs, brd (by omega), atL_nat hk, Option.bind_some, Option.bind_some, hf _ (List.getElem_mem hk), Option.bind_some, Bool.not_true, br_false, wrap_i64 _ (by omega) (by omega)]; rfl)
    (by rw [hs, brn (by omega), decide_eq_false (by omega)])
  rw [key]; rfl
theorem w_eqExt_self (x : Ext) : w_eqExt x x = some true := by unfold w_eqExt; rw [brbe rfl, brbe rfl]
theorem w_toExtS_eq {a : List Ext} (h : a.length ≤ 1048576) : w_toExtS a = some a := by
  unfold w_toExtS
  rw [br_mk (by omega) (by omega) (by omega), Int.toNat_natCast, to_gen (step := w_toExtS_1_s a) (f := w_toExt) (g := fun x => x) (by omega) (fun x _ => rfl) (fun l i => rfl) (Nat.le_refl _)]
  simp
theorem w_eqExtS_self {a : List Ext} (h : a.length ≤ 1048576) : w_eqExtS a a = some true := by
  unfold w_eqExtS
  rw [brbe rfl]
  exact eq_gen (f := w_eqExt) (by omega) (fun x _ => w_eqExt_self x) (fun t => rfl)
theorem w_szExtS_eq {a : List Ext} {left : Int} (ha : a.length ≤ 9223372036854775807) (h0 : -1 ≤ left) (h1 : left ≤ 1048576) : ∃ r, w_szExtS a left = some r ∧ -1 ≤ r ∧ r ≤ 1048576 ∧ (0 ≤ r → a.length ≤ 1048576) := by
  unfold w_szExtS
  rw [wrap_i64 _ (by omega) (by omega)]
  by_cases h : left - (a.length : Int) < 0
  · rw [brd h]; exact ⟨_, rfl, by omega, by omega, by omega⟩
  · rw [brn h]; exact ⟨_, rfl, by omega, by omega, by omega⟩
end Go.AI.Fn

set_option linter.unusedVariables false
set_option linter.unusedSimpArgs false
namespace Go.AI.Fn

/-- A list is measured: itself and what is in it. -/
theorem sz_gen {α : Type} {P : α → Prop} {f : α → Int → Option Int} {a : List α} {left : Int} (ha : a.length ≤ 9223372036854775807) (h0 : -1 ≤ left) (h1 : left ≤ 1048576)
    (hf : ∀ x ∈ a, ∀ l, -1 ≤ l → l ≤ 1048576 → ∃ r, f x l = some r ∧ -9223372036854775808 ≤ r ∧ r ≤ 1048576 ∧ (0 ≤ r → P x)) {step : Int × Int → Option ((Int × Int) ⊕ (Unit ⊕ (Int × Int × Bool)))}
    (hs : ∀ l i, step (l, i) = br (decide (i < ((a.length : Nat) : Int))) ((atL a i).bind fun x => (f x l).bind fun r => br (decide (r < 0)) (some (.inr (.inl ()))) (some (.inl (r, IntKind.wrap .i64 (i + 1))))) (some (.inr (.inr (l, i, decide (i < ((a.length : Nat) : Int))))))) :
    ∃ r, br (decide (IntKind.wrap .i64 (left - ((a.length : Nat) : Int)) < 0)) (some (-1 : Int)) ((Loop step (IntKind.wrap .i64 (left - ((a.length : Nat) : Int)), 0)).bind (alt (fun _ => some (-1)) (fun e => some e.1))) = some r ∧ -1 ≤ r ∧ r ≤ 1048576 ∧ (0 ≤ r → a.length ≤ 1048576 ∧ ∀ x ∈ a, P x) := by
  rw [wrap_i64 _ (by omega) (by omega)]
  by_cases h : left - (a.length : Int) < 0
  · rw [brd h]; exact ⟨_, rfl, by omega, by omega, by omega⟩
  · rw [brn h]
    have key := Loop_inv (step := step) (fun s => 0 ≤ s.2 ∧ s.2 ≤ a.length ∧ 0 ≤ s.1 ∧ s.1 ≤ 1048576 ∧ ∀ j : Nat, (j : Int) < s.2 → ∀ x, a[j]? = some x → P x) (fun s => ((a.length : Int) - s.2).toNat)
      (fun e : Unit ⊕ (Int × Int × Bool) => ∀ q, e = .inr q → 0 ≤ q.1 ∧ q.1 ≤ 1048576 ∧ ∀ x ∈ a, P x) ?_ (left - (a.length : Int), 0) ⟨by dsimp only; omega, by dsimp only; omega, by dsimp only; omega, by dsimp only; omega, fun j hj => by dsimp only at hj; omega⟩
    · obtain ⟨e, he, hp⟩ := key
      rw [he]
      cases e with
      | inl u => exact ⟨-1, rfl, by omega, by omega, by omega⟩
      | inr q => have hq := hp q rfl; exact ⟨q.1, rfl, by omega, hq.2.1, fun _ => ⟨by omega, hq.2.2⟩⟩
    · rintro ⟨l, i⟩ ⟨i0, i1, l0, l1, hP⟩
      dsimp only at i0 i1 l0 l1 hP
      rw [hs]
      by_cases hi : i < (a.length : Int)
      · rw [brd hi]
        obtain ⟨x, hx, hx2, hm⟩ := atL_of i0 hi
        obtain ⟨r, hr, r0, r1, hPx⟩ := hf x hm l (by omega) l1
        rw [hx, Option.bind_some, hr, Option.bind_some]
        by_cases hn : r < 0
        · rw [brd hn]; exact .inr ⟨_, rfl, fun q hq => by cases hq⟩
        · rw [brn hn, wrap_i64 _ (by omega) (by omega)]
          refine .inl ⟨_, rfl, ⟨by dsimp only; omega, by dsimp only; omega, by dsimp only; omega, r1, fun j hj y hy => ?_⟩, by dsimp only; omega⟩
          dsimp only at hj
          by_cases c : (j : Int) < i
          · exact hP j c y hy
          · have : j = i.toNat := by omega
            subst this
            rw [hx2] at hy; cases hy
            exact hPx (by omega)
      · rw [brn hi]
        refine .inr ⟨_, rfl, fun q hq => ?_⟩
        cases hq
        refine ⟨l0, l1, fun x hx => ?_⟩
        obtain ⟨j, hj, rfl⟩ := List.getElem_of_mem hx
        exact hP j (by omega) _ (List.getElem?_eq_getElem hj)
def SzT (x : List UInt8) : Prop := x.length ≤ 1048576
def SzTs (a : List (List UInt8)) : Prop := a.length ≤ 1048576 ∧ ∀ x ∈ a, SzT x
def SzTss (a : List (List (List UInt8))) : Prop := a.length ≤ 1048576 ∧ ∀ x ∈ a, SzTs x
def SzEs (a : List (List Ext)) : Prop := a.length ≤ 1048576 ∧ ∀ x ∈ a, x.length ≤ 1048576
def SzQ (q : Query) : Prop := q.Pairs.length ≤ 1048576 ∧ SzTss q.Paths
def SzO (o : Opening) : Prop := SzEs o.Rounds ∧ SzTs o.Roots ∧ o.Queries.length ≤ 1048576 ∧ ∀ q ∈ o.Queries, SzQ q
def SzP (p : Proof) : Prop := SzT p.Root ∧ SzEs p.Gates ∧ SzEs p.Wires ∧ SzO p.Open
theorem SzO.sm {o : Opening} (h : SzO o) : SmO o := ⟨by have := h.1.1; omega, fun g hg => by have := h.1.2 g hg; omega, by have := h.2.1.1; omega, by have := h.2.2.1; omega, fun q hq => by have := (h.2.2.2 q hq).1; omega, fun q hq p hp => by have := ((h.2.2.2 q hq).2.2 p hp).1; omega⟩
theorem w_szExtSS_eq {a : List (List Ext)} {left : Int} (ha : bdL (bdL bdExt) a) (h0 : -1 ≤ left) (h1 : left ≤ 1048576) : ∃ r, w_szExtSS a left = some r ∧ -1 ≤ r ∧ r ≤ 1048576 ∧ (0 ≤ r → SzEs a) :=
  sz_gen (f := w_szExtS) (step := w_szExtSS_1_s a) ha.1 h0 h1 (fun x hx l l0 l1 => by
    obtain ⟨r, h2, h3, h4, h5⟩ := w_szExtS_eq (ha.2 x hx).1 l0 l1
    exact ⟨r, h2, by omega, h4, h5⟩) (fun l i => rfl)
theorem w_szStringS_eq {a : List (List UInt8)} {left : Int} (ha : bdL bdS a) (h0 : -1 ≤ left) (h1 : left ≤ 1048576) : ∃ r, w_szStringS a left = some r ∧ -1 ≤ r ∧ r ≤ 1048576 ∧ (0 ≤ r → SzTs a) :=
  sz_gen (f := fun x l => some (IntKind.wrap .i64 (l - ((x.length : Nat) : Int)))) (step := w_szStringS_1_s a) ha.1 h0 h1 (fun x hx l l0 l1 => by
    have hb : x.length ≤ 9223372036854775807 := ha.2 x hx
    exact ⟨_, rfl, by rw [wrap_i64 _ (by omega) (by omega)]; omega, by rw [wrap_i64 _ (by omega) (by omega)]; omega, fun h => by rw [wrap_i64 _ (by omega) (by omega)] at h; show x.length ≤ _; omega⟩) (fun l i => by simp only [w_szStringS_1_s, Option.bind_some])
theorem w_szStringSS_eq {a : List (List (List UInt8))} {left : Int} (ha : bdL (bdL bdS) a) (h0 : -1 ≤ left) (h1 : left ≤ 1048576) : ∃ r, w_szStringSS a left = some r ∧ -1 ≤ r ∧ r ≤ 1048576 ∧ (0 ≤ r → SzTss a) :=
  sz_gen (f := w_szStringS) (step := w_szStringSS_1_s a) ha.1 h0 h1 (fun x hx l l0 l1 => by
    obtain ⟨r, h2, h3, h4, h5⟩ := w_szStringS_eq (ha.2 x hx) l0 l1
    exact ⟨r, h2, by omega, h4, h5⟩) (fun l i => rfl)
theorem w_szQuery_eq {q : Query} {left : Int} (ha : bdQuery q) (h0 : -1 ≤ left) (h1 : left ≤ 1048576) : ∃ r, w_szQuery q left = some r ∧ -1 ≤ r ∧ r ≤ 1048576 ∧ (0 ≤ r → SzQ q) := by
  obtain ⟨r, h2, h3, h4, h5⟩ := w_szExtS_eq ha.1.1 h0 h1
  unfold w_szQuery
  rw [h2, Option.bind_some]
  by_cases c : r < 0
  · rw [brd c]; exact ⟨_, rfl, by omega, by omega, by omega⟩
  · rw [brn c]
    obtain ⟨r2, g2, g3, g4, g5⟩ := w_szStringSS_eq ha.2 h3 h4
    rw [g2, Option.bind_some]
    by_cases d : r2 < 0
    · rw [brd d]; exact ⟨_, rfl, by omega, by omega, by omega⟩
    · rw [brn d]; exact ⟨_, rfl, g3, g4, fun _ => ⟨h5 (by omega), g5 (by omega)⟩⟩
theorem w_szQueryS_eq {a : List Query} {left : Int} (ha : bdL bdQuery a) (h0 : -1 ≤ left) (h1 : left ≤ 1048576) : ∃ r, w_szQueryS a left = some r ∧ -1 ≤ r ∧ r ≤ 1048576 ∧ (0 ≤ r → a.length ≤ 1048576 ∧ ∀ q ∈ a, SzQ q) :=
  sz_gen (f := w_szQuery) (step := w_szQueryS_1_s a) ha.1 h0 h1 (fun x hx l l0 l1 => by
    obtain ⟨r, h2, h3, h4, h5⟩ := w_szQuery_eq (ha.2 x hx) l0 l1
    exact ⟨r, h2, by omega, h4, h5⟩) (fun l i => rfl)
theorem w_szOpening_eq {o : Opening} {left : Int} (ha : bdOpening o) (h0 : -1 ≤ left) (h1 : left ≤ 1048576) : ∃ r, w_szOpening o left = some r ∧ -1 ≤ r ∧ r ≤ 1048576 ∧ (0 ≤ r → SzO o) := by
  obtain ⟨b1, b2, _, _, b3⟩ := ha
  obtain ⟨r, h2, h3, h4, h5⟩ := w_szExtSS_eq b1 h0 h1
  unfold w_szOpening
  rw [h2, Option.bind_some]
  by_cases c : r < 0
  · rw [brd c]; exact ⟨_, rfl, by omega, by omega, by omega⟩
  · rw [brn c]
    obtain ⟨r2, g2, g3, g4, g5⟩ := w_szStringS_eq b2 h3 h4
    rw [g2, Option.bind_some]
    by_cases d : r2 < 0
    · rw [brd d]; exact ⟨_, rfl, by omega, by omega, by omega⟩
    · rw [brn d]
      obtain ⟨r3, k2, k3, k4, k5⟩ := w_szQueryS_eq b3 g3 g4
      rw [k2, Option.bind_some]
      by_cases e : r3 < 0
      · rw [brd e]; exact ⟨_, rfl, by omega, by omega, by omega⟩
      · rw [brn e]; exact ⟨_, rfl, k3, k4, fun _ => ⟨h5 (by omega), g5 (by omega), k5 (by omega)⟩⟩
theorem w_szProof_eq {p : Proof} {left : Int} (ha : bdProof p) (h0 : -1 ≤ left) (h1 : left ≤ 1048576) : ∃ r, w_szProof p left = some r ∧ -1 ≤ r ∧ r ≤ 1048576 ∧ (0 ≤ r → SzP p) := by
  obtain ⟨b0, b1, _, _, _, b2, _, b3⟩ := ha
  have b0' : p.Root.length ≤ 9223372036854775807 := b0
  unfold w_szProof
  rw [wrap_i64 _ (by omega) (by omega)]
  by_cases c0 : left - (p.Root.length : Int) < 0
  · rw [brd c0]; exact ⟨_, rfl, by omega, by omega, by omega⟩
  · rw [brn c0]
    obtain ⟨r, h2, h3, h4, h5⟩ := w_szExtSS_eq b1 (show -1 ≤ left - (p.Root.length : Int) by omega) (by omega)
    rw [h2, Option.bind_some]
    by_cases c : r < 0
    · rw [brd c]; exact ⟨_, rfl, by omega, by omega, by omega⟩
    · rw [brn c]
      obtain ⟨r2, g2, g3, g4, g5⟩ := w_szExtSS_eq b2 h3 h4
      rw [g2, Option.bind_some]
      by_cases d : r2 < 0
      · rw [brd d]; exact ⟨_, rfl, by omega, by omega, by omega⟩
      · rw [brn d]
        obtain ⟨r3, k2, k3, k4, k5⟩ := w_szOpening_eq b3 g3 g4
        rw [k2, Option.bind_some]
        by_cases e : r3 < 0
        · rw [brd e]; exact ⟨_, rfl, by omega, by omega, by omega⟩
        · rw [brn e]; exact ⟨_, rfl, k3, k4, fun _ => ⟨by show p.Root.length ≤ _; omega, h5 (by omega), g5 (by omega), k5 (by omega)⟩⟩
/-! ### copies -/
theorem w_toExtSS_eq {a : List (List Ext)} (h : SzEs a) : w_toExtSS a = some a := by
  have := h.1
  unfold w_toExtSS
  rw [br_mk (by omega) (by omega) (by omega), Int.toNat_natCast, to_gen (step := w_toExtSS_1_s a) (f := w_toExtS) (g := fun x => x) (by omega) (fun x hx => w_toExtS_eq (h.2 x hx)) (fun l i => rfl) (Nat.le_refl _)]
  simp
theorem w_toStringS_eq {a : List (List UInt8)} (h : SzTs a) : w_toStringS a = some a := by
  have := h.1
  unfold w_toStringS
  rw [br_mk (by omega) (by omega) (by omega), Int.toNat_natCast, to_gen (step := w_toStringS_1_s a) (f := fun x => some x) (g := fun x => x) (by omega) (fun x hx => rfl) (fun l i => rfl) (Nat.le_refl _)]
  simp
theorem w_toStringSS_eq {a : List (List (List UInt8))} (h : SzTss a) : w_toStringSS a = some a := by
  have := h.1
  unfold w_toStringSS
  rw [br_mk (by omega) (by omega) (by omega), Int.toNat_natCast, to_gen (step := w_toStringSS_1_s a) (f := w_toStringS) (g := fun x => x) (by omega) (fun x hx => w_toStringS_eq (h.2 x hx)) (fun l i => rfl) (Nat.le_refl _)]
  simp
theorem w_toQuery_eq {q : Query} (h : SzQ q) : w_toQuery q = some q := by
  unfold w_toQuery
  rw [w_toExtS_eq h.1, Option.bind_some, w_toStringSS_eq h.2]; rfl
theorem w_toQueryS_eq {a : List Query} (h : a.length ≤ 1048576) (hq : ∀ q ∈ a, SzQ q) : w_toQueryS a = some a := by
  unfold w_toQueryS
  rw [br_mk (by omega) (by omega) (by omega), Int.toNat_natCast, to_gen (step := w_toQueryS_1_s a) (f := w_toQuery) (g := fun x => x) (by omega) (fun x hx => w_toQuery_eq (hq x hx)) (fun l i => rfl) (Nat.le_refl _)]
  simp
theorem w_toOpening_eq {o : Opening} (h : SzO o) : w_toOpening o = some o := by
  unfold w_toOpening w_toExt
  rw [w_toExtSS_eq h.1, Option.bind_some, w_toStringS_eq h.2.1, Option.bind_some, Option.bind_some, w_toQueryS_eq h.2.2.1 h.2.2.2]; rfl
theorem w_toProof_eq {p : Proof} (h : SzP p) : w_toProof p = some p := by
  unfold w_toProof w_toExt
  rw [w_toExtSS_eq h.2.1, Option.bind_some, Option.bind_some, Option.bind_some, Option.bind_some, w_toExtSS_eq h.2.2.1, Option.bind_some, Option.bind_some, w_toOpening_eq h.2.2.2]; rfl
/-! ### comparisons -/
theorem w_eqExtSS_self {a : List (List Ext)} (h : SzEs a) : w_eqExtSS a a = some true := by
  have := h.1
  unfold w_eqExtSS
  rw [brbe rfl]
  exact eq_gen (f := w_eqExtS) (by omega) (fun x hx => w_eqExtS_self (h.2 x hx)) (fun t => rfl)
theorem w_eqStringS_self {a : List (List UInt8)} (h : SzTs a) : w_eqStringS a a = some true := by
  have := h.1
  unfold w_eqStringS
  rw [brbe rfl]
  refine eq_gen (a := a) (f := fun x y => some (x == y)) (by omega) (fun x _ => by simp) (fun t => ?_)
  simp only [w_eqStringS_1_s]
  rfl
theorem w_eqStringSS_self {a : List (List (List UInt8))} (h : SzTss a) : w_eqStringSS a a = some true := by
  have := h.1
  unfold w_eqStringSS
  rw [brbe rfl]
  exact eq_gen (f := w_eqStringS) (by omega) (fun x hx => w_eqStringS_self (h.2 x hx)) (fun t => rfl)
theorem w_eqQuery_self {q : Query} (h : SzQ q) : w_eqQuery q q = some true := by
  unfold w_eqQuery
  rw [w_eqExtS_self h.1, Option.bind_some, Bool.not_true, br_false, w_eqStringSS_self h.2, Option.bind_some, Bool.not_true, br_false]
theorem w_eqQueryS_self {a : List Query} (h : a.length ≤ 1048576) (hq : ∀ q ∈ a, SzQ q) : w_eqQueryS a a = some true := by
  unfold w_eqQueryS
  rw [brbe rfl]
  exact eq_gen (f := w_eqQuery) (by omega) (fun x hx => w_eqQuery_self (hq x hx)) (fun t => rfl)
theorem w_eqOpening_self {o : Opening} (h : SzO o) : w_eqOpening o o = some true := by
  unfold w_eqOpening
  rw [w_eqExtSS_self h.1, Option.bind_some, Bool.not_true, br_false, w_eqStringS_self h.2.1, Option.bind_some, Bool.not_true, br_false, w_eqExt_self, Option.bind_some, Bool.not_true, br_false, brbe rfl, w_eqQueryS_self h.2.2.1 h.2.2.2, Option.bind_some, Bool.not_true, br_false]
theorem w_eqProof_self {p : Proof} (h : SzP p) : w_eqProof p p = some true := by
  unfold w_eqProof
  rw [br_no (by simp), w_eqExtSS_self h.2.1, Option.bind_some, Bool.not_true, br_false, w_eqExt_self, Option.bind_some, Bool.not_true, br_false, w_eqExt_self, Option.bind_some, Bool.not_true, br_false, w_eqExt_self, Option.bind_some, Bool.not_true, br_false, w_eqExtSS_self h.2.2.1, Option.bind_some, Bool.not_true, br_false, w_eqExt_self, Option.bind_some, Bool.not_true, br_false, w_eqOpening_self h.2.2.2, Option.bind_some, Bool.not_true, br_false]
end Go.AI.Fn

set_option linter.unusedVariables false
set_option linter.unusedSimpArgs false
namespace Go.AI.Fn

noncomputable def okP (p : Proof) (s : System) (t : Setting) : Bool :=
  sysB s && (setB t && (h32 p.Root && (rndsB p.Gates s.Rows 4 && (okEb p.VA && (okEb p.VB && (okEb p.VC && (rndsB p.Wires s.Cols 3 && (okEb p.VW && okO p.Open (s.Cols - 1) t))))))))
theorem rl_eq {R : List (List Ext)} {size : Int} {X : Type} {x y : X} (hl : R.length ≤ 1048576) (hR : ∀ g ∈ R, g.length ≤ 1048576) {step : Int → Option (Int ⊕ (Unit ⊕ (Int × Bool)))} {g : Int × Bool → Option X} (hg : ∀ e, g e = some y)
    (hs : ∀ t, step t = br (decide (t < ((R.length : Nat) : Int))) ((atL R t).bind fun x => br (((x.length : Nat) : Int) != size) (some (.inr (.inl ()))) ((atL R t).bind fun x2 => (s_l02List x2).bind fun r => br (!r) (some (.inr (.inl ()))) (some (.inl (IntKind.wrap .i64 (t + 1)))))) (some (.inr (.inr (t, decide (t < ((R.length : Nat) : Int))))))) :
    (Loop step 0).bind (alt (fun _ => some x) g) = some (if R.all (rndB size) = true then y else x) := by
  rw [← allN_list R [] (rndB size)]
  have hm : ∀ k, k < R.length → R.getD k [] ∈ R := fun k hk => by simp [hk]
  refine loop_all R.length _ (fun _ => ()) (fun k hk hp => ?_) (fun k hk hp => ?_) (e2 := ((R.length : Int), false)) ?_ (fun _ => rfl) (hg _)
  · have := hR _ (hm k hk)
    simp only [rndB, Bool.and_eq_true, decide_eq_true_eq] at hp
    rw [hs, brd (by omega), atL_gdX (d := []) hk, Option.bind_some, brbe hp.1, Option.bind_some, s_listE_eq (by omega), Option.bind_some, hp.2, Bool.not_true, br_false, wrap_i64 _ (by omega) (by omega)]; rfl
  · have := hR _ (hm k hk)
    rw [hs, brd (by omega), atL_gdX (d := []) hk, Option.bind_some]
    by_cases c : ((R.getD k []).length : Int) = size
    · rw [rndB, decide_eq_true c, Bool.true_and] at hp
      rw [brbe c, Option.bind_some, s_listE_eq (by omega), Option.bind_some, hp]; rfl
    · rw [brb c]
  · rw [hs, brn (by omega), decide_eq_false (by omega)]
theorem i_ProofOK_eq {p : Proof} {s : System} {t : Setting} (h : SzP p) (hA : s.A.length ≤ 1048576) (hB : s.B.length ≤ 1048576) (hC : s.C.length ≤ 1048576) : i_ProofOK p s t = some (okP p s t) := by
  have g1 := h.2.1.1
  have g2 := h.2.2.1.1
  unfold i_ProofOK okP
  rw [i_SystemOK_eq (by omega) (by omega) (by omega), Option.bind_some]
  cases hs : sysB s
  · rfl
  · obtain ⟨hr, hc, _⟩ := sysB_in hs
    rw [br_true, i_SettingOK_eq, Option.bind_some, i_isHash_eq, i_areRounds_eq (by omega) (fun g hg => by have := h.2.1.2 g hg; omega), i_areRounds_eq (by omega) (fun g hg => by have := h.2.2.1.2 g hg; omega), wrap_i64 _ (by omega) (by omega), i_OpeningOK_eq h.2.2.2.sm, i_ExtOK_eq, i_ExtOK_eq, i_ExtOK_eq, i_ExtOK_eq]
    simp only [Option.bind_some, Bool.true_and, h32]
    cases setB t <;> cases decide (p.Root.length = 32) <;> cases rndsB p.Gates s.Rows 4 <;> cases okEb p.VA <;> cases okEb p.VB <;> cases okEb p.VC <;> cases rndsB p.Wires s.Cols 3 <;> cases okEb p.VW <;> rfl
theorem s_ProofOK_eq {p : Proof} {s : System} {t : Setting} (h : SzP p) : s_ProofOK p s t = some (okP p s t) := by
  have g1 := h.2.1.1
  have g2 := h.2.2.1.1
  unfold s_ProofOK okP rndsB
  rw [s_SystemOK_eq, Option.bind_some]
  cases hs : sysB s
  · rfl
  · obtain ⟨hr, hc, _⟩ := sysB_in hs
    rw [Bool.not_true, br_false, s_SettingOK_eq, Option.bind_some, s_listE_eq (by simp), Option.bind_some, wrap_i64 (s.Cols - 1) (by omega) (by omega), s_OpeningOK_eq h.2.2.2.sm]
    cases setB t
    · rfl
    · rw [Bool.not_true, br_false, Bool.true_and, Bool.true_and, h32]
      by_cases c1 : p.Root.length = 32
      · rw [brbe (by omega), decide_eq_true c1, Bool.true_and]
        by_cases c2 : (p.Gates.length : Int) = s.Rows
        · rw [brbe c2, decide_eq_true c2, Bool.true_and]
          by_cases c3 : (p.Wires.length : Int) = s.Cols
          · rw [brbe c3, decide_eq_true c3, Bool.true_and]
            simp only [Option.bind_some]
            have k2 := fun l c c2 c3 c4 c5 c6 c7 c8 c10 c11 c12 c13 c14 c15 c16 c17 c18 c19 c20 c21 c22 c23 c24 c25 c26 => rl_eq (R := p.Wires) (size := 3) (x := false) (y := okO p.Open (s.Cols - 1) t) (step := s_ProofOK_2_s l c c2 c3 c4 c5 c6 c7 c8 p.Wires c10 c11 c12 c13 c14 c15 c16 c17 c18 c19 c20 c21 c22 c23 c24 c25 c26) (g := fun _ => some (okO p.Open (s.Cols - 1) t)) g2 h.2.2.1.2 (fun _ => rfl) (fun t => rfl)
            have k1 := fun l c c3 c4 c5 c6 c7 c8 c9 c10 c11 c12 c13 c14 c15 c16 c17 c18 c19 c20 c21 c22 c23 c24 c25 c26 g (hg : ∀ e, g e = _) => rl_eq (R := p.Gates) (size := 4) (x := false) (y := if p.Wires.all (rndB 3) = true then okO p.Open (s.Cols - 1) t else false) (step := s_ProofOK_1_s l c p.Gates c3 c4 c5 c6 c7 c8 c9 c10 c11 c12 c13 c14 c15 c16 c17 c18 c19 c20 c21 c22 c23 c24 c25 c26) (g := g) g1 h.2.1.2 hg (fun t => rfl)
            rw [k1 _ _ _ _ _ _ _ _ _ _ _ _ _ _ _ _ _ _ _ _ _ _ _ _ _ _ _ (fun e => k2 _ _ _ _ _ _ _ _ _ _ _ _ _ _ _ _ _ _ _ _ _ _ _ _ _ _)]
            simp only [List.all_cons, List.all_nil, Bool.and_true]
            cases okEb p.VA <;> cases okEb p.VB <;> cases okEb p.VC <;> cases okEb p.VW <;> cases p.Gates.all (rndB 4) <;> cases p.Wires.all (rndB 3) <;> rfl
          · rw [brb c3, decide_eq_false c3]
            cases p.Gates.all (rndB 4) <;> cases okEb p.VA <;> cases okEb p.VB <;> cases okEb p.VC <;> rfl
        · rw [brb c2, decide_eq_false c2]; rfl
      · rw [brb (by omega), decide_eq_false c1]; rfl
end Go.AI.Fn

set_option linter.unusedVariables false
namespace Go.AI.Fn
theorem law_FnExactProofOK (p : Proof) (s : System) (t : Setting) (hp : bdProof p) (hs : bdSystem s) (ht : bdSetting t) : w_FnExactProofOK p s t = some true := by
  obtain ⟨_, _, _, ⟨hA, _⟩, ⟨hB, _⟩, ⟨hC, _⟩⟩ := hs
  unfold w_FnExactProofOK
  obtain ⟨q, e2, q0, q1, h2⟩ := w_szProof_eq (left := 1048576) hp (by omega) (by omega)
  rw [e2, Option.bind_some]
  by_cases c3 : q < 0
  · rw [brd c3]
  rw [brn c3]
  obtain ⟨r, e1, r0, r1, h1⟩ := szS_eq hA hB hC q0 q1
  rw [e1, Option.bind_some]
  by_cases c2 : r < 0
  · rw [brd c2]
  rw [brn c2]
  obtain ⟨hA', hB', hC'⟩ := h1 (by omega)
  have hP := h2 (by omega)
  unfold w_toSetting
  rw [w_toProof_eq hP, toS_eq hA' hB' hC']
  simp only [Option.bind_some]
  rw [s_ProofOK_eq hP, i_ProofOK_eq hP hA' hB' hC', w_eqProof_self hP, eqS_eq hA' hB' hC']
  simp only [Option.bind_some, Bool.not_true, br_false]
  rw [br_no (by simp)]
end Go.AI.Fn
