/- Plain laws for printed functions: loops whose states are told in advance; numbers; places. -/
import Derived.Test.YtblcfalolllikaaAiW
import Derived.Test.YtblcfalolllikaaFx0
import Derived.KernelRfl
set_option linter.unusedVariables false
namespace Go.AI

theorem Loop_inl {S E : Type} {step : S → Option (S ⊕ E)} {s s' : S} (h : step s = some (.inl s')) : Loop step s = Loop step s' := by rw [Loop_eq, h]; rfl
theorem Loop_inr {S E : Type} {step : S → Option (S ⊕ E)} {s : S} {e : E} (h : step s = some (.inr e)) : Loop step s = some e := by rw [Loop_eq, h]; rfl
/-- A loop that goes through states that are told. -/
theorem Loop_for {S E : Type} {step : S → Option (S ⊕ E)} (F : Nat → S) (n : Nat) {e : E} (hs : ∀ k, k < n → step (F k) = some (.inl (F (k + 1)))) (he : step (F n) = some (.inr e)) : Loop step (F 0) = some e := by
  have key : ∀ m k, k + m = n → Loop step (F k) = some e := by
    intro m
    induction m with
    | zero => intro k hk; have : k = n := by omega
              subst this; exact Loop_inr he
    | succ m ih => intro k hk; rw [Loop_inl (hs k (by omega))]; exact ih (k + 1) (by omega)
  exact key n 0 (by omega)
/-- The first place where something fails. -/
theorem first_bad (P : Nat → Bool) : ∀ n, (∀ k, k < n → P k = true) ∨ ∃ k, k < n ∧ P k = false ∧ ∀ j, j < k → P j = true
  | 0 => .inl (by omega)
  | n + 1 => by
    rcases first_bad P n with h | ⟨k, hk, h1, h2⟩
    · cases hn : P n
      · exact .inr ⟨n, by omega, hn, h⟩
      · refine .inl fun k hk => ?_
        by_cases e : k = n
        · subst e; exact hn
        · exact h k (by omega)
    · exact .inr ⟨k, by omega, h1, h2⟩
/-- A loop that goes on as long as something holds. -/
theorem Loop_all {S E : Type} {step : S → Option (S ⊕ E)} (F : Nat → S) (n : Nat) (P : Nat → Bool) (x : Nat → E) {e : E} (hs : ∀ k, k < n → P k = true → step (F k) = some (.inl (F (k + 1))))
    (hx : ∀ k, k < n → P k = false → step (F k) = some (.inr (x k))) (he : step (F n) = some (.inr e)) :
    ((∀ k, k < n → P k = true) ∧ Loop step (F 0) = some e) ∨ ∃ k, k < n ∧ P k = false ∧ (∀ j, j < k → P j = true) ∧ Loop step (F 0) = some (x k) := by
  rcases first_bad P n with h | ⟨k, hk, h1, h2⟩
  · exact .inl ⟨h, Loop_for F n (fun k hk => hs k hk (h k hk)) he⟩
  · exact .inr ⟨k, hk, h1, h2, Loop_for F k (fun j hj => hs j (by omega) (h2 j hj)) (hx k hk h1)⟩
/-- A loop with an invariant, a measure, a postcondition. -/
theorem Loop_inv {S E : Type} {step : S → Option (S ⊕ E)} (Inv : S → Prop) (me : S → Nat) (Post : E → Prop)
    (hs : ∀ s, Inv s → (∃ s', step s = some (.inl s') ∧ Inv s' ∧ me s' < me s) ∨ (∃ e, step s = some (.inr e) ∧ Post e)) :
    ∀ s, Inv s → ∃ e, Loop step s = some e ∧ Post e := by
  intro s
  generalize hm : me s = m
  induction m using Nat.strongRecOn generalizing s with
  | _ m ih =>
    intro hi
    rw [Loop_eq]
    rcases hs s hi with ⟨s', h1, h2, h3⟩ | ⟨e, h1, h2⟩
    · rw [h1]; exact ih (me s') (by omega) s' rfl h2
    · rw [h1]; exact ⟨e, rfl, h2⟩

theorem br_of {α : Type} {c : Bool} {x y : α} (h : c = true) : br c x y = x := by subst h; rfl
theorem br_no {α : Type} {c : Bool} {x y : α} (h : c = false) : br c x y = y := by subst h; rfl
theorem brd {α : Type} {p : Prop} [Decidable p] {x y : α} (h : p) : br (decide p) x y = x := br_of (decide_eq_true h)
theorem brn {α : Type} {p : Prop} [Decidable p] {x y : α} (h : ¬p) : br (decide p) x y = y := br_no (decide_eq_false h)
theorem brdd {α : Type} {p q : Prop} [Decidable p] [Decidable q] {x y : α} (h : p) (g : q) : br (decide p && decide q) x y = x := br_of (by simp [h, g])
theorem bre {α : Type} {a b : Int} {x y : α} (h : a = b) : br (a == b) x y = x := br_of (by simp [h])
theorem brne {α : Type} {a b : Int} {x y : α} (h : a ≠ b) : br (a == b) x y = y := br_no (by simp [h])
theorem brb {α : Type} {a b : Int} {x y : α} (h : a ≠ b) : br (a != b) x y = x := br_of (by simp [h])
theorem brbe {α : Type} {a b : Int} {x y : α} (h : a = b) : br (a != b) x y = y := br_no (by simp [h])
theorem notd {α : Type} {p : Prop} [Decidable p] {x y : α} (h : p) : br (!decide p) x y = y := br_no (by simp [h])
theorem notn {α : Type} {p : Prop} [Decidable p] {x y : α} (h : ¬p) : br (!decide p) x y = x := br_of (by simp [h])
theorem br_ite {α : Type} {c : Bool} {x y : α} : br c x y = if c = true then x else y := by cases c <;> rfl
theorem tmod_nn (a b : Int) (h : 0 ≤ a) : a.tmod b = a % b := Int.tmod_eq_emod_of_nonneg h
theorem tdiv_nn (a b : Int) (h : 0 ≤ a) : a.tdiv b = a / b := Int.tdiv_eq_ediv_of_nonneg h
theorem u8_lt (x : UInt8) : (x.toNat : Int) < 256 := by have := x.toNat_lt; omega
theorem fits_of {n b : Nat} (h : n * b ≤ 1099511627776) : fits n b = true := by simp [fits, okBound, h]
theorem br_fits {α : Type} {n b : Nat} {x y : α} (h : n * b ≤ 1099511627776) : br (fits n b) x y = x := br_of (fits_of h)
theorem mkOK_of {l c : Int} {b : Nat} (h0 : 0 ≤ l) (h1 : l ≤ c) (h2 : c * b ≤ 1099511627776) : mkOK l c b = true := by simp [mkOK, okBound, h0, h1, h2]
theorem br_mk {α : Type} {l c : Int} {b : Nat} {x y : α} (h0 : 0 ≤ l) (h1 : l ≤ c) (h2 : c * b ≤ 1099511627776) : br (mkOK l c b) x y = x := br_of (mkOK_of h0 h1 h2)

theorem atL_get {α : Type} {l : List α} {i : Int} (h0 : 0 ≤ i) {x : α} (h : l[i.toNat]? = some x) : atL l i = some x := by simp [atL, h0, h]
theorem atL_nat {α : Type} {l : List α} {k : Nat} (h : k < l.length) : atL l (k : Int) = some l[k] := by simp [atL, h]
theorem atL_int {α : Type} {l : List α} {i : Int} (h0 : 0 ≤ i) (h : i.toNat < l.length) : atL l i = some l[i.toNat] := by simp [atL, h0, h]
theorem atL_d {l : List Int} {i : Int} (h0 : 0 ≤ i) (h : i.toNat < l.length) : atL l i = some (l.getD i.toNat 0) := by simp [atL, h0, h]
theorem get_bind {β : Type} {l : List Int} {i : Nat} {f : Int → Option β} (h : i < l.length) : (l[i]?).bind f = f (l.getD i 0) := by simp [h]
theorem get_some {α : Type} {l : List α} {i : Nat} (h : i < l.length) : l[i]? = some l[i] := List.getElem?_eq_getElem h
theorem atL_of {α : Type} {l : List α} {i : Int} (h0 : 0 ≤ i) (h1 : i < l.length) : ∃ x, atL l i = some x ∧ l[i.toNat]? = some x ∧ x ∈ l := by
  have h : i.toNat < l.length := by omega
  exact ⟨l[i.toNat], by simp [atL, h0, h], by simp [h], List.getElem_mem h⟩
theorem drop_cons {α : Type} {l : List α} {i : Nat} (h : i < l.length) : ∃ x r, l.drop i = x :: r ∧ l.drop (i + 1) = r ∧ l[i]? = some x :=
  ⟨l[i], l.drop (i + 1), List.drop_eq_getElem_cons h, rfl, by simp [h]⟩
theorem atL_drop {α : Type} {l r : List α} {x : α} {i : Int} (h0 : 0 ≤ i) (h : l.drop i.toNat = x :: r) : atL l i = some x := by
  have : l[i.toNat]? = some x := by rw [← List.head?_drop, h]; rfl
  simp [atL, h0, this]
theorem subL_of {α : Type} {l : List α} {a b : Int} (h0 : 0 ≤ a) (h1 : a ≤ b) (h2 : b ≤ l.length) : subL l a b = some ((l.drop a.toNat).take (b.toNat - a.toNat)) := by
  simp [subL, h0, h1, h2, List.drop_take]
theorem take_succ {α : Type} {l : List α} {k : Nat} (h : k < l.length) : l.take (k + 1) = l.take k ++ [l[k]] := by rw [List.take_succ_eq_append_getElem h]
theorem cast_succ (k : Nat) : ((k + 1 : Nat) : Int) = (k : Int) + 1 := by omega
theorem nZ_len (n : Nat) : (nZ n).length = n := by simp [nZ]
/-- A state that is turned step by step. -/
def iU {α : Type} (f : Nat → α → α) : Nat → α → α
  | 0, l => l
  | k + 1, l => f k (iU f k l)
theorem iU_len {f : Nat → List Int → List Int} (hf : ∀ k l, (f k l).length = l.length) : ∀ (k : Nat) (l : List Int), (iU f k l).length = l.length
  | 0, l => rfl
  | k + 1, l => by rw [iU, hf, iU_len hf k l]
end Go.AI

set_option linter.unusedVariables false
set_option linter.unusedSimpArgs false
namespace Go.AI.Fn

abbrev xo (a b : Int) : Int := xor64 .u64 a b
/-- Turned left. -/
def rot (x s : Int) : Int := if s = 0 then x else or64 .u64 (shl64 .u64 x s) (shr64 .u64 x (64 - s))
def u64b (x : Int) : Prop := 0 ≤ x ∧ x < 18446744073709551616
theorem wrapu_b (x : Int) : u64b (IntKind.wrap .u64 x) := by
  unfold u64b; simp [IntKind.wrap, IntKind.bits, IntKind.signed]; omega
theorem xo_b (a b : Int) : u64b (xo a b) := wrapu_b _
theorem bv_toNat {x : Int} (h : u64b x) : ((BitVec.ofInt 64 x).toNat : Int) = x := by
  obtain ⟨h0, h1⟩ := h
  rw [BitVec.toNat_ofInt]; omega
theorem xo_zero {a : Int} (h : u64b a) : xo 0 a = a := by
  show IntKind.wrap .u64 _ = a
  have : (BitVec.ofInt 64 0 ^^^ BitVec.ofInt 64 a) = BitVec.ofInt 64 a := by simp
  show IntKind.wrap .u64 ((BitVec.ofInt 64 0 ^^^ BitVec.ofInt 64 a).toNat : Int) = a
  rw [this, bv_toNat h, wrap_u64 a h.1 h.2]
theorem or_zero {a : Int} (h : u64b a) : or64 .u64 a 0 = a := by
  have : (BitVec.ofInt 64 a ||| BitVec.ofInt 64 0) = BitVec.ofInt 64 a := by simp
  show IntKind.wrap .u64 ((BitVec.ofInt 64 a ||| BitVec.ofInt 64 0).toNat : Int) = a
  rw [this, bv_toNat h, wrap_u64 a h.1 h.2]
theorem andn_eq (x y : Int) : andn64 .u64 x y = and64 .u64 (not64 .u64 y) x := by
  show IntKind.wrap .u64 ((BitVec.ofInt 64 x &&& ~~~ BitVec.ofInt 64 y).toNat : Int) = IntKind.wrap .u64 ((BitVec.ofInt 64 (not64 .u64 y) &&& BitVec.ofInt 64 x).toNat : Int)
  have h : BitVec.ofInt 64 (not64 .u64 y) = ~~~ BitVec.ofInt 64 y := by
    show BitVec.ofInt 64 (IntKind.wrap .u64 ((BitVec.ofInt 64 18446744073709551615 ^^^ BitVec.ofInt 64 y).toNat : Int)) = _
    have e : (BitVec.ofInt 64 18446744073709551615 ^^^ BitVec.ofInt 64 y) = ~~~ BitVec.ofInt 64 y := by
      rw [show BitVec.ofInt 64 18446744073709551615 = BitVec.allOnes 64 by decide, BitVec.allOnes_xor]
    rw [e, wrap_u64 _ (by omega) (by have := (~~~ BitVec.ofInt 64 y).isLt; omega)]
    rw [BitVec.ofInt_natCast, BitVec.ofNat_toNat]; simp
  rw [h, BitVec.and_comm]
theorem turn_eq {x s : Int} (hs : 0 ≤ s ∧ s < 64) : s_l03Turn x s = some (rot x s) := by
  unfold s_l03Turn rot
  by_cases h : s = 0
  · rw [bre h, if_pos h]
  · rw [brne h, if_neg h, brd hs.1, wrap_u64 (64 - s) (by omega) (by omega), brd (by omega)]
end Go.AI.Fn

set_option linter.unusedVariables false
set_option linter.unusedSimpArgs false
namespace Go.AI.Fn

theorem and63 : ∀ k : Nat, k < 64 → and64 .u64 (IntKind.wrap .u64 (k : Int)) 63 = (k : Int) := by decide
theorem rotl_eq {x s : Int} (hs : 0 ≤ s ∧ s < 64) (hx : s ≠ 0 ∨ u64b x) : math_bits_RotateLeft64 x s = some (rot x s) := by
  have e : and64 .u64 (IntKind.wrap .u64 s) 63 = s := by
    have := and63 s.toNat (by omega)
    rwa [Int.toNat_of_nonneg hs.1] at this
  unfold math_bits_RotateLeft64 rot
  rw [e, brd hs.1, wrap_u64 (64 - s) (by omega) (by omega), brd (by omega)]
  by_cases h : s = 0
  · subst h
    have hx : u64b x := hx.resolve_left (fun h => h rfl)
    have e1 : shl64 .u64 x 0 = x := by
      show IntKind.wrap .u64 (x * 2 ^ 0) = x
      rw [Int.pow_zero, Int.mul_one, wrap_u64 x hx.1 hx.2]
    have e2 : shr64 .u64 x (64 - 0) = 0 := by
      show x.fdiv (2 ^ 64) = 0
      rw [Int.fdiv_eq_ediv_of_nonneg _ (by decide)]
      exact Int.ediv_eq_zero_of_lt hx.1 hx.2
    rw [e1, e2, or_zero hx, if_pos rfl]
  · rw [if_neg h]

abbrev g (l : List Int) (i : Int) : Int := l.getD i.toNat 0

def shiftL : List Int := [0, 1, 62, 28, 27, 36, 44, 6, 55, 20, 3, 10, 43, 25, 39, 41, 45, 15, 21, 8, 18, 2, 61, 56, 14]
theorem shift_ok : ∀ k : Nat, k < 25 → 0 ≤ shiftL.getD k 0 ∧ shiftL.getD k 0 < 64 := by decide

-- the program
def p2 (m : List Int) (k : Nat) (l : List Int) : List Int := l.set ((k : Int) % 5).toNat (xo (g l ((k : Int) % 5)) (g m k))
def p3 (m c : List Int) (k : Nat) (l : List Int) : List Int :=
  l.set ((k : Int) / 5 + 5 * ((2 * ((k : Int) % 5) + 3 * ((k : Int) / 5)) % 5)).toNat (rot (xo (g m k) (xo (g c (((k : Int) % 5 + 4) % 5)) (rot (g c (((k : Int) % 5 + 1) % 5)) 1))) (g shiftL k))
def p4 (b : List Int) (k : Nat) (l : List Int) : List Int :=
  l.set k (xo (g b k) (andn64 .u64 (g b ((k : Int) - (k : Int) % 5 + ((k : Int) % 5 + 2) % 5)) (g b ((k : Int) - (k : Int) % 5 + ((k : Int) % 5 + 1) % 5))))
-- the reference
def q2 (m : List Int) (k : Nat) (l : List Int) : List Int := l.set k (xo (xo (xo (xo (g m k) (g m ((k : Int) + 5))) (g m ((k : Int) + 10))) (g m ((k : Int) + 15))) (g m ((k : Int) + 20)))
def q3 (c : List Int) (k : Nat) (l : List Int) : List Int := l.set k (xo (g l k) (xo (g c (((k : Int) + 4) % 5)) (rot (g c (((k : Int) + 1) % 5)) 1)))
def q5 (m : List Int) (x : Int) (y : Nat) (l : List Int) : List Int := l.set ((y : Int) + 5 * ((2 * x + 3 * (y : Int)) % 5)).toNat (rot (g m (x + 5 * (y : Int))) (g shiftL (x + 5 * (y : Int))))
def q4 (m : List Int) (x : Nat) (l : List Int) : List Int := iU (q5 m x) 5 l
def q7 (b : List Int) (x : Int) (y : Nat) (l : List Int) : List Int := l.set (x + 5 * (y : Int)).toNat (xo (g b (x + 5 * (y : Int))) (and64 .u64 (not64 .u64 (g b ((x + 1) % 5 + 5 * (y : Int)))) (g b ((x + 2) % 5 + 5 * (y : Int)))))
def q6 (b : List Int) (x : Nat) (l : List Int) : List Int := iU (q7 b x) 5 l

theorem p2_len (m : List Int) (k : Nat) (l : List Int) : (iU (p2 m) k l).length = l.length := iU_len (fun _ _ => List.length_set) k l
theorem p3_len (m c : List Int) (k : Nat) (l : List Int) : (iU (p3 m c) k l).length = l.length := iU_len (fun _ _ => List.length_set) k l
theorem p4_len (b : List Int) (k : Nat) (l : List Int) : (iU (p4 b) k l).length = l.length := iU_len (fun _ _ => List.length_set) k l
theorem q2_len (m : List Int) (k : Nat) (l : List Int) : (iU (q2 m) k l).length = l.length := iU_len (fun _ _ => List.length_set) k l
theorem q3_len (c : List Int) (k : Nat) (l : List Int) : (iU (q3 c) k l).length = l.length := iU_len (fun _ _ => List.length_set) k l
theorem q5_len (m : List Int) (x : Int) (k : Nat) (l : List Int) : (iU (q5 m x) k l).length = l.length := iU_len (fun _ _ => List.length_set) k l
theorem q7_len (m : List Int) (x : Int) (k : Nat) (l : List Int) : (iU (q7 m x) k l).length = l.length := iU_len (fun _ _ => List.length_set) k l
theorem q4_len (m : List Int) (k : Nat) (l : List Int) : (iU (q4 m) k l).length = l.length := iU_len (fun x l => q5_len m x 5 l) k l
theorem q6_len (m : List Int) (k : Nat) (l : List Int) : (iU (q6 m) k l).length = l.length := iU_len (fun x l => q7_len m x 5 l) k l

theorem loop_p2 {m5 m6 m7 m9 t4 : List Int} {t3 t5 : Int} (h : m5.length = 25) : Loop (i_lanes_permute_2_s m5 m6 m7 m9 t3 t4 t5) (nZ 5, 0) = some (iU (p2 m5) 25 (nZ 5), 25, false) :=
  Loop_for (fun k => (iU (p2 m5) k (nZ 5), (k : Int))) 25 (fun k hk => by
    have hl := p2_len m5 k (nZ 5)
    rw [nZ_len] at hl
    simp only [i_lanes_permute_2_s]
    simp (disch := omega) only [brd, tmod_nn, brdd, get_bind, wrap_i64]
    simp only [iU, p2, Int.toNat_natCast, cast_succ]
    rfl) (by
    simp (disch := omega) only [i_lanes_permute_2_s, brn]; rfl)

theorem loop_q2 {m5 m6 m7 m8 : List Int} {t2 : Int} (h : m5.length = 25) : Loop (s_l03Permute_2_s m5 m6 m7 m8 t2) (nZ 5, 0) = some (iU (q2 m5) 5 (nZ 5), 5, false) :=
  Loop_for (fun k => (iU (q2 m5) k (nZ 5), (k : Int))) 5 (fun k hk => by
    have hl := q2_len m5 k (nZ 5)
    rw [nZ_len] at hl
    simp only [s_l03Permute_2_s]
    simp (disch := omega) only [brd, tmod_nn, brdd, get_bind, wrap_i64]
    simp only [iU, q2, Int.toNat_natCast, cast_succ]
    rfl) (by
    simp (disch := omega) only [s_l03Permute_2_s, brn]; rfl)

theorem shift_at (k : Nat) (hk : k < 25) : 0 ≤ shiftL.getD k 0 ∧ shiftL.getD k 0 < 64 := shift_ok k hk
theorem shift_len : shiftL.length = 25 := rfl
theorem loop_p3 {m10 m12 c t8 : List Int} {t7 t9 : Int} (h : m10.length = 25) (hc : c.length = 5) : Loop (i_lanes_permute_3_s m10 shiftL m12 c t7 t8 t9) (nZ 25, 0) = some (iU (p3 m10 c) 25 (nZ 25), 25, false) :=
  Loop_for (fun k => (iU (p3 m10 c) k (nZ 25), (k : Int))) 25 (fun k hk => by
    have hl := p3_len m10 c k (nZ 25)
    rw [nZ_len] at hl
    have hs := shift_at k hk
    have hs1 := shift_len
    simp only [i_lanes_permute_3_s]
    simp (disch := omega) only [brd, tmod_nn, tdiv_nn, brdd, get_bind, wrap_i64]
    rw [rotl_eq ⟨by decide, by decide⟩ (.inl (by decide))]
    simp only [Option.bind_some]
    simp only [Int.toNat_natCast]
    rw [rotl_eq hs (.inr (xo_b _ _))]
    simp only [Option.bind_some]
    rfl) (by
    simp (disch := omega) only [i_lanes_permute_3_s, brn]; rfl)
theorem loop_p4 {m16 m17 m18 b t12 : List Int} {t11 t13 : Int} {m : List Int} (h : m.length = 25) (hb : b.length = 25) : Loop (i_lanes_permute_4_s m16 m17 m18 b t11 t12 t13 b) (m, 0) = some (iU (p4 b) 25 m, 25, false) :=
  Loop_for (fun k => (iU (p4 b) k m, (k : Int))) 25 (fun k hk => by
    have hl := p4_len b k m
    simp only [i_lanes_permute_4_s]
    simp (disch := omega) only [brd, tmod_nn, tdiv_nn, brdd, get_bind, wrap_i64]
    rfl) (by
    simp (disch := omega) only [i_lanes_permute_4_s, brn]; rfl)
theorem loop_q3 {m11 m12 m13 c m : List Int} {t4 : Int} (h : m.length = 25) (hc : c.length = 5) : Loop (s_l03Permute_3_s m11 m12 m13 c t4) (m, 0) = some (iU (q3 c) 25 m, 25, false) :=
  Loop_for (fun k => (iU (q3 c) k m, (k : Int))) 25 (fun k hk => by
    have hl := q3_len c k m
    simp only [s_l03Permute_3_s]
    simp (disch := omega) only [brd, tmod_nn, tdiv_nn, brdd, get_bind, wrap_i64]
    rw [turn_eq ⟨by decide, by decide⟩]
    simp only [Option.bind_some]
    rfl) (by
    simp (disch := omega) only [s_l03Permute_3_s, brn]; rfl)
theorem loop_q5 {a m22 m23 m25 m : List Int} {t8 : Int} {x : Nat} (hx : x < 5) (h : m.length = 25) (ha : a.length = 25) : Loop (s_l03Permute_5_s a m22 m23 shiftL m25 t8 x) (m, 0) = some (iU (q5 a x) 5 m, 5, false) :=
  Loop_for (fun k => (iU (q5 a x) k m, (k : Int))) 5 (fun k hk => by
    have hl := q5_len a x k m
    have hs := shift_at ((x : Int) + 5 * (k : Int)).toNat (by omega)
    have hs1 := shift_len
    simp only [s_l03Permute_5_s]
    simp (disch := omega) only [brd, tmod_nn, tdiv_nn, brdd, get_bind, wrap_i64]
    rw [turn_eq hs]
    simp only [Option.bind_some]
    rfl) (by
    simp (disch := omega) only [s_l03Permute_5_s, brn]; rfl)
theorem loop_q4 {a m16 m17 m19 m : List Int} {t6 : Int} (h : m.length = 25) (ha : a.length = 25) : Loop (s_l03Permute_4_s a m16 m17 shiftL m19 t6) (m, 0) = some (iU (q4 a) 5 m, 5, false) :=
  Loop_for (fun k => (iU (q4 a) k m, (k : Int))) 5 (fun k hk => by
    have hl := q4_len a k m
    simp only [s_l03Permute_4_s]
    rw [brd (by omega), loop_q5 hk (by omega) ha, Option.bind_some, wrap_i64 _ (by omega) (by omega)]
    rfl) (by
    simp (disch := omega) only [s_l03Permute_4_s, brn]; rfl)
theorem loop_q7 {m34 m35 m36 m37 b m : List Int} {t13 : Int} {x : Nat} (hx : x < 5) (h : m.length = 25) (hb : b.length = 25) : Loop (s_l03Permute_7_s m34 m35 m36 m37 b t13 x) (m, 0) = some (iU (q7 b x) 5 m, 5, false) :=
  Loop_for (fun k => (iU (q7 b x) k m, (k : Int))) 5 (fun k hk => by
    have hl := q7_len b x k m
    simp only [s_l03Permute_7_s]
    simp (disch := omega) only [brd, tmod_nn, tdiv_nn, brdd, get_bind, wrap_i64]
    rfl) (by
    simp (disch := omega) only [s_l03Permute_7_s, brn]; rfl)
theorem loop_q6 {m28 m29 m30 m31 b m : List Int} {t11 : Int} (h : m.length = 25) (hb : b.length = 25) : Loop (s_l03Permute_6_s m28 m29 m30 m31 b t11) (m, 0) = some (iU (q6 b) 5 m, 5, false) :=
  Loop_for (fun k => (iU (q6 b) k m, (k : Int))) 5 (fun k hk => by
    have hl := q6_len b k m
    simp only [s_l03Permute_6_s]
    rw [brd (by omega), loop_q7 hk (by omega) hb, Option.bind_some, wrap_i64 _ (by omega) (by omega)]
    rfl) (by
    simp (disch := omega) only [s_l03Permute_6_s, brn]; rfl)

/-- One round, as the program and as the reference do it. -/
def roundP (m : List Int) (rc : Int) : List Int :=
  let c := iU (p2 m) 25 (nZ 5)
  let b := iU (p3 m c) 25 (nZ 25)
  let r := iU (p4 b) 25 m
  r.set 0 (xo (r.getD 0 0) rc)
def roundQ (m : List Int) (rc : Int) : List Int :=
  let c := iU (q2 m) 5 (nZ 5)
  let a := iU (q3 c) 25 m
  let b := iU (q4 a) 5 (nZ 25)
  let r := iU (q6 b) 5 a
  r.set 0 (xo (r.getD 0 0) rc)
end Go.AI.Fn

set_option linter.unusedVariables false
set_option linter.unusedSimpArgs false
namespace Go.AI.Fn

theorem len_split {l : List Int} {n : Nat} (h : l.length = n + 1) : ∃ a r, l = a :: r ∧ r.length = n := by
  cases l with
  | nil => simp at h
  | cons a r => exact ⟨a, r, rfl, by simpa using h⟩
theorem len_nil {l : List Int} (h : l.length = 0) : l = [] := List.eq_nil_of_length_eq_zero h

theorem len25 {l : List Int} (h : l.length = 25) : ∃ a0 a1 a2 a3 a4 a5 a6 a7 a8 a9 a10 a11 a12 a13 a14 a15 a16 a17 a18 a19 a20 a21 a22 a23 a24, l = [a0, a1, a2, a3, a4, a5, a6, a7, a8, a9, a10, a11, a12, a13, a14, a15, a16, a17, a18, a19, a20, a21, a22, a23, a24] := by
  obtain ⟨a0, r0, rfl, h0⟩ := len_split h
  obtain ⟨a1, r1, rfl, h1⟩ := len_split h0
  obtain ⟨a2, r2, rfl, h2⟩ := len_split h1
  obtain ⟨a3, r3, rfl, h3⟩ := len_split h2
  obtain ⟨a4, r4, rfl, h4⟩ := len_split h3
  obtain ⟨a5, r5, rfl, h5⟩ := len_split h4
  obtain ⟨a6, r6, rfl, h6⟩ := len_split h5
  obtain ⟨a7, r7, rfl, h7⟩ := len_split h6
  obtain ⟨a8, r8, rfl, h8⟩ := len_split h7
  obtain ⟨a9, r9, rfl, h9⟩ := len_split h8
  obtain ⟨a10, r10, rfl, h10⟩ := len_split h9
  obtain ⟨a11, r11, rfl, h11⟩ := len_split h10
  obtain ⟨a12, r12, rfl, h12⟩ := len_split h11
  obtain ⟨a13, r13, rfl, h13⟩ := len_split h12
  obtain ⟨a14, r14, rfl, h14⟩ := len_split h13
  obtain ⟨a15, r15, rfl, h15⟩ := len_split h14
  obtain ⟨a16, r16, rfl, h16⟩ := len_split h15
  obtain ⟨a17, r17, rfl, h17⟩ := len_split h16
  obtain ⟨a18, r18, rfl, h18⟩ := len_split h17
  obtain ⟨a19, r19, rfl, h19⟩ := len_split h18
  obtain ⟨a20, r20, rfl, h20⟩ := len_split h19
  obtain ⟨a21, r21, rfl, h21⟩ := len_split h20
  obtain ⟨a22, r22, rfl, h22⟩ := len_split h21
  obtain ⟨a23, r23, rfl, h23⟩ := len_split h22
  obtain ⟨a24, r24, rfl, h24⟩ := len_split h23
  obtain rfl := len_nil h24
  exact ⟨_, _, _, _, _, _, _, _, _, _, _, _, _, _, _, _, _, _, _, _, _, _, _, _, _, rfl⟩

/-- 25 lanes. -/
def okLanes (m : List Int) : Prop := m.length = 25 ∧ ∀ x ∈ m, u64b x

/-- The five sums. -/
def cs (m : List Int) : List Int := iU (q2 m) 5 (nZ 5)
theorem sums_eq {m : List Int} (h : okLanes m) : iU (p2 m) 25 (nZ 5) = cs m := by
  obtain ⟨hl, hb⟩ := h
  obtain ⟨a0, a1, a2, a3, a4, a5, a6, a7, a8, a9, a10, a11, a12, a13, a14, a15, a16, a17, a18, a19, a20, a21, a22, a23, a24, rfl⟩ := len25 hl
  have e0 := xo_zero (hb a0 (by simp))
  have e1 := xo_zero (hb a1 (by simp))
  have e2 := xo_zero (hb a2 (by simp))
  have e3 := xo_zero (hb a3 (by simp))
  have e4 := xo_zero (hb a4 (by simp))
  have k : iU (p2 [a0, a1, a2, a3, a4, a5, a6, a7, a8, a9, a10, a11, a12, a13, a14, a15, a16, a17, a18, a19, a20, a21, a22, a23, a24]) 25 (nZ 5) = [xo (xo (xo (xo (xo 0 a0) a5) a10) a15) a20, xo (xo (xo (xo (xo 0 a1) a6) a11) a16) a21, xo (xo (xo (xo (xo 0 a2) a7) a12) a17) a22, xo (xo (xo (xo (xo 0 a3) a8) a13) a18) a23, xo (xo (xo (xo (xo 0 a4) a9) a14) a19) a24] := by kernel_rfl
  have k2 : cs [a0, a1, a2, a3, a4, a5, a6, a7, a8, a9, a10, a11, a12, a13, a14, a15, a16, a17, a18, a19, a20, a21, a22, a23, a24] =
    [xo (xo (xo (xo a0 a5) a10) a15) a20, xo (xo (xo (xo a1 a6) a11) a16) a21, xo (xo (xo (xo a2 a7) a12) a17) a22, xo (xo (xo (xo a3 a8) a13) a18) a23, xo (xo (xo (xo a4 a9) a14) a19) a24] := by kernel_rfl
  rw [k, k2, e0, e1, e2, e3, e4]

theorem p3_form {c : List Int} (a0 a1 a2 a3 a4 a5 a6 a7 a8 a9 a10 a11 a12 a13 a14 a15 a16 a17 a18 a19 a20 a21 a22 a23 a24 : Int) : iU (p3 [a0, a1, a2, a3, a4, a5, a6, a7, a8, a9, a10, a11, a12, a13, a14, a15, a16, a17, a18, a19, a20, a21, a22, a23, a24] c) 25 (nZ 25) = [rot (xo a0 (xo (g c 4) (rot (g c 1) 1))) 0, rot (xo a6 (xo (g c 0) (rot (g c 2) 1))) 44, rot (xo a12 (xo (g c 1) (rot (g c 3) 1))) 43, rot (xo a18 (xo (g c 2) (rot (g c 4) 1))) 21, rot (xo a24 (xo (g c 3) (rot (g c 0) 1))) 14, rot (xo a3 (xo (g c 2) (rot (g c 4) 1))) 28, rot (xo a9 (xo (g c 3) (rot (g c 0) 1))) 20, rot (xo a10 (xo (g c 4) (rot (g c 1) 1))) 3, rot (xo a16 (xo (g c 0) (rot (g c 2) 1))) 45, rot (xo a22 (xo (g c 1) (rot (g c 3) 1))) 61, rot (xo a1 (xo (g c 0) (rot (g c 2) 1))) 1, rot (xo a7 (xo (g c 1) (rot (g c 3) 1))) 6, rot (xo a13 (xo (g c 2) (rot (g c 4) 1))) 25, rot (xo a19 (xo (g c 3) (rot (g c 0) 1))) 8, rot (xo a20 (xo (g c 4) (rot (g c 1) 1))) 18, rot (xo a4 (xo (g c 3) (rot (g c 0) 1))) 27, rot (xo a5 (xo (g c 4) (rot (g c 1) 1))) 36, rot (xo a11 (xo (g c 0) (rot (g c 2) 1))) 10, rot (xo a17 (xo (g c 1) (rot (g c 3) 1))) 15, rot (xo a23 (xo (g c 2) (rot (g c 4) 1))) 56, rot (xo a2 (xo (g c 1) (rot (g c 3) 1))) 62, rot (xo a8 (xo (g c 2) (rot (g c 4) 1))) 55, rot (xo a14 (xo (g c 3) (rot (g c 0) 1))) 39, rot (xo a15 (xo (g c 4) (rot (g c 1) 1))) 41, rot (xo a21 (xo (g c 0) (rot (g c 2) 1))) 2] := by kernel_rfl
theorem q3_form {c : List Int} (a0 a1 a2 a3 a4 a5 a6 a7 a8 a9 a10 a11 a12 a13 a14 a15 a16 a17 a18 a19 a20 a21 a22 a23 a24 : Int) : iU (q3 c) 25 [a0, a1, a2, a3, a4, a5, a6, a7, a8, a9, a10, a11, a12, a13, a14, a15, a16, a17, a18, a19, a20, a21, a22, a23, a24] = [xo a0 (xo (g c 4) (rot (g c 1) 1)), xo a1 (xo (g c 0) (rot (g c 2) 1)), xo a2 (xo (g c 1) (rot (g c 3) 1)), xo a3 (xo (g c 2) (rot (g c 4) 1)), xo a4 (xo (g c 3) (rot (g c 0) 1)), xo a5 (xo (g c 4) (rot (g c 1) 1)), xo a6 (xo (g c 0) (rot (g c 2) 1)), xo a7 (xo (g c 1) (rot (g c 3) 1)), xo a8 (xo (g c 2) (rot (g c 4) 1)), xo a9 (xo (g c 3) (rot (g c 0) 1)), xo a10 (xo (g c 4) (rot (g c 1) 1)), xo a11 (xo (g c 0) (rot (g c 2) 1)), xo a12 (xo (g c 1) (rot (g c 3) 1)), xo a13 (xo (g c 2) (rot (g c 4) 1)), xo a14 (xo (g c 3) (rot (g c 0) 1)), xo a15 (xo (g c 4) (rot (g c 1) 1)), xo a16 (xo (g c 0) (rot (g c 2) 1)), xo a17 (xo (g c 1) (rot (g c 3) 1)), xo a18 (xo (g c 2) (rot (g c 4) 1)), xo a19 (xo (g c 3) (rot (g c 0) 1)), xo a20 (xo (g c 4) (rot (g c 1) 1)), xo a21 (xo (g c 0) (rot (g c 2) 1)), xo a22 (xo (g c 1) (rot (g c 3) 1)), xo a23 (xo (g c 2) (rot (g c 4) 1)), xo a24 (xo (g c 3) (rot (g c 0) 1))] := by kernel_rfl
theorem q4_form (a0 a1 a2 a3 a4 a5 a6 a7 a8 a9 a10 a11 a12 a13 a14 a15 a16 a17 a18 a19 a20 a21 a22 a23 a24 : Int) : iU (q4 [a0, a1, a2, a3, a4, a5, a6, a7, a8, a9, a10, a11, a12, a13, a14, a15, a16, a17, a18, a19, a20, a21, a22, a23, a24]) 5 (nZ 25) = [rot a0 0, rot a6 44, rot a12 43, rot a18 21, rot a24 14, rot a3 28, rot a9 20, rot a10 3, rot a16 45, rot a22 61, rot a1 1, rot a7 6, rot a13 25, rot a19 8, rot a20 18, rot a4 27, rot a5 36, rot a11 10, rot a17 15, rot a23 56, rot a2 62, rot a8 55, rot a14 39, rot a15 41, rot a21 2] := by kernel_rfl
theorem moved_eq {m c : List Int} (hm : m.length = 25) : iU (p3 m c) 25 (nZ 25) = iU (q4 (iU (q3 c) 25 m)) 5 (nZ 25) := by
  obtain ⟨a0, a1, a2, a3, a4, a5, a6, a7, a8, a9, a10, a11, a12, a13, a14, a15, a16, a17, a18, a19, a20, a21, a22, a23, a24, rfl⟩ := len25 hm
  rw [p3_form, q3_form, q4_form]

def p4' (b : List Int) (k : Nat) (l : List Int) : List Int := l.set k (xo (g b k) (and64 .u64 (not64 .u64 (g b ((k : Int) - (k : Int) % 5 + ((k : Int) % 5 + 1) % 5))) (g b ((k : Int) - (k : Int) % 5 + ((k : Int) % 5 + 2) % 5))))
theorem p4_eq (b : List Int) : p4 b = p4' b := by funext k l; unfold p4 p4'; rw [andn_eq]
theorem p4_form (a0 a1 a2 a3 a4 a5 a6 a7 a8 a9 a10 a11 a12 a13 a14 a15 a16 a17 a18 a19 a20 a21 a22 a23 a24 : Int) (b0 b1 b2 b3 b4 b5 b6 b7 b8 b9 b10 b11 b12 b13 b14 b15 b16 b17 b18 b19 b20 b21 b22 b23 b24 : Int) : iU (p4' [a0, a1, a2, a3, a4, a5, a6, a7, a8, a9, a10, a11, a12, a13, a14, a15, a16, a17, a18, a19, a20, a21, a22, a23, a24]) 25 [b0, b1, b2, b3, b4, b5, b6, b7, b8, b9, b10, b11, b12, b13, b14, b15, b16, b17, b18, b19, b20, b21, b22, b23, b24] = [xo a0 (and64 .u64 (not64 .u64 a1) a2), xo a1 (and64 .u64 (not64 .u64 a2) a3), xo a2 (and64 .u64 (not64 .u64 a3) a4), xo a3 (and64 .u64 (not64 .u64 a4) a0), xo a4 (and64 .u64 (not64 .u64 a0) a1), xo a5 (and64 .u64 (not64 .u64 a6) a7), xo a6 (and64 .u64 (not64 .u64 a7) a8), xo a7 (and64 .u64 (not64 .u64 a8) a9), xo a8 (and64 .u64 (not64 .u64 a9) a5), xo a9 (and64 .u64 (not64 .u64 a5) a6), xo a10 (and64 .u64 (not64 .u64 a11) a12), xo a11 (and64 .u64 (not64 .u64 a12) a13), xo a12 (and64 .u64 (not64 .u64 a13) a14), xo a13 (and64 .u64 (not64 .u64 a14) a10), xo a14 (and64 .u64 (not64 .u64 a10) a11), xo a15 (and64 .u64 (not64 .u64 a16) a17), xo a16 (and64 .u64 (not64 .u64 a17) a18), xo a17 (and64 .u64 (not64 .u64 a18) a19), xo a18 (and64 .u64 (not64 .u64 a19) a15), xo a19 (and64 .u64 (not64 .u64 a15) a16), xo a20 (and64 .u64 (not64 .u64 a21) a22), xo a21 (and64 .u64 (not64 .u64 a22) a23), xo a22 (and64 .u64 (not64 .u64 a23) a24), xo a23 (and64 .u64 (not64 .u64 a24) a20), xo a24 (and64 .u64 (not64 .u64 a20) a21)] := by kernel_rfl
theorem q6_form (a0 a1 a2 a3 a4 a5 a6 a7 a8 a9 a10 a11 a12 a13 a14 a15 a16 a17 a18 a19 a20 a21 a22 a23 a24 : Int) (b0 b1 b2 b3 b4 b5 b6 b7 b8 b9 b10 b11 b12 b13 b14 b15 b16 b17 b18 b19 b20 b21 b22 b23 b24 : Int) : iU (q6 [a0, a1, a2, a3, a4, a5, a6, a7, a8, a9, a10, a11, a12, a13, a14, a15, a16, a17, a18, a19, a20, a21, a22, a23, a24]) 5 [b0, b1, b2, b3, b4, b5, b6, b7, b8, b9, b10, b11, b12, b13, b14, b15, b16, b17, b18, b19, b20, b21, b22, b23, b24] = [xo a0 (and64 .u64 (not64 .u64 a1) a2), xo a1 (and64 .u64 (not64 .u64 a2) a3), xo a2 (and64 .u64 (not64 .u64 a3) a4), xo a3 (and64 .u64 (not64 .u64 a4) a0), xo a4 (and64 .u64 (not64 .u64 a0) a1), xo a5 (and64 .u64 (not64 .u64 a6) a7), xo a6 (and64 .u64 (not64 .u64 a7) a8), xo a7 (and64 .u64 (not64 .u64 a8) a9), xo a8 (and64 .u64 (not64 .u64 a9) a5), xo a9 (and64 .u64 (not64 .u64 a5) a6), xo a10 (and64 .u64 (not64 .u64 a11) a12), xo a11 (and64 .u64 (not64 .u64 a12) a13), xo a12 (and64 .u64 (not64 .u64 a13) a14), xo a13 (and64 .u64 (not64 .u64 a14) a10), xo a14 (and64 .u64 (not64 .u64 a10) a11), xo a15 (and64 .u64 (not64 .u64 a16) a17), xo a16 (and64 .u64 (not64 .u64 a17) a18), xo a17 (and64 .u64 (not64 .u64 a18) a19), xo a18 (and64 .u64 (not64 .u64 a19) a15), xo a19 (and64 .u64 (not64 .u64 a15) a16), xo a20 (and64 .u64 (not64 .u64 a21) a22), xo a21 (and64 .u64 (not64 .u64 a22) a23), xo a22 (and64 .u64 (not64 .u64 a23) a24), xo a23 (and64 .u64 (not64 .u64 a24) a20), xo a24 (and64 .u64 (not64 .u64 a20) a21)] := by kernel_rfl
theorem last_eq {b m a : List Int} (hb : b.length = 25) (hm : m.length = 25) (ha : a.length = 25) : iU (p4 b) 25 m = iU (q6 b) 5 a := by
  rw [p4_eq]
  obtain ⟨a0, a1, a2, a3, a4, a5, a6, a7, a8, a9, a10, a11, a12, a13, a14, a15, a16, a17, a18, a19, a20, a21, a22, a23, a24, rfl⟩ := len25 hb
  obtain ⟨b0, b1, b2, b3, b4, b5, b6, b7, b8, b9, b10, b11, b12, b13, b14, b15, b16, b17, b18, b19, b20, b21, b22, b23, b24, rfl⟩ := len25 hm
  obtain ⟨c0, c1, c2, c3, c4, c5, c6, c7, c8, c9, c10, c11, c12, c13, c14, c15, c16, c17, c18, c19, c20, c21, c22, c23, c24, rfl⟩ := len25 ha
  rw [p4_form, q6_form]
theorem round_eq {m : List Int} {rc : Int} (h : okLanes m) : roundP m rc = roundQ m rc := by
  unfold roundP roundQ
  dsimp only
  have h1 := sums_eq h
  unfold cs at h1
  rw [h1]
  have hc : (iU (q2 m) 5 (nZ 5)).length = 5 := by rw [q2_len, nZ_len]
  have ha : (iU (q3 (iU (q2 m) 5 (nZ 5))) 25 m).length = 25 := by rw [q3_len]; exact h.1
  rw [moved_eq h.1]
  rw [last_eq (a := iU (q3 (iU (q2 m) 5 (nZ 5))) 25 m) (by rw [q4_len, nZ_len]) h.1 ha]
theorem round_ok {m : List Int} {rc : Int} (h : okLanes m) : okLanes (roundP m rc) := by
  have hl : (roundP m rc).length = 25 := by
    unfold roundP; dsimp only; rw [List.length_set, p4_len]; exact h.1
  refine ⟨hl, ?_⟩
  unfold roundP
  dsimp only
  have hb : (iU (p3 m (iU (p2 m) 25 (nZ 5))) 25 (nZ 25)).length = 25 := by rw [p3_len, nZ_len]
  generalize iU (p3 m (iU (p2 m) 25 (nZ 5))) 25 (nZ 25) = b at hb
  have key : ∀ k, k ≤ 25 → ∀ i, i < k → ∀ hi : i < (iU (p4 b) k m).length, u64b (iU (p4 b) k m)[i] := by
    intro k
    induction k with
    | zero => intro _ i hi; omega
    | succ k ih =>
      intro hk i hi hlen
      simp only [iU, p4]
      rw [List.getElem_set]
      split
      · exact xo_b _ _
      · exact ih (by omega) i (by omega) (by simpa [iU, p4] using hlen)
  intro x hx
  rcases List.mem_or_eq_of_mem_set hx with h1 | h1
  · obtain ⟨i, hi, rfl⟩ := List.getElem_of_mem h1
    exact key 25 (by omega) i (by rw [p4_len] at hi; have := h.1; omega) hi
  · rw [h1]; exact xo_b _ _
end Go.AI.Fn

set_option linter.unusedVariables false
set_option linter.unusedSimpArgs false
set_option maxRecDepth 10000
namespace Go.AI.Fn

def rcL : List Int := [1, 32898, 9223372036854808714, 9223372039002292224, 32907, 2147483649, 9223372039002292353, 9223372036854808585, 138, 136, 2147516425, 2147483658, 2147516555, 9223372036854775947, 9223372036854808713, 9223372036854808579, 9223372036854808578, 9223372036854775936, 32778, 9223372039002259466, 9223372039002292353, 9223372036854808704, 2147483649, 9223372039002292232]
theorem rcL_eq : [1, 32898, 9223372036854808714, 9223372039002292224, 32907, 2147483649, 9223372039002292353, 9223372036854808585, 138, 136, 2147516425, 2147483658, 2147516555, 9223372036854775947, 9223372036854808713, 9223372036854808579, 9223372036854808578, 9223372036854775936, 32778, 9223372039002259466, 9223372039002292353, 9223372036854808704, 2147483649, 9223372039002292232] = rcL := rfl
theorem shiftL_eq : [0, 1, 62, 28, 27, 36, 44, 6, 55, 20, 3, 10, 43, 25, 39, 41, 45, 15, 21, 8, 18, 2, 61, 56, 14] = shiftL := rfl
theorem rcL_len : rcL.length = 24 := rfl
def rdP (k : Nat) (m : List Int) : List Int := roundP m (rcL.getD k 0)
/-- The permutation. -/
def permM (m : List Int) : List Int := iU rdP 24 m
theorem rd_succ (k : Nat) (m : List Int) : iU rdP (k + 1) m = roundP (iU rdP k m) (rcL.getD k 0) := by rw [iU, rdP]
theorem rd_ok {m : List Int} (h : okLanes m) : ∀ k, okLanes (iU rdP k m)
  | 0 => h
  | k + 1 => by rw [rd_succ]; exact round_ok (rd_ok h k)
theorem perm_ok {m : List Int} (h : okLanes m) : okLanes (permM m) := rd_ok h 24
theorem i_permute_eq {m : List Int} (h : okLanes m) : i_lanes_permute m = some (permM m) := by
  unfold i_lanes_permute
  have key : Loop (i_lanes_permute_1_s shiftL rcL rcL) (m, 0) = some (permM m, 24, false) :=
    Loop_for (fun k => (iU rdP k m, (k : Int))) 24 (fun k hk => by
      have h1 := rd_ok h k
      have hl1 := h1.1
      have hr := rcL_len
      simp only [i_lanes_permute_1_s]
      simp (disch := omega) only [brd, brdd, get_bind, wrap_i64]
      rw [loop_p2 h1.1, Option.bind_some, loop_p3 h1.1 (by rw [p2_len, nZ_len]), Option.bind_some, brd (by rw [p3_len, nZ_len]), loop_p4 h1.1 (by rw [p3_len, nZ_len]), Option.bind_some]
      have hl := p4_len (iU (p3 (iU rdP k m) (iU (p2 (iU rdP k m)) 25 (nZ 5))) 25 (nZ 25)) 25 (iU rdP k m)
      simp (disch := omega) only [get_bind, brd]
      rw [rd_succ]
      unfold roundP
      simp only [cast_succ, Int.toNat_natCast]) (by simp (disch := omega) only [i_lanes_permute_1_s, brn]; rfl)
  rw [rcL_eq, shiftL_eq, key, Option.bind_some]
theorem s_permute_eq {m : List Int} (h : okLanes m) : s_l03Permute m = some (permM m) := by
  unfold s_l03Permute
  have key : Loop (s_l03Permute_1_s (nZ 25) rcL shiftL) (m, 0) = some (permM m, 24, false) :=
    Loop_for (fun k => (iU rdP k m, (k : Int))) 24 (fun k hk => by
      have h1 := rd_ok h k
      have hl1 := h1.1
      have hr := rcL_len
      simp only [s_l03Permute_1_s]
      rw [brd (by omega), loop_q2 h1.1, Option.bind_some, loop_q3 h1.1 (by rw [q2_len, nZ_len]), Option.bind_some, loop_q4 (nZ_len 25) (by rw [q3_len]; exact h1.1), Option.bind_some,
        loop_q6 (by rw [q3_len]; exact h1.1) (by rw [q4_len, nZ_len]), Option.bind_some]
      have hl := q6_len (iU (q4 (iU (q3 (iU (q2 (iU rdP k m)) 5 (nZ 5))) 25 (iU rdP k m))) 5 (nZ 25)) 5 (iU (q3 (iU (q2 (iU rdP k m)) 5 (nZ 5))) 25 (iU rdP k m))
      rw [q3_len] at hl
      simp (disch := omega) only [get_bind, brd, brdd, wrap_i64]
      rw [rd_succ, round_eq h1]
      unfold roundQ
      simp only [cast_succ, Int.toNat_natCast]) (by simp (disch := omega) only [s_l03Permute_1_s, brn]; rfl)
  have hp := (perm_ok h).1
  rw [brd h.1]
  show (some rcL).bind _ = _
  rw [Option.bind_some, brd rcL_len]
  show (some shiftL).bind _ = _
  rw [Option.bind_some, brd shift_len, key, Option.bind_some, brd hp, brd hp, brd hp]

theorem atL_u8 {l : List UInt8} {k : Nat} (h : k < l.length) : atL l (k : Int) = some (l.getD k 0) := by simp [atL, h]
def lnS (t : List UInt8) (k : Nat) (l : List Int) : List Int := l.set ((k : Int) / 8).toNat (or64 .u64 (g l ((k : Int) / 8)) (shl64 .u64 (IntKind.wrap .u64 ((t.getD k 0).toNat : Int)) (8 * ((k : Int) % 8))))
/-- The lanes that bytes are. -/
def lanesM (t : List UInt8) : List Int := iU (lnS t) t.length (nZ 25)
theorem lnS_len (t : List UInt8) (k : Nat) (l : List Int) : (iU (lnS t) k l).length = l.length := iU_len (fun _ _ => List.length_set) k l
theorem lanes_ok (t : List UInt8) : okLanes (lanesM t) := by
  refine ⟨by rw [lanesM, lnS_len, nZ_len], ?_⟩
  have key : ∀ k, ∀ x ∈ iU (lnS t) k (nZ 25), u64b x := by
    intro k
    induction k with
    | zero => intro x hx; simp only [iU, nZ, List.mem_replicate] at hx; rw [hx.2]; exact ⟨by decide, by decide⟩
    | succ k ih =>
      intro x hx
      rcases List.mem_or_eq_of_mem_set hx with h1 | h1
      · exact ih x h1
      · rw [h1]; exact wrapu_b _
  exact key _
theorem i_lanesOf_eq {t : List UInt8} (h : t.length ≤ 200) : i_lanesOf t = some (lanesM t) := by
  unfold i_lanesOf
  have key : Loop (i_lanesOf_1_s (nZ 25) t ((t.length : Nat) : Int)) (nZ 25, 0) = some (lanesM t, (t.length : Int), false) :=
    Loop_for (fun k => (iU (lnS t) k (nZ 25), (k : Int))) t.length (fun k hk => by
      have hl := lnS_len t k (nZ 25)
      rw [nZ_len] at hl
      simp only [i_lanesOf_1_s]
      simp (disch := omega) only [brd, tmod_nn, tdiv_nn, brdd, get_bind, wrap_i64, atL_u8, Option.bind_some]
      rfl) (by simp (disch := omega) only [i_lanesOf_1_s, brn]; simp; rfl)
  have hl := (lanes_ok t).1
  rw [key, Option.bind_some, brd hl, brd hl, brd hl]
theorem s_lanes_eq {t : List UInt8} (h : t.length ≤ 200) : s_l03Lanes t = some (lanesM t) := by
  unfold s_l03Lanes
  have key : Loop (s_l03Lanes_1_s (nZ 25) t) (nZ 25, 0) = some (lanesM t, (t.length : Int), false) :=
    Loop_for (fun k => (iU (lnS t) k (nZ 25), (k : Int))) t.length (fun k hk => by
      have hl := lnS_len t k (nZ 25)
      rw [nZ_len] at hl
      simp only [s_l03Lanes_1_s]
      simp (disch := omega) only [brd, tmod_nn, tdiv_nn, brdd, get_bind, wrap_i64, wrap_u64, atL_u8, Option.bind_some]
      rfl) (by simp (disch := omega) only [s_l03Lanes_1_s, brn]; simp; rfl)
  have hl := (lanes_ok t).1
  rw [key, Option.bind_some, brd hl, brd hl, brd hl]

def txB (m : List Int) (i : Nat) : UInt8 := UInt8.ofInt (shr64 .u64 (g m ((i : Int) / 8)) (8 * ((i : Int) % 8)))
def textM (m : List Int) (n : Nat) : List UInt8 := (List.range n).map (txB m)
theorem textM_len (m : List Int) (n : Nat) : (textM m n).length = n := by simp [textM]
theorem textM_succ (m : List Int) (n : Nat) : textM m (n + 1) = textM m n ++ [txB m n] := by simp [textM, List.range_succ]
theorem i_text_eq {m : List Int} (h : m.length = 25) : i_lanes_text m = some (textM m 200, m) := by
  unfold i_lanes_text
  have key : Loop (i_lanes_text_1_s m) ([], 0) = some (textM m 200, 200, false) :=
    Loop_for (fun k => (textM m k, (k : Int))) 200 (fun k hk => by
      have hl := textM_len m k
      simp only [i_lanes_text_1_s]
      simp (disch := omega) only [brd, tmod_nn, tdiv_nn, brdd, get_bind, wrap_i64]
      rw [br_fits (by simp only [List.length_append, List.length_cons, List.length_nil]; omega), textM_succ]
      rfl) (by simp (disch := omega) only [i_lanes_text_1_s, brn]; rfl)
  rw [key]; rfl
theorem s_text_eq {m : List Int} (h : m.length = 25) {n : Nat} (hn : n ≤ 200) : s_l03Text m n = some (textM m n) := by
  unfold s_l03Text
  have key : Loop (s_l03Text_1_s m n) ([], 0) = some (textM m n, (n : Int), false) :=
    Loop_for (fun k => (textM m k, (k : Int))) n (fun k hk => by
      have hl := textM_len m k
      simp only [s_l03Text_1_s]
      simp (disch := omega) only [brd, tmod_nn, tdiv_nn, brdd, get_bind, wrap_i64, wrap_u64]
      rw [br_fits (by simp only [List.length_append, List.length_cons, List.length_nil]; omega), textM_succ]
      rfl) (by simp (disch := omega) only [s_l03Text_1_s, brn]; simp)
  rw [brd h, key]; rfl
end Go.AI.Fn

set_option linter.unusedVariables false
set_option linter.unusedSimpArgs false
namespace Go.AI.Fn

def xoS (t : List Int) (k : Nat) (l : List Int) : List Int := l.set k (xo (g l k) (g t k))
def xorM (t m : List Int) : List Int := iU (xoS t) 25 m
theorem xoS_len (t : List Int) (k : Nat) (l : List Int) : (iU (xoS t) k l).length = l.length := iU_len (fun _ _ => List.length_set) k l
theorem xor_ok {t m : List Int} (h : okLanes m) : okLanes (xorM t m) := by
  refine ⟨by rw [xorM, xoS_len]; exact h.1, ?_⟩
  have key : ∀ k, ∀ x ∈ iU (xoS t) k m, u64b x := by
    intro k
    induction k with
    | zero => exact h.2
    | succ k ih =>
      intro x hx
      rcases List.mem_or_eq_of_mem_set hx with h1 | h1
      · exact ih x h1
      · rw [h1]; exact wrapu_b _
  exact key _
theorem i_xor_eq {l5 a : List UInt8} {t m : List Int} (ht : t.length = 25) (h : m.length = 25) : Loop (i_keccak_4_s l5 a t) (m, 0) = some (xorM t m, 25, false) :=
  Loop_for (fun k => (iU (xoS t) k m, (k : Int))) 25 (fun k hk => by
    have hl := xoS_len t k m
    simp only [i_keccak_4_s]
    simp (disch := omega) only [brd, brdd, get_bind, wrap_i64]
    rfl) (by simp (disch := omega) only [i_keccak_4_s, brn]; rfl)
theorem s_xor_eq {l5 a : List UInt8} {p : Int} {t m : List Int} (ht : t.length = 25) (h : m.length = 25) : Loop (s_l03Hash_3_s l5 t a p) (m, 0) = some (xorM t m, 25, false) :=
  Loop_for (fun k => (iU (xoS t) k m, (k : Int))) 25 (fun k hk => by
    have hl := xoS_len t k m
    simp only [s_l03Hash_3_s]
    simp (disch := omega) only [brd, brdd, get_bind, wrap_i64]
    rfl) (by simp (disch := omega) only [s_l03Hash_3_s, brn]; rfl)

/-- One block taken in. -/
def absB (a : List UInt8) (k : Nat) (m : List Int) : List Int := permM (xorM (lanesM ((a.drop (136 * k)).take 136)) m)
def absM (a : List UInt8) (n : Nat) : List Int := iU (absB a) n (nZ 25)
theorem nZ_ok : okLanes (nZ 25) := ⟨nZ_len 25, fun x hx => by simp only [nZ, List.mem_replicate] at hx; rw [hx.2]; exact ⟨by decide, by decide⟩⟩
theorem abs_succ (a : List UInt8) (n : Nat) : absM a (n + 1) = permM (xorM (lanesM ((a.drop (136 * n)).take 136)) (absM a n)) := by
  unfold absM; rw [iU, absB]
theorem abs_ok (a : List UInt8) : ∀ n, okLanes (absM a n)
  | 0 => nZ_ok
  | n + 1 => by rw [abs_succ]; exact perm_ok (xor_ok (abs_ok a n))

theorem i_abs_eq {l4 a : List UInt8} {n : Nat} (h : a.length = 136 * n) (hn : n ≤ 1000000000) : Loop (i_keccak_3_s l4) (nZ 25, a) = some (absM a n, [], false) :=
  Loop_for (fun k => (absM a k, a.drop (136 * k))) n (fun k hk => by
    have h1 := abs_ok a k
    have hx := xor_ok (t := lanesM ((a.drop (136 * k)).take 136)) h1
    simp only [i_keccak_3_s]
    rw [brd (by rw [List.length_drop]; omega), subL_of (by omega) (by omega) (by rw [List.length_drop]; omega), Option.bind_some, subL_of (by omega) (by rw [List.length_drop]; omega) (by omega)]
    have e1 : (List.drop (Int.toNat 0) (List.drop (136 * k) a)).take (Int.toNat 136 - Int.toNat 0) = (a.drop (136 * k)).take 136 := rfl
    have e2 : (List.drop (Int.toNat 136) (List.drop (136 * k) a)).take ((((List.drop (136 * k) a).length : Nat) : Int).toNat - Int.toNat 136) = a.drop (136 * (k + 1)) := by
      rw [List.drop_drop, List.take_of_length_le (by rw [List.length_drop, List.length_drop]; simp; omega)]
      congr 1
    rw [e1, e2, i_lanesOf_eq (by rw [List.length_take]; omega), Option.bind_some, i_xor_eq (lanes_ok _).1 h1.1, Option.bind_some, i_permute_eq hx, Option.bind_some, Option.bind_some, abs_succ]) (by
    simp only [i_keccak_3_s]
    rw [brn (by rw [List.length_drop]; omega), List.drop_eq_nil_of_le (by omega)]
    rfl)
theorem s_abs_eq {l3 a : List UInt8} {n : Nat} (h : a.length = 136 * n) (hn : n ≤ 1000000000) : ∃ p, Loop (s_l03Hash_2_s l3 a) (nZ 25, 0) = some (absM a n, p) :=
  ⟨_, Loop_for (fun k => (absM a k, ((136 * k : Nat) : Int))) n (fun k hk => by
    have h1 := abs_ok a k
    have hx := xor_ok (t := lanesM ((a.drop (136 * k)).take 136)) h1
    simp only [s_l03Hash_2_s]
    rw [brd (by omega), wrap_i64 _ (by omega) (by omega), subL_of (by omega) (by omega) (by omega), Option.bind_some]
    have e1 : (List.drop (((136 * k : Nat) : Int)).toNat a).take (((((136 * k : Nat) : Int)) + 136).toNat - (((136 * k : Nat) : Int)).toNat) = (a.drop (136 * k)).take 136 := by
      congr 1
      omega
    rw [e1, s_lanes_eq (by rw [List.length_take]; omega), Option.bind_some, brd (lanes_ok _).1, s_xor_eq (lanes_ok _).1 h1.1, Option.bind_some, brd hx.1, s_permute_eq hx, Option.bind_some, brdd (perm_ok hx).1 hx.1, abs_succ]
    have e2 : (((136 * k : Nat) : Int)) + 136 = ((136 * (k + 1) : Nat) : Int) := by omega
    rw [e2]) (by
    simp only [s_l03Hash_2_s]
    rw [brn (by omega)])⟩

/-- Noughts behind a text, up to a whole number of blocks. -/
def padZ (l : List UInt8) : List UInt8 := l ++ List.replicate ((136 - l.length % 136) % 136) 0
theorem padZ_len (l : List UInt8) : (padZ l).length = 136 * ((l.length + 135) / 136) := by
  rw [padZ, List.length_append, List.length_replicate]; omega
theorem rep_snoc {α : Type} (n : Nat) (x : α) : List.replicate (n + 1) x = List.replicate n x ++ [x] := by
  rw [List.replicate_succ']
theorem i_pad_eq {c l : List UInt8} (h : l.length ≤ 1000000000) : Loop (i_keccak_2_s c) l = some (padZ l, false) := by
  have key := Loop_for (step := i_keccak_2_s c) (e := (padZ l, false)) (fun k => l ++ List.replicate k 0) ((136 - l.length % 136) % 136) (fun k hk => by
    simp only [i_keccak_2_s]
    rw [tmod_nn _ _ (by omega), brb (by rw [List.length_append, List.length_replicate]; omega), br_fits (by simp only [List.length_append, List.length_replicate, List.length_cons, List.length_nil]; omega), rep_snoc, List.append_assoc]) (by
    simp only [i_keccak_2_s]
    have e : ((((l ++ List.replicate ((136 - l.length % 136) % 136) (0 : UInt8)).length : Nat) : Int).tmod 136) = 0 := by
      rw [tmod_nn _ _ (by omega), List.length_append, List.length_replicate]; omega
    rw [e, brbe rfl]; rfl)
  rwa [List.replicate_zero, List.append_nil] at key
theorem s_pad_eq {c l : List UInt8} (h : l.length ≤ 1000000000) : Loop (s_l03Hash_1_s c) l = some (padZ l, false) := by
  have key := Loop_for (step := s_l03Hash_1_s c) (e := (padZ l, false)) (fun k => l ++ List.replicate k 0) ((136 - l.length % 136) % 136) (fun k hk => by
    simp only [s_l03Hash_1_s]
    rw [tmod_nn _ _ (by omega), brb (by rw [List.length_append, List.length_replicate]; omega), br_fits (by simp only [List.length_append, List.length_replicate, List.length_cons, List.length_nil]; omega), rep_snoc, List.append_assoc]) (by
    simp only [s_l03Hash_1_s]
    have e : ((((l ++ List.replicate ((136 - l.length % 136) % 136) (0 : UInt8)).length : Nat) : Int).tmod 136) = 0 := by
      rw [tmod_nn _ _ (by omega), List.length_append, List.length_replicate]; omega
    rw [e, brbe rfl]; rfl)
  rwa [List.replicate_zero, List.append_nil] at key

/-- The last byte's highest bit, set too. -/
def padM (b : List UInt8) : List UInt8 := (padZ (b ++ [1])).set ((padZ (b ++ [1])).length - 1) (UInt8.ofInt (or64 .u8 (((padZ (b ++ [1])).getD ((padZ (b ++ [1])).length - 1) 0).toNat : Int) 128))
/-- The hash. -/
def H (b : List UInt8) : List UInt8 := textM (absM (padM b) ((b.length + 136) / 136)) 32
theorem H_len (b : List UInt8) : (H b).length = 32 := textM_len _ _
theorem padM_len (b : List UInt8) : (padM b).length = 136 * ((b.length + 136) / 136) := by
  rw [padM, List.length_set, padZ_len, List.length_append, List.length_singleton]
theorem get_u8 {β : Type} {l : List UInt8} {i : Nat} {f : UInt8 → Option β} (h : i < l.length) : (l[i]?).bind f = f (l.getD i 0) := by simp [h]
theorem textM_take (m : List Int) : (textM m 200).take 32 = textM m 32 := by
  rw [textM, ← List.map_take, List.take_range]; rfl

theorem s_hash_eq {b : List UInt8} (h : b.length ≤ 100000000) : s_l03Hash b = some (H b) := by
  unfold s_l03Hash
  have hl := padZ_len (b ++ [1])
  rw [List.length_append, List.length_singleton] at hl
  have hpl := padM_len b
  rw [br_fits (by omega), br_fits (by rw [List.length_append, List.length_singleton]; omega), s_pad_eq (by rw [List.length_append, List.length_singleton]; omega), Option.bind_some]
  dsimp only
  rw [wrap_i64 _ (by omega) (by omega)]
  have ei : (((padZ (b ++ [1])).length : Int) - 1).toNat = (padZ (b ++ [1])).length - 1 := by omega
  rw [ei]
  simp (disch := omega) only [brd, get_u8]
  obtain ⟨p, hp⟩ := s_abs_eq (l3 := [1]) hpl (by omega)
  unfold padM at hp
  rw [hp, Option.bind_some]
  dsimp only
  have ok := abs_ok (padM b) ((b.length + 136) / 136)
  unfold padM at ok
  rw [brd ok.1]
  have ht := s_text_eq (n := 32) ok.1 (by omega)
  rw [show ((32 : Nat) : Int) = 32 from rfl] at ht
  rw [ht, Option.bind_some, H, padM]

theorem flat_pieces {l : List (List UInt8)} (h : l.flatten.length ≤ 1000000000) (hn : l.length ≤ 1000000) : Loop (i_keccak_1_s l ((l.length : Nat) : Int)) ([], 0) = some (l.flatten, (l.length : Int), false) :=
  Loop_for (fun k => ((l.take k).flatten, (k : Int))) l.length (fun k hk => by
    simp only [i_keccak_1_s]
    have h1 : ((l.take k).flatten ++ l[k]).length ≤ l.flatten.length := by
      have e : l.flatten = (l.take (k + 1)).flatten ++ (l.drop (k + 1)).flatten := by rw [← List.flatten_append, List.take_append_drop]
      rw [take_succ hk, List.flatten_append, List.flatten_singleton] at e
      have e2 := congrArg List.length e
      simp only [List.length_append] at e2 ⊢
      omega
    rw [brd (by omega), atL_nat hk, Option.bind_some, br_fits (by omega), wrap_i64 _ (by omega) (by omega), take_succ hk, List.flatten_append, List.flatten_singleton]
    rfl) (by
    simp only [i_keccak_1_s]
    rw [brn (by omega), List.take_length]; simp)
theorem i_keccak_eq {l : List (List UInt8)} (h : l.flatten.length ≤ 100000000) (hn : l.length ≤ 1000000) : i_keccak l = some (H l.flatten) := by
  unfold i_keccak
  rw [flat_pieces (by omega) hn, Option.bind_some]
  dsimp only
  generalize l.flatten = b at h
  have hl := padZ_len (b ++ [1])
  rw [List.length_append, List.length_singleton] at hl
  have hpl := padM_len b
  rw [br_fits (by rw [List.length_append, List.length_singleton]; omega), i_pad_eq (by rw [List.length_append, List.length_singleton]; omega), Option.bind_some]
  dsimp only
  rw [wrap_i64 _ (by omega) (by omega)]
  have ei : (((padZ (b ++ [1])).length : Int) - 1).toNat = (padZ (b ++ [1])).length - 1 := by omega
  rw [ei]
  simp (disch := omega) only [brd, get_u8]
  have hp := i_abs_eq (l4 := [1]) hpl (by omega)
  unfold padM at hp
  rw [hp, Option.bind_some]
  dsimp only
  have ok := abs_ok (padM b) ((b.length + 136) / 136)
  unfold padM at ok
  rw [i_text_eq ok.1, Option.bind_some, subL_of (by omega) (by omega) (by rw [textM_len]; omega), Option.bind_some, H, padM, ← textM_take]
  rfl
end Go.AI.Fn

set_option linter.unusedVariables false
set_option linter.unusedSimpArgs false
namespace Go.AI.Fn

abbrev PP : Int := 2130706433
def okF (a : Int) : Prop := 0 ≤ a ∧ a ≤ 2130706432
def okE (x : Ext) : Prop := okF x.A ∧ okF x.B
def okFb (a : Int) : Bool := decide (0 ≤ a) && decide (a ≤ 2130706432)
def okEb (x : Ext) : Bool := okFb x.A && okFb x.B
theorem okFb_iff {a : Int} : okFb a = true ↔ okF a := by simp [okFb, okF]
theorem okEb_iff {x : Ext} : okEb x = true ↔ okE x := by simp [okEb, okE, okFb_iff]

def aF (a b : Int) : Int := (a + b) % 2130706433
def sF (a b : Int) : Int := (a - b) % 2130706433
def mF (a b : Int) : Int := (a * b) % 2130706433
def eA (x y : Ext) : Ext := ⟨(x.A + y.A) % 2130706433, (x.B + y.B) % 2130706433⟩
def eS (x y : Ext) : Ext := ⟨(x.A - y.A) % 2130706433, (x.B - y.B) % 2130706433⟩
def eM (x y : Ext) : Ext := ⟨(x.A * y.A + 3 * (x.B * y.B)) % 2130706433, (x.A * y.B + x.B * y.A) % 2130706433⟩
def eC (x : Ext) (n : Int) : Ext := ⟨(x.A * n) % 2130706433, (x.B * n) % 2130706433⟩
def e0 : Ext := ⟨0, 0⟩
def e1 : Ext := ⟨1, 0⟩
def eN (n : Int) : Ext := ⟨n, 0⟩

theorem okF3 : okF 3 := ⟨by decide, by decide⟩
theorem okF1 : okF 1 := ⟨by decide, by decide⟩
theorem okF0 : okF 0 := ⟨by decide, by decide⟩
theorem okF_mod (a : Int) : okF (a % 2130706433) := ⟨by omega, by omega⟩
theorem aF_ok (a b : Int) : okF (aF a b) := okF_mod _
theorem sF_ok (a b : Int) : okF (sF a b) := okF_mod _
theorem mF_ok (a b : Int) : okF (mF a b) := okF_mod _
theorem eA_ok (x y : Ext) : okE (eA x y) := ⟨okF_mod _, okF_mod _⟩
theorem eS_ok (x y : Ext) : okE (eS x y) := ⟨okF_mod _, okF_mod _⟩
theorem eM_ok (x y : Ext) : okE (eM x y) := ⟨okF_mod _, okF_mod _⟩
theorem eC_ok (x : Ext) (n : Int) : okE (eC x n) := ⟨okF_mod _, okF_mod _⟩
theorem e0_ok : okE e0 := ⟨⟨by decide, by decide⟩, ⟨by decide, by decide⟩⟩
theorem e1_ok : okE e1 := ⟨⟨by decide, by decide⟩, ⟨by decide, by decide⟩⟩
theorem eN_ok {n : Int} (h : okF n) : okE (eN n) := ⟨h, okF0⟩

theorem mul_bd {a b : Int} (ha : okF a) (hb : okF b) : 0 ≤ a * b ∧ a * b ≤ 4539909900063178624 :=
  ⟨Int.mul_nonneg ha.1 hb.1, Int.le_trans (Int.mul_le_mul ha.2 hb.2 hb.1 (by decide)) (by decide)⟩
theorem mod_self {a : Int} (h : okF a) : a % 2130706433 = a := by obtain ⟨h1, h2⟩ := h; omega

/-! ### remainders of remainders -/
theorem ext_eq {x y : Ext} (h1 : x.A = y.A) (h2 : x.B = y.B) : x = y := by cases x; cases y; cases h1; cases h2; rfl
theorem mA1 (a b : Int) : (a % 2130706433 + b) % 2130706433 = (a + b) % 2130706433 := Int.emod_add_emod _ _ _
theorem mA2 (a b : Int) : (a + b % 2130706433) % 2130706433 = (a + b) % 2130706433 := Int.add_emod_emod _ _ _
theorem mS1 (a b : Int) : (a % 2130706433 - b) % 2130706433 = (a - b) % 2130706433 := Int.emod_sub_emod _ _ _
theorem mS2 (a b : Int) : (a - b % 2130706433) % 2130706433 = (a - b) % 2130706433 := Int.sub_emod_emod _ _ _
theorem mM1 (a b : Int) : (a % 2130706433 * b) % 2130706433 = (a * b) % 2130706433 := by rw [Int.mul_emod, Int.emod_emod, ← Int.mul_emod]
theorem mM2 (a b : Int) : (a * (b % 2130706433)) % 2130706433 = (a * b) % 2130706433 := by rw [Int.mul_emod, Int.emod_emod, ← Int.mul_emod]
theorem mX1 (a b c : Int) : (a % 2130706433 * b + c) % 2130706433 = (a * b + c) % 2130706433 := by rw [← mA1, mM1, mA1]
theorem mX2 (a b c : Int) : (a * (b % 2130706433) + c) % 2130706433 = (a * b + c) % 2130706433 := by rw [← mA1, mM2, mA1]
theorem mX3 (a b c : Int) : (c + a % 2130706433 * b) % 2130706433 = (c + a * b) % 2130706433 := by rw [← mA2, mM1, mA2]
theorem mX4 (a b c : Int) : (c + a * (b % 2130706433)) % 2130706433 = (c + a * b) % 2130706433 := by rw [← mA2, mM2, mA2]
theorem mX5 (a b c d : Int) : (c + d * (a % 2130706433 * b)) % 2130706433 = (c + d * (a * b)) % 2130706433 := by rw [← mX4, mM1, mX4]
theorem mX6 (a b c d : Int) : (c + d * (a * (b % 2130706433))) % 2130706433 = (c + d * (a * b)) % 2130706433 := by rw [← mX4, mM2, mX4]
/-! ### the program -/
theorem eM_form (x y : Ext) : eM x y = ⟨aF (mF x.A y.A) (mF 3 (mF x.B y.B)), aF (mF x.A y.B) (mF x.B y.A)⟩ := by
  unfold eM aF mF
  congr 1
  · rw [mA1, mA2, mX4]
  · rw [mA1, mA2]
theorem i_in_eq (n a b : Int) : i_in n a b = some (decide (a ≤ n) && decide (n ≤ b)) := by
  unfold i_in; cases decide (a ≤ n) <;> rfl
theorem i_FieldOK_eq (a : Int) : i_FieldOK a = some (okFb a) := by
  unfold i_FieldOK; rw [i_in_eq]; rfl
theorem i_ExtOK_eq (x : Ext) : i_ExtOK x = some (okEb x) := by
  unfold i_ExtOK okEb; rw [i_FieldOK_eq, i_FieldOK_eq]; cases okFb x.A <;> rfl
/-! ### the reference -/
theorem s_in_eq (n a b : Int) : s_l01In n a b = some (decide (a ≤ n) && decide (n ≤ b)) := by
  unfold s_l01In; cases decide (a ≤ n) <;> rfl
theorem s_FieldOK_eq (a : Int) : s_FieldOK a = some (okFb a) := by
  unfold s_FieldOK; rw [s_in_eq]; rfl
theorem s_ExtOK_eq (x : Ext) : s_ExtOK x = some (okEb x) := by
  unfold s_ExtOK okEb; rw [s_FieldOK_eq, s_FieldOK_eq]; cases okFb x.A <;> rfl

/-! ### laws -/
theorem eA_comm (x y : Ext) : eA x y = eA y x := by
  unfold eA; rw [Int.add_comm, Int.add_comm x.B]
theorem eM_comm (x y : Ext) : eM x y = eM y x := by
  apply ext_eq <;> (simp only [eM]; congr 1; grind)
theorem eA_assoc (x y z : Ext) : eA (eA x y) z = eA x (eA y z) := by
  apply ext_eq <;> (simp only [eA, mA1, mA2]; congr 1; grind)
theorem eM_assoc (x y z : Ext) : eM (eM x y) z = eM x (eM y z) := by
  apply ext_eq <;> (simp only [eM, mA1, mA2, mS1, mS2, mM1, mM2, mX1, mX2, mX3, mX4, mX5, mX6]; congr 1; grind)
theorem eM_add (x y z : Ext) : eM x (eA y z) = eA (eM x y) (eM x z) := by
  apply ext_eq <;> (simp only [eA, eM, mA1, mA2, mS1, mS2, mM1, mM2, mX1, mX2, mX3, mX4, mX5, mX6]; congr 1; grind)
theorem eM_sub (x y z : Ext) : eM x (eS y z) = eS (eM x y) (eM x z) := by
  apply ext_eq <;> (simp only [eS, eM, mA1, mA2, mS1, mS2, mM1, mM2, mX1, mX2, mX3, mX4, mX5, mX6]; congr 1; grind)
theorem add_eM (x y z : Ext) : eM (eA y z) x = eA (eM y x) (eM z x) := by rw [eM_comm, eM_add, eM_comm x, eM_comm x]
theorem sub_eM (x y z : Ext) : eM (eS y z) x = eS (eM y x) (eM z x) := by rw [eM_comm, eM_sub, eM_comm x, eM_comm x]
theorem eA_left (x y z : Ext) : eA x (eA y z) = eA y (eA x z) := by rw [← eA_assoc, eA_comm x, eA_assoc]
theorem eM_left (x y z : Ext) : eM x (eM y z) = eM y (eM x z) := by rw [← eM_assoc, eM_comm x, eM_assoc]
theorem e0_add {x : Ext} (h : okE x) : eA e0 x = x := by
  apply ext_eq <;> simp only [eA, e0, Int.zero_add, mod_self h.1, mod_self h.2]
theorem add_e0 {x : Ext} (h : okE x) : eA x e0 = x := by rw [eA_comm, e0_add h]
theorem e1_mul {x : Ext} (h : okE x) : eM e1 x = x := by
  apply ext_eq <;> simp only [eM, e1, Int.one_mul, Int.zero_mul, Int.mul_zero, Int.add_zero, mod_self h.1, mod_self h.2]
theorem mul_e1 {x : Ext} (h : okE x) : eM x e1 = x := by rw [eM_comm, e1_mul h]
theorem e0_mul (x : Ext) : eM e0 x = e0 := by
  apply ext_eq <;> simp [eM, e0]
theorem mul_e0 (x : Ext) : eM x e0 = e0 := by rw [eM_comm, e0_mul]
theorem sub_self (x : Ext) : eS x x = e0 := by
  apply ext_eq <;> simp [eS, e0]
theorem sub_e0 {x : Ext} (h : okE x) : eS x e0 = x := by
  apply ext_eq <;> simp only [eS, e0, Int.sub_zero, mod_self h.1, mod_self h.2]
theorem sub_add (x y : Ext) (h : okE x) : eA (eS x y) y = x := by
  have h1 := mod_self h.1
  have h2 := mod_self h.2
  apply ext_eq
  · simp only [eA, eS, mA1]; rw [show x.A - y.A + y.A = x.A by grind, h1]
  · simp only [eA, eS, mA1]; rw [show x.B - y.B + y.B = x.B by grind, h2]
theorem add_sub (x y : Ext) (h : okE x) : eS (eA x y) y = x := by
  have h1 := mod_self h.1
  have h2 := mod_self h.2
  apply ext_eq
  · simp only [eA, eS, mS1]; rw [show x.A + y.A - y.A = x.A by grind, h1]
  · simp only [eA, eS, mS1]; rw [show x.B + y.B - y.B = x.B by grind, h2]
theorem eC_eq (x : Ext) (n : Int) : eC x n = eM x (eN n) := by
  apply ext_eq <;> (simp only [eC, eM, eN]; congr 1; grind)
end Go.AI.Fn

set_option linter.unusedVariables false
namespace Go.AI.Fn

structure Src (B : Int) (m : l00Src) : Prop where
  at0 : 0 ≤ m.at_
  at1 : m.at_ ≤ B
  sd0 : 0 ≤ m.seed
  sd1 : m.seed < 2147483648
  len : m.code.length ≤ 1048576
theorem Src.mono {B C : Int} {m : l00Src} (h : Src B m) (hc : B ≤ C) : Src C m := ⟨h.at0, by have := h.at1; omega, h.sd0, h.sd1, h.len⟩
abbrev Big : Int := 4611686018427387904

theorem source_ok {code : List UInt8} (h : code.length ≤ 1048576) : ∃ m, s_l00Source code = some m ∧ Src 0 m := by
  refine ⟨_, rfl, ?_⟩
  have : (((code.length : Nat) : Int).tmod (1000 : Int)) = (code.length : Int) % 1000 := tmod_nn _ _ (by omega)
  constructor <;> dsimp only <;> omega

theorem byte_ok {B : Int} {m : l00Src} (h : Src B m) (hB : B < Big) : ∃ x m', s_l00Src_byte m = some (x, m') ∧ 0 ≤ x ∧ x < 256 ∧ Src (B + 1) m' := by
  obtain ⟨h1, h2, h3, h4, h5⟩ := h
  rcases m with ⟨code, at_, seed⟩
  dsimp only at h1 h2 h3 h4 h5
  unfold s_l00Src_byte
  dsimp only
  simp only [Big] at hB
  rw [wrap_i64 (at_ + 1) (by omega) (by omega)]
  by_cases c : at_ + 1 ≤ ((code.length : Nat) : Int)
  · rw [brd c, wrap_i64 (at_ + 1 - 1) (by omega) (by omega)]
    obtain ⟨x, hx, _, _⟩ := atL_of (l := code) (i := at_ + 1 - 1) (by omega) (by omega)
    have := u8_lt x
    rw [hx]
    simp only [Option.bind_some]
    rw [wrap_i64 (x.toNat : Int) (by omega) (by omega), wrap_i64 (seed * 31) (by omega) (by omega), wrap_i64 (seed * 31 + (x.toNat : Int)) (by omega) (by omega), wrap_i64 _ (by omega) (by omega), tmod_nn _ _ (by omega)]
    refine ⟨_, _, rfl, by omega, by omega, ?_⟩
    constructor <;> dsimp only <;> omega
  · rw [brn c]
    by_cases c2 : at_ + 1 > 3000
    · rw [brd c2]
      refine ⟨_, _, rfl, by omega, by omega, ?_⟩
      constructor <;> dsimp only <;> omega
    · rw [brn c2, wrap_i64 (seed * 1103515245) (by omega) (by omega), wrap_i64 (seed * 1103515245 + 12345) (by omega) (by omega), tmod_nn (seed * 1103515245 + 12345) _ (by omega), tdiv_nn _ _ (by omega), wrap_i64 _ (by omega) (by omega), tmod_nn _ _ (by omega)]
      refine ⟨_, _, rfl, by omega, by omega, ?_⟩
      constructor <;> dsimp only <;> omega

theorem next_ok {B n : Int} {m : l00Src} (h : Src B m) (hB : B + 3 < Big) : ∃ x m', s_l00Src_next n m = some (x, m') ∧ 0 ≤ x ∧ (1 < n → x < n) ∧ (n ≤ 1 → x = 0) ∧ Src (B + 3) m' := by
  unfold s_l00Src_next
  by_cases c : n ≤ 1
  · rw [brd c]; exact ⟨_, _, rfl, by omega, by omega, fun _ => rfl, h.mono (by omega)⟩
  · rw [brn c]
    by_cases c2 : n ≤ 256
    · rw [brd c2]
      obtain ⟨x, m1, e1, x0, x1, s1⟩ := byte_ok h (by omega)
      rw [e1]
      simp only [Option.bind_some]
      rw [brd (by omega), tmod_nn _ _ x0]
      exact ⟨_, _, rfl, Int.emod_nonneg _ (by omega), fun _ => Int.emod_lt_of_pos _ (by omega), by omega, s1.mono (by omega)⟩
    · rw [brn c2]
      obtain ⟨x, m1, e1, x0, x1, s1⟩ := byte_ok h (by omega)
      obtain ⟨y, m2, e2, y0, y1, s2⟩ := byte_ok s1 (by omega)
      obtain ⟨z, m3, e3, z0, z1, s3⟩ := byte_ok s2 (by omega)
      rw [e1]
      simp only [Option.bind_some]
      rw [e2]
      simp only [Option.bind_some]
      rw [e3]
      simp only [Option.bind_some]
      rw [brd (by omega), wrap_i64 (x * 65536) (by omega) (by omega), wrap_i64 (y * 256) (by omega) (by omega), wrap_i64 (x * 65536 + y * 256) (by omega) (by omega), wrap_i64 _ (by omega) (by omega), tmod_nn _ _ (by omega)]
      exact ⟨_, _, rfl, Int.emod_nonneg _ (by omega), fun _ => Int.emod_lt_of_pos _ (by omega), by omega, s3.mono (by omega)⟩

theorem chance_ok {B n : Int} {m : l00Src} (h : Src B m) (hB : B + 3 < Big) : ∃ x m', s_l00Src_chance n m = some (x, m') ∧ Src (B + 3) m' := by
  unfold s_l00Src_chance
  obtain ⟨x, m1, e1, _, _, _, s1⟩ := next_ok (n := n) h hB
  rw [e1]
  exact ⟨_, _, rfl, s1⟩

theorem field_ok {B : Int} {m : l00Src} (h : Src B m) (hB : B + 18 < Big) : ∃ x m', s_l00Src_field m = some (x, m') ∧ okF x ∧ Src (B + 18) m' := by
  unfold s_l00Src_field
  obtain ⟨x, m1, e1, x0, x1, _, s1⟩ := next_ok (n := 5) h (by omega)
  have := x1 (by omega)
  rw [e1]
  simp only [Option.bind_some]
  by_cases c : x = 0
  · rw [bre c]
    obtain ⟨y, m2, e2, y0, y1, _, s2⟩ := next_ok (n := 4) s1 (by omega)
    have := y1 (by omega)
    rw [e2]
    exact ⟨_, _, rfl, ⟨by omega, by omega⟩, s2.mono (by omega)⟩
  · rw [brne c]
    by_cases c2 : x = 1
    · rw [bre c2]
      obtain ⟨y, m2, e2, y0, y1, _, s2⟩ := next_ok (n := 3) s1 (by omega)
      have := y1 (by omega)
      rw [e2]
      refine ⟨_, _, rfl, ⟨?_, ?_⟩, s2.mono (by omega)⟩ <;> rw [wrap_i64 _ (by omega) (by omega)] <;> omega
    · rw [brne c2]
      have key := Loop_inv (step := s_l00Src_field_1_s)
        (fun s => okF s.1 ∧ 0 ≤ s.2.1 ∧ s.2.1 ≤ 5 ∧ Src (B + 3 + 3 * s.2.1) ⟨s.2.2.1, s.2.2.2.1, s.2.2.2.2⟩) (fun s => (5 - s.2.1).toNat)
        (fun e => okF e.1 ∧ Src (B + 18) ⟨e.2.2.2.1, e.2.2.2.2.1, e.2.2.2.2.2⟩) ?_ ((0 : Int), (0 : Int), m1.code, m1.at_, m1.seed) ⟨⟨by first | omega | (dsimp only; omega), by first | omega | (dsimp only; omega)⟩, by first | omega | (dsimp only; omega), by first | omega | (dsimp only; omega), s1.mono (by first | omega | (dsimp only; omega))⟩
      · obtain ⟨e, he, h1, h2⟩ := key
        rw [he]
        exact ⟨_, _, rfl, h1, h2⟩
      · rintro ⟨n, i, c, c2, c3⟩ ⟨⟨n0, n1⟩, i0, i1, hs⟩
        dsimp only at n0 n1 i0 i1 hs
        by_cases hi : i < 5
        · left
          obtain ⟨y, m2, e2, y0, y1, _, s2⟩ := next_ok (n := 256) hs (by omega)
          have := y1 (by omega)
          simp only [s_l00Src_field_1_s]
          rw [brd hi, e2]
          simp only [Option.bind_some]
          rw [wrap_i64 (n * 256) (by omega) (by omega), wrap_i64 (n * 256 + y) (by omega) (by omega), wrap_i64 (i + 1) (by omega) (by omega), tmod_nn _ _ (by omega)]
          refine ⟨_, rfl, ⟨⟨?_, ?_⟩, ?_, ?_, s2.mono ?_⟩, ?_⟩ <;> dsimp only <;> omega
        · right
          simp only [s_l00Src_field_1_s]
          rw [brn hi]
          exact ⟨_, rfl, ⟨n0, n1⟩, hs.mono (by first | omega | (dsimp only; omega))⟩
end Go.AI.Fn

set_option linter.unusedVariables false
namespace Go.AI.Fn
theorem ext_ok {B : Int} {m : l00Src} (h : Src B m) (hB : B + 40 < Big) : ∃ x m', s_l00Src_ext m = some (x, m') ∧ okE x ∧ Src (B + 40) m' := by
  unfold s_l00Src_ext
  obtain ⟨x, m1, e1, s1⟩ := chance_ok (n := 4) h (by omega)
  rw [e1]
  simp only [Option.bind_some]
  obtain ⟨y, m2, e2, y0, s2⟩ := field_ok s1 (by omega)
  obtain ⟨z, m3, e3, z0, s3⟩ := field_ok s2 (by omega)
  rw [e2]
  cases x
  · simp only [br_false, Option.bind_some]
    rw [e3]
    exact ⟨_, _, rfl, ⟨y0, z0⟩, s3.mono (by omega)⟩
  · exact ⟨_, _, rfl, ⟨y0, ⟨by first | omega | (dsimp only; omega), by first | omega | (dsimp only; omega)⟩⟩, s2.mono (by omega)⟩

theorem exts_ok {B n : Int} {m : l00Src} (h : Src B m) (hn0 : 0 ≤ n) (hn1 : n ≤ 1048576) (hB : B + 40 * n < Big) : ∃ l m', s_l00Src_exts n m = some (l, m') ∧ (l.length : Int) = n ∧ (∀ x ∈ l, okE x) ∧ Src (B + 40 * n) m' := by
  unfold s_l00Src_exts
  have key := Loop_inv (step := s_l00Src_exts_1_s n)
    (fun s => (s.1.length : Int) = s.2.1 ∧ (∀ x ∈ s.1, okE x) ∧ s.2.1 ≤ n ∧ Src (B + 40 * s.2.1) ⟨s.2.2.1, s.2.2.2.1, s.2.2.2.2⟩) (fun s => (n - s.2.1).toNat)
    (fun e => (e.1.length : Int) = n ∧ (∀ x ∈ e.1, okE x) ∧ Src (B + 40 * n) ⟨e.2.2.2.1, e.2.2.2.2.1, e.2.2.2.2.2⟩) ?_ (([] : List Ext), (0 : Int), m.code, m.at_, m.seed) ⟨by simp, by simp, by dsimp only; omega, h.mono (by first | omega | (dsimp only; omega))⟩
  · obtain ⟨e, he, h1, h2, h3⟩ := key
    rw [he]
    exact ⟨_, _, rfl, h1, h2, h3⟩
  · rintro ⟨l, i, c, c2, c3⟩ ⟨hl, ha, i1, hs⟩
    dsimp only at hl ha i1 hs
    by_cases hi : i < n
    · left
      obtain ⟨y, m2, e2, y0, s2⟩ := ext_ok hs (by omega)
      simp only [s_l00Src_exts_1_s]
      rw [brd hi, e2]
      simp only [Option.bind_some]
      rw [br_of (fits_of (by simp only [List.length_append, List.length_cons, List.length_nil]; omega)), wrap_i64 (i + 1) (by omega) (by omega)]
      refine ⟨_, rfl, ⟨?_, ?_, ?_, s2.mono ?_⟩, ?_⟩
      · simp only [List.length_append, List.length_cons, List.length_nil]; omega
      · intro x hx
        rcases List.mem_append.1 hx with hx | hx
        · exact ha x hx
        · rw [List.mem_singleton] at hx; subst hx; exact y0
      all_goals dsimp only; omega
    · right
      simp only [s_l00Src_exts_1_s]
      rw [brn hi]
      exact ⟨_, rfl, by dsimp only; omega, ha, hs.mono (by first | omega | (dsimp only; omega))⟩

end Go.AI.Fn

set_option linter.unusedVariables false
namespace Go.AI.Fn

theorem at_ok {a : List UInt8} {i n : Int} (hl : a.length ≤ 1048576) (hi0 : 0 ≤ i) (hi1 : i ≤ 1099511627776) (hn : 1 < n) : ∃ x, w_at a i n = some x ∧ 0 ≤ x ∧ x < n := by
  unfold w_at
  rw [brn (by omega)]
  by_cases c : ((a.length : Nat) : Int) = 0
  · rw [bre c, brd (by omega), wrap_i64 _ (by omega) (by omega), tmod_nn _ _ (by omega)]
    exact ⟨_, rfl, Int.emod_nonneg _ (by omega), Int.emod_lt_of_pos _ (by omega)⟩
  · rw [brne c, brd c, tmod_nn _ _ hi0]
    have h1 := Int.emod_nonneg i c
    have h2 := Int.emod_lt_of_pos i (b := (a.length : Int)) (by omega)
    obtain ⟨x, hx, _, _⟩ := atL_of (l := a) h1 h2
    have h3 := Int.emod_nonneg (i + 1) c
    have h4 := Int.emod_lt_of_pos (i + 1) (b := (a.length : Int)) (by omega)
    obtain ⟨y, hy, _, _⟩ := atL_of (l := a) h3 h4
    have bx := u8_lt x
    have bz := u8_lt y
    have h5 : 0 ≤ i / (a.length : Int) := Int.ediv_nonneg hi0 (by omega)
    have h6 : i / (a.length : Int) ≤ i := Int.ediv_le_self _ hi0
    rw [hx]
    simp only [Option.bind_some]
    rw [brd c, wrap_i64 (i + 1) (by omega) (by omega), tmod_nn _ _ (by omega), hy]
    simp only [Option.bind_some]
    rw [brd c, brd (by omega), tdiv_nn _ _ hi0]
    generalize i / ((a.length : Nat) : Int) = q at h5 h6 ⊢
    rw [wrap_i64 q (by omega) (by omega), wrap_i64 (x.toNat : Int) (by omega) (by omega), wrap_i64 (y.toNat : Int) (by omega) (by omega), wrap_i64 ((x.toNat : Int) * 31) (by omega) (by omega), wrap_i64 ((x.toNat : Int) * 31 + (y.toNat : Int)) (by omega) (by omega), wrap_i64 _ (by omega) (by omega), tmod_nn _ _ (by omega)]
    exact ⟨_, rfl, Int.emod_nonneg _ (by omega), Int.emod_lt_of_pos _ (by omega)⟩

theorem i_are_eq {l : List Ext} (hl : l.length ≤ 1099511627776) : i_are_i_Ext_ExtOK l = some (l.all okEb) := by
  unfold i_are_i_Ext_ExtOK slices_ContainsFunc_Li_Ext_i_Ext_are_i_Ext_1_ExtOK slices_IndexFunc_Li_Ext_i_Ext_are_i_Ext_1_ExtOK
  have key := Loop_inv (step := slices_IndexFunc_Li_Ext_i_Ext_are_i_Ext_1_ExtOK_1_s l ((l.length : Nat) : Int))
    (fun t => 0 ≤ t ∧ t ≤ l.length ∧ (l.drop t.toNat).all okEb = l.all okEb) (fun t => (l.length - t).toNat)
    (fun e => (∃ k, e = .inl k ∧ 0 ≤ k ∧ l.all okEb = false) ∨ (∃ p, e = .inr p ∧ l.all okEb = true)) ?_ 0 ⟨by first | omega | (dsimp only; omega), by first | omega | (dsimp only; omega), rfl⟩
  · obtain ⟨e, he, ⟨k, rfl, h1, h2⟩ | ⟨p, rfl, h2⟩⟩ := key
    · rw [he]
      simp only [Option.bind_some, alt_inl]
      rw [h2, decide_eq_true (show k ≥ 0 from h1)]; rfl
    · rw [he, h2]; rfl
  · intro t ⟨h0, h1, h2⟩
    by_cases c : t < (l.length : Int)
    · obtain ⟨x, r, e1, e2, e3⟩ := drop_cons (l := l) (i := t.toNat) (by omega)
      simp only [slices_IndexFunc_Li_Ext_i_Ext_are_i_Ext_1_ExtOK_1_s]
      rw [brd c, atL_drop h0 e1]
      simp only [Option.bind_some, i_are_i_Ext_1_ExtOK, i_ExtOK_eq]
      rw [e1, List.all_cons] at h2
      cases hx : okEb x
      · right
        rw [hx] at h2
        exact ⟨_, rfl, .inl ⟨_, rfl, h0, h2.symm⟩⟩
      · left
        rw [hx, Bool.true_and] at h2
        rw [wrap_i64 (t + 1) (by omega) (by omega)]
        refine ⟨_, rfl, ⟨by first | omega | (dsimp only; omega), by first | omega | (dsimp only; omega), ?_⟩, by first | omega | (dsimp only; omega)⟩
        rw [show (t + 1).toNat = t.toNat + 1 by omega, e2]; exact h2
    · right
      simp only [slices_IndexFunc_Li_Ext_i_Ext_are_i_Ext_1_ExtOK_1_s]
      rw [brn c]
      refine ⟨_, rfl, .inr ⟨_, rfl, ?_⟩⟩
      rw [← h2, List.drop_eq_nil_of_le (by omega)]; rfl

theorem s_list_eq {l : List Ext} (hl : l.length ≤ 1099511627776) : s_l02List l = some (l.all okEb) := by
  unfold s_l02List
  have key := Loop_inv (step := s_l02List_1_s l)
    (fun t => 0 ≤ t ∧ t ≤ l.length ∧ (l.drop t.toNat).all okEb = l.all okEb) (fun t => (l.length - t).toNat)
    (fun e => (∃ k, e = .inl k ∧ l.all okEb = false) ∨ (∃ p, e = .inr p ∧ l.all okEb = true)) ?_ 0 ⟨by first | omega | (dsimp only; omega), by first | omega | (dsimp only; omega), rfl⟩
  · obtain ⟨e, he, ⟨k, rfl, h2⟩ | ⟨p, rfl, h2⟩⟩ := key <;> rw [he, h2] <;> rfl
  · intro t ⟨h0, h1, h2⟩
    by_cases c : t < (l.length : Int)
    · obtain ⟨x, r, e1, e2, e3⟩ := drop_cons (l := l) (i := t.toNat) (by omega)
      simp only [s_l02List_1_s]
      rw [brd c, atL_drop h0 e1]
      simp only [Option.bind_some, s_ExtOK_eq]
      rw [e1, List.all_cons] at h2
      cases hx : okEb x
      · right
        rw [hx] at h2
        exact ⟨_, rfl, .inl ⟨_, rfl, h2.symm⟩⟩
      · left
        rw [hx, Bool.true_and] at h2
        rw [wrap_i64 (t + 1) (by omega) (by omega)]
        refine ⟨_, rfl, ⟨by first | omega | (dsimp only; omega), by first | omega | (dsimp only; omega), ?_⟩, by first | omega | (dsimp only; omega)⟩
        rw [show (t + 1).toNat = t.toNat + 1 by omega, e2]; exact h2
    · right
      simp only [s_l02List_1_s]
      rw [brn c]
      refine ⟨_, rfl, .inr ⟨_, rfl, ?_⟩⟩
      rw [← h2, List.drop_eq_nil_of_le (by omega)]; rfl

def four (n : Int) : List UInt8 := [UInt8.ofInt (shr64 .i64 n 24), UInt8.ofInt (shr64 .i64 n 16), UInt8.ofInt (shr64 .i64 n 8), UInt8.ofInt n]
def e8 (x : Ext) : List UInt8 := four x.A ++ four x.B
theorem four_len (n : Int) : (four n).length = 4 := rfl
theorem e8_len (x : Ext) : (e8 x).length = 8 := rfl
theorem i_fouro_eq {n : Int} {l : List UInt8} (h : l.length ≤ 1099511627770) : i_four_o n l = some (l ++ four n) := by
  unfold i_four_o
  rw [br_of (fits_of (by simp only [List.length_append, List.length_cons, List.length_nil]; omega))]; rfl
theorem shr0 (n : Int) : shr64 .i64 n 0 = n := by simp [shr64]
theorem number4 (n : Int) : s_l02Number n 4 = some (four n) := by
  unfold s_l02Number
  rw [show IntKind.wrap .i64 (4 - 1) = 3 by decide,
    Loop_inl (s' := ([UInt8.ofInt (shr64 .i64 n 24)], 2)) (by kernel_rfl),
    Loop_inl (s' := ([UInt8.ofInt (shr64 .i64 n 24), UInt8.ofInt (shr64 .i64 n 16)], 1)) (by kernel_rfl),
    Loop_inl (s' := ([UInt8.ofInt (shr64 .i64 n 24), UInt8.ofInt (shr64 .i64 n 16), UInt8.ofInt (shr64 .i64 n 8)], 0)) (by kernel_rfl),
    Loop_inl (s' := ([UInt8.ofInt (shr64 .i64 n 24), UInt8.ofInt (shr64 .i64 n 16), UInt8.ofInt (shr64 .i64 n 8), UInt8.ofInt (shr64 .i64 n 0)], -1)) (by kernel_rfl),
    Loop_inr (e := ([UInt8.ofInt (shr64 .i64 n 24), UInt8.ofInt (shr64 .i64 n 16), UInt8.ofInt (shr64 .i64 n 8), UInt8.ofInt (shr64 .i64 n 0)], -1, false)) (by kernel_rfl), shr0]
  rfl

theorem i_extBytes_eq {l : List Ext} (hl : l.length ≤ 4194304) : i_extBytes l = some (l.flatMap e8) := by
  unfold i_extBytes
  have key := Loop_inv (step := i_extBytes_1_s l ((l.length : Nat) : Int))
    (fun s => 0 ≤ s.2 ∧ s.2 ≤ l.length ∧ (s.1.length : Int) = 8 * s.2 ∧ s.1 ++ (l.drop s.2.toNat).flatMap e8 = l.flatMap e8) (fun s => (l.length - s.2).toNat)
    (fun e => e.1 = l.flatMap e8) ?_ ([], 0) ⟨by first | omega | (dsimp only; omega), by first | omega | (dsimp only; omega), by simp, rfl⟩
  · obtain ⟨e, he, h⟩ := key
    rw [he]; simp only [Option.bind_some, h]
  · rintro ⟨o, t⟩ ⟨h0, h1, h3, h2⟩
    dsimp only at h0 h1 h2 h3
    by_cases c : t < (l.length : Int)
    · left
      obtain ⟨x, r, e1, e2, e3⟩ := drop_cons (l := l) (i := t.toNat) (by omega)
      simp only [i_extBytes_1_s]
      rw [brd c, atL_drop h0 e1]
      simp only [Option.bind_some]
      rw [i_fouro_eq (by omega)]
      simp only [Option.bind_some]
      rw [i_fouro_eq (by simp only [List.length_append, four_len]; omega), wrap_i64 (t + 1) (by omega) (by omega)]
      refine ⟨_, rfl, ⟨by first | omega | (dsimp only; omega), by first | omega | (dsimp only; omega), ?_, ?_⟩, by first | omega | (dsimp only; omega)⟩
      · simp only [List.length_append, four_len]; omega
      · dsimp only
        rw [show (t + 1).toNat = t.toNat + 1 by omega, e2]
        rw [e1, List.flatMap_cons] at h2
        simpa [e8] using h2
    · right
      simp only [i_extBytes_1_s]
      rw [brn c]
      refine ⟨_, rfl, ?_⟩
      rw [List.drop_eq_nil_of_le (by omega)] at h2
      simpa using h2

theorem s_bytes_eq {l : List Ext} (hl : l.length ≤ 4194304) : s_l02Bytes l = some (l.flatMap e8) := by
  unfold s_l02Bytes
  have key := Loop_inv (step := s_l02Bytes_1_s l)
    (fun s => 0 ≤ s.2 ∧ s.2 ≤ l.length ∧ (s.1.length : Int) = 8 * s.2 ∧ s.1 ++ (l.drop s.2.toNat).flatMap e8 = l.flatMap e8) (fun s => (l.length - s.2).toNat)
    (fun e => e.1 = l.flatMap e8) ?_ ([], 0) ⟨by first | omega | (dsimp only; omega), by first | omega | (dsimp only; omega), by simp, rfl⟩
  · obtain ⟨e, he, h⟩ := key
    rw [he]; simp only [Option.bind_some, h]
  · rintro ⟨o, t⟩ ⟨h0, h1, h3, h2⟩
    dsimp only at h0 h1 h2 h3
    by_cases c : t < (l.length : Int)
    · left
      obtain ⟨x, r, e1, e2, e3⟩ := drop_cons (l := l) (i := t.toNat) (by omega)
      simp only [s_l02Bytes_1_s]
      rw [brd c, atL_drop h0 e1]
      simp only [Option.bind_some, number4]
      rw [br_of (fits_of (by simp only [List.length_append, four_len]; omega)), br_of (fits_of (by simp only [List.length_append, four_len]; omega)), wrap_i64 (t + 1) (by omega) (by omega)]
      refine ⟨_, rfl, ⟨by first | omega | (dsimp only; omega), by first | omega | (dsimp only; omega), ?_, ?_⟩, by first | omega | (dsimp only; omega)⟩
      · simp only [List.length_append, four_len]; omega
      · dsimp only
        rw [show (t + 1).toNat = t.toNat + 1 by omega, e2]
        rw [e1, List.flatMap_cons] at h2
        simpa [e8] using h2
    · right
      simp only [s_l02Bytes_1_s]
      rw [brn c]
      refine ⟨_, rfl, ?_⟩
      rw [List.drop_eq_nil_of_le (by omega)] at h2
      simpa using h2

end Go.AI.Fn

set_option linter.unusedVariables false
set_option linter.unusedSimpArgs false
namespace Go.AI.Fn

/-- A power, by squares. -/
def pF (a : Int) (n : Nat) : Int := (a ^ n) % 2130706433
theorem pF_ok (a : Int) (n : Nat) : okF (pF a n) := okF_mod _
theorem and1 {n : Int} (h : 0 ≤ n) (h2 : n < 9223372036854775808) : and64 .i64 n 1 = n % 2 := by
  show IntKind.wrap .i64 ((BitVec.ofInt 64 n &&& BitVec.ofInt 64 1).toNat : Int) = n % 2
  have e1 : (BitVec.ofInt 64 n).toNat = n.toNat := by rw [BitVec.toNat_ofInt]; omega
  have e2 : (BitVec.ofInt 64 1).toNat = 1 := by decide
  rw [BitVec.toNat_and, e1, e2, Nat.and_one_is_mod, wrap_i64 _ (by omega) (by omega)]
  omega
theorem shr1 {n : Int} (h : 0 ≤ n) : shr64 .i64 n 1 = n / 2 := by
  show n.fdiv (2 ^ 1) = n / 2
  rw [Int.fdiv_eq_ediv_of_nonneg _ (by decide)]; rfl
theorem pow_even {a : Int} {n : Nat} (h : n % 2 = 0) : (a * a) ^ (n / 2) = a ^ n := by
  have e : n = 2 * (n / 2) := by omega
  have e2 : a ^ n = a ^ (2 * (n / 2)) := by rw [← e]
  rw [e2, Int.pow_mul, Int.pow_succ, Int.pow_succ, Int.pow_zero, Int.one_mul]
theorem pow_odd {a : Int} {n : Nat} (h : n % 2 = 1) : a * (a * a) ^ (n / 2) = a ^ n := by
  have e : n = 2 * (n / 2) + 1 := by omega
  have e2 : a ^ n = a ^ (2 * (n / 2) + 1) := by rw [← e]
  rw [e2, Int.pow_succ, Int.pow_mul, Int.pow_succ, Int.pow_succ, Int.pow_zero, Int.one_mul, Int.mul_comm]
theorem pow_mod (a : Int) (n : Nat) : ((a % 2130706433) ^ n) % 2130706433 = (a ^ n) % 2130706433 := by
  induction n with
  | zero => rw [Int.pow_zero, Int.pow_zero]
  | succ n ih => rw [Int.pow_succ, Int.pow_succ, mM2, ← mM1, ih, mM1]

theorem pow_step {a out : Int} {n : Nat} (hn : 0 < n) : (n % 2 = 1 → (mF out a * (mF a a) ^ (n / 2)) % 2130706433 = (out * a ^ n) % 2130706433) ∧ (n % 2 = 0 → (out * (mF a a) ^ (n / 2)) % 2130706433 = (out * a ^ n) % 2130706433) := by
  constructor
  · intro h
    unfold mF
    rw [mM1, ← mM2, pow_mod, mM2, ← pow_odd h, Int.mul_assoc]
  · intro h
    unfold mF
    rw [← mM2, pow_mod, mM2, pow_even h]
/-- The inverse. -/
def iF (a : Int) : Int := pF a 2130706431
/-- The root of order 2 to the k. -/
def rootM (k : Nat) : Int := pF 3 (127 * 2 ^ (24 - k))
theorem rootM_ok (k : Nat) : okF (rootM k) := pF_ok _ _
theorem p2_24 : ∀ j : Nat, j < 25 → (2 : Int) ^ j ≤ 16777216 ∧ 0 < (2 : Int) ^ j := by decide
theorem shl127 {j : Nat} (h : j ≤ 24) : shl64 .i64 127 (j : Int) = 127 * 2 ^ j := by
  obtain ⟨h1, h0⟩ := p2_24 j (by omega)
  show IntKind.wrap .i64 (127 * 2 ^ (min ((j : Int).toNat) 64)) = _
  rw [Int.toNat_natCast, Nat.min_eq_left (by omega), wrap_i64 _ (by omega) (by omega)]
/-! ### powers of two -/
def isP (n : Nat) : Bool := n == 1 || n == 2 || n == 4 || n == 8 || n == 16 || n == 32 || n == 64 || n == 128 || n == 256 || n == 512
/-- A power of two, at most a greatest one. -/
def powB (n most : Int) : Bool := decide (1 ≤ n) && decide (n ≤ most) && isP n.toNat
theorem and_isP : ∀ n : Nat, n < 513 → 1 ≤ n → (and64 .i64 (n : Int) ((n : Int) - 1) == 0) = isP n := by decide +kernel
end Go.AI.Fn

set_option linter.unusedVariables false
set_option linter.unusedSimpArgs false
namespace Go.AI.Fn

/-! ### shapes of loops -/
theorem any_of_bad {α : Type} {p : α → Bool} {l : List α} {k : Nat} (hk : k < l.length) (h : p l[k] = true) : l.any p = true := List.any_eq_true.2 ⟨l[k], List.getElem_mem hk, h⟩
theorem none_of {α : Type} {p : α → Bool} {l : List α} (h : ∀ k (hk : k < l.length), p l[k] = false) : l.any p = false := by
  rw [List.any_eq_false]
  intro x hx
  obtain ⟨k, hk, rfl⟩ := List.getElem_of_mem hx
  simp [h k hk]
/-- 'the first place where something holds', as the library's IndexFunc and ContainsFunc look for it. -/
theorem contains_gen {α : Type} {p : α → Bool} {f : α → Option Bool} {l : List α} (hl : l.length ≤ 1099511627776) (hf : ∀ x ∈ l, f x = some (p x)) {step : Int → Option (Int ⊕ (Int ⊕ (Int × Bool)))}
    (hs : ∀ t, step t = br (decide (t < ((l.length : Nat) : Int))) ((atL l t).bind fun x => (f x).bind fun r => br r (some (.inr (.inl t))) (some (.inl (IntKind.wrap .i64 (t + 1))))) (some (.inr (.inr (t, decide (t < ((l.length : Nat) : Int))))))) :
    ((Loop step 0).bind (alt (fun e => some e) (fun _ => some (-1)))).bind (fun r => some (decide (r ≥ 0))) = some (l.any p) := by
  have key := Loop_all (step := step) (fun k => (k : Int)) l.length (fun k => !((l[k]?.map p).getD false)) (fun k => .inl (k : Int)) (e := .inr ((l.length : Int), false)) (fun k hk hp => by
      have hb : p l[k] = false := by simpa [hk] using hp
      rw [hs, brd (by omega), atL_nat hk, Option.bind_some, hf _ (List.getElem_mem hk), Option.bind_some, hb, br_false, wrap_i64 _ (by omega) (by omega)]; rfl)
    (fun k hk hp => by
      have hb : p l[k] = true := by simpa [hk] using hp
      rw [hs, brd (by omega), atL_nat hk, Option.bind_some, hf _ (List.getElem_mem hk), Option.bind_some, hb, br_true])
    (by rw [hs, brn (by omega), decide_eq_false (by omega)])
  rcases key with ⟨h1, h2⟩ | ⟨k, hk, h1, _, h2⟩
  · have e : Loop step 0 = some (.inr ((l.length : Int), false)) := h2
    rw [e, none_of (fun k hk => by simpa [hk] using h1 k hk)]; rfl
  · have e : Loop step 0 = some (.inl (k : Int)) := h2
    rw [e, any_of_bad hk (by simpa [hk] using h1)]
    simp only [Option.bind_some, alt_inl]
    rw [decide_eq_true (by omega)]
/-- 'false at the first that is not right'. -/
theorem all_gen {α : Type} {p : α → Bool} {f : α → Option Bool} {l : List α} (hl : l.length ≤ 1099511627776) (hf : ∀ x ∈ l, f x = some (p x)) {step : Int → Option (Int ⊕ (Unit ⊕ (Int × Bool)))}
    (hs : ∀ t, step t = br (decide (t < ((l.length : Nat) : Int))) ((atL l t).bind fun x => (f x).bind fun r => br (!r) (some (.inr (.inl ()))) (some (.inl (IntKind.wrap .i64 (t + 1))))) (some (.inr (.inr (t, decide (t < ((l.length : Nat) : Int))))))) :
    (Loop step 0).bind (alt (fun _ => some false) (fun _ => some true)) = some (l.all p) := by
  have key := Loop_all (step := step) (fun k => (k : Int)) l.length (fun k => ((l[k]?.map p).getD false)) (fun k => .inl ()) (e := .inr ((l.length : Int), false)) (fun k hk hp => by
      have hb : p l[k] = true := by simpa [hk] using hp
      rw [hs, brd (by omega), atL_nat hk, Option.bind_some, hf _ (List.getElem_mem hk), Option.bind_some, hb, Bool.not_true, br_false, wrap_i64 _ (by omega) (by omega)]; rfl)
    (fun k hk hp => by
      have hb : p l[k] = false := by simpa [hk] using hp
      rw [hs, brd (by omega), atL_nat hk, Option.bind_some, hf _ (List.getElem_mem hk), Option.bind_some, hb, Bool.not_false, br_true])
    (by rw [hs, brn (by omega), decide_eq_false (by omega)])
  rcases key with ⟨h1, h2⟩ | ⟨k, hk, h1, _, h2⟩
  · have e : Loop step 0 = some (.inr ((l.length : Int), false)) := h2
    have ha : l.all p = true := List.all_eq_true.2 fun x hx => by
      obtain ⟨k, hk, rfl⟩ := List.getElem_of_mem hx
      simpa [hk] using h1 k hk
    rw [e, ha]; rfl
  · have e : Loop step 0 = some (.inl ()) := h2
    have ha : l.all p = false := by
      rw [List.all_eq_false]
      exact ⟨l[k], List.getElem_mem hk, by simpa [hk] using h1⟩
    rw [e, ha]; rfl
theorem not_any_not {α : Type} (p : α → Bool) (l : List α) : (!l.any fun x => !p x) = l.all p := by
  induction l with
  | nil => rfl
  | cons x l ih => simp only [List.any_cons, List.all_cons, ← ih]; cases p x <;> simp

theorem i_areE_eq {l : List Ext} (hl : l.length ≤ 1099511627776) : i_are_i_Ext_ExtOK l = some (l.all okEb) := by
  unfold i_are_i_Ext_ExtOK slices_ContainsFunc_Li_Ext_i_Ext_are_i_Ext_1_ExtOK slices_IndexFunc_Li_Ext_i_Ext_are_i_Ext_1_ExtOK
  rw [contains_gen (step := slices_IndexFunc_Li_Ext_i_Ext_are_i_Ext_1_ExtOK_1_s l ((l.length : Nat) : Int)) (p := fun x => !okEb x) (f := i_are_i_Ext_1_ExtOK) hl (fun x _ => by unfold i_are_i_Ext_1_ExtOK; rw [i_ExtOK_eq]; rfl) (fun t => rfl), Option.bind_some, not_any_not]
theorem s_listE_eq {l : List Ext} (hl : l.length ≤ 1099511627776) : s_l02List l = some (l.all okEb) := by
  unfold s_l02List
  exact all_gen (f := s_ExtOK) hl (fun x _ => s_ExtOK_eq x) (fun t => rfl)
def OkEs (l : List Ext) : Prop := ∀ x ∈ l, okE x
def OkFs (l : List Int) : Prop := ∀ x ∈ l, okF x
theorem allE {l : List Ext} : l.all okEb = true ↔ OkEs l := by
  rw [List.all_eq_true]; exact ⟨fun h x hx => okEb_iff.1 (h x hx), fun h x hx => okEb_iff.2 (h x hx)⟩
theorem allF {l : List Int} : l.all okFb = true ↔ OkFs l := by
  rw [List.all_eq_true]; exact ⟨fun h x hx => okFb_iff.1 (h x hx), fun h x hx => okFb_iff.2 (h x hx)⟩
theorem OkEs.get {l : List Ext} (h : OkEs l) {k : Nat} (hk : k < l.length) : okE l[k] := h _ (List.getElem_mem hk)
theorem OkFs.get {l : List Int} (h : OkFs l) {k : Nat} (hk : k < l.length) : okF l[k] := h _ (List.getElem_mem hk)
theorem OkEs.app {l m : List Ext} (h : OkEs l) (h2 : OkEs m) : OkEs (l ++ m) := fun x hx => (List.mem_append.1 hx).elim (h x) (h2 x)
theorem OkEs.nil : OkEs [] := fun x hx => by cases hx
theorem OkEs.one {x : Ext} (h : okE x) : OkEs [x] := fun y hy => by rw [List.mem_singleton.1 hy]; exact h
theorem OkEs.map {α : Type} {f : α → Ext} (l : List α) (h : ∀ x ∈ l, okE (f x)) : OkEs (l.map f) := fun y hy => by obtain ⟨x, hx, rfl⟩ := List.mem_map.1 hy; exact h x hx
theorem OkEs.take {l : List Ext} (h : OkEs l) (k : Nat) : OkEs (l.take k) := fun x hx => h x (List.mem_of_mem_take hx)
theorem OkEs.drop {l : List Ext} (h : OkEs l) (k : Nat) : OkEs (l.drop k) := fun x hx => h x (List.mem_of_mem_drop hx)

/-! ### sums of products -/
def dotM (a b : List Ext) : Ext := (a.zip b).foldl (fun c p => eA c (eM p.1 p.2)) e0
theorem zip_take_succ {α β : Type} {a : List α} {b : List β} {k : Nat} (ha : k < a.length) (hb : k < b.length) : (a.zip b).take (k + 1) = (a.zip b).take k ++ [(a[k], b[k])] := by
  rw [take_succ (by rw [List.length_zip]; omega), List.getElem_zip]
theorem dot_ok (l : List (Ext × Ext)) {c : Ext} (h : okE c) : okE (l.foldl (fun c p => eA c (eM p.1 p.2)) c) := by
  induction l generalizing c with
  | nil => exact h
  | cons p l ih => exact ih (eA_ok _ _)
theorem dotM_ok (a b : List Ext) : okE (dotM a b) := dot_ok _ e0_ok
/-! ### the table of a point -/
def eqS (out : List Ext) (p : Ext) : List Ext := out.map (fun a => eM a (eS e1 p)) ++ out.map (fun a => eM a p)
def eqT (pt : List Ext) : List Ext := pt.foldl eqS [e1]
theorem eqS_len (out : List Ext) (p : Ext) : (eqS out p).length = 2 * out.length := by simp [eqS]; omega
theorem eqS_ok (out : List Ext) (p : Ext) : OkEs (eqS out p) := OkEs.app (OkEs.map _ fun x _ => eM_ok _ _) (OkEs.map _ fun x _ => eM_ok _ _)
theorem eqT_snoc (l : List Ext) (p : Ext) : eqT (l ++ [p]) = eqS (eqT l) p := by simp [eqT, List.foldl_append]
theorem eqF_ok {l out : List Ext} (h : OkEs out) : OkEs (l.foldl eqS out) := by
  induction l generalizing out with
  | nil => exact h
  | cons p l ih => exact ih (eqS_ok _ _)
theorem eqT_ok (l : List Ext) : OkEs (eqT l) := eqF_ok (OkEs.one e1_ok)
theorem eqF_len (l out : List Ext) : (l.foldl eqS out).length = 2 ^ l.length * out.length := by
  induction l generalizing out with
  | nil => simp
  | cons p l ih => rw [List.foldl_cons, ih, eqS_len, List.length_cons, Nat.pow_succ]; rw [Nat.mul_assoc]
theorem eqT_len (l : List Ext) : (eqT l).length = 2 ^ l.length := by rw [eqT, eqF_len]; simp
theorem pow2_6 : ∀ k : Nat, k ≤ 6 → 2 ^ k ≤ 64 := by decide
/-- Two halves filled side by side. -/
def eqU (out : List Ext) (p : Ext) (k : Nat) (l : List Ext) : List Ext := (l.set k (eM (out.getD k e0) (eS e1 p))).set (k + out.length) (eM (out.getD k e0) p)
theorem iU_lenE {f : Nat → List Ext → List Ext} (hf : ∀ k l, (f k l).length = l.length) : ∀ (k : Nat) (l : List Ext), (iU f k l).length = l.length
  | 0, l => rfl
  | k + 1, l => by rw [iU, hf, iU_lenE hf k l]
theorem eqU_len (out : List Ext) (p : Ext) (k : Nat) (l : List Ext) : (iU (eqU out p) k l).length = l.length := iU_lenE (fun _ _ => by simp [eqU]) k l
theorem eqU_get (out : List Ext) (p : Ext) (l : List Ext) (hl : l.length = 2 * out.length) : ∀ k, k ≤ out.length → ∀ j (hj : j < (iU (eqU out p) k l).length), (iU (eqU out p) k l)[j] =
    if j < k then eM (out.getD j e0) (eS e1 p) else if out.length ≤ j ∧ j < out.length + k then eM (out.getD (j - out.length) e0) p else l[j]'(by rw [eqU_len] at hj; exact hj)
  | 0, _, j, hj => by
    rw [if_neg (by omega), if_neg (by omega)]; rfl
  | k + 1, hk, j, hj => by
    have ih := eqU_get out p l hl k (by omega) j (by rw [eqU_len] at hj ⊢; exact hj)
    simp only [iU, eqU, List.getElem_set]
    by_cases h1 : k + out.length = j
    · rw [if_pos h1, if_neg (by omega), if_pos (by omega), show j - out.length = k by omega]
    · rw [if_neg h1]
      by_cases h2 : k = j
      · rw [if_pos h2, if_pos (by omega), h2]
      · rw [if_neg h2, ih]
        by_cases h3 : j < k
        · rw [if_pos h3, if_pos (by omega)]
        · by_cases h4 : out.length ≤ j ∧ j < out.length + k
          · rw [if_neg h3, if_pos h4, if_neg (by omega), if_pos (by omega)]
          · rw [if_neg h3, if_neg h4, if_neg (by omega), if_neg (by omega)]
theorem eqU_all (out : List Ext) (p : Ext) (l : List Ext) (hl : l.length = 2 * out.length) : iU (eqU out p) out.length l = eqS out p := by
  apply List.ext_getElem (by rw [eqU_len, eqS_len, hl])
  intro j h1 h2
  rw [eqU_get out p l hl out.length (Nat.le_refl _) j h1]
  rw [eqU_len, hl] at h1
  simp only [eqS]
  by_cases h3 : j < out.length
  · rw [if_pos h3, List.getElem_append_left (by simpa using h3), List.getElem_map]; simp [h3]
  · rw [if_neg h3, if_pos (by omega), List.getElem_append_right (by simp; omega), List.getElem_map]
    have : j - out.length < out.length := by omega
    simp [this]
theorem atL_e {l : List Ext} {k : Nat} (h : k < l.length) : atL l (k : Int) = some (l.getD k e0) := by simp [atL, h]
theorem OkEs.getD {l : List Ext} (h : OkEs l) (k : Nat) : okE (l.getD k e0) := by
  by_cases hk : k < l.length
  · simp [hk]; exact h.get hk
  · simp [List.getElem?_eq_none (Nat.le_of_not_lt hk)]; exact e0_ok
theorem get_e {β : Type} {l : List Ext} {i : Nat} {f : Ext → Option β} (h : i < l.length) : (l[i]?).bind f = f (l.getD i e0) := by simp [h]
end Go.AI.Fn

set_option linter.unusedVariables false
namespace Go.AI.Fn

def be (w x y z : UInt8) : Int := (((w.toNat : Int) * 256 + x.toNat) * 256 + y.toNat) * 256 + z.toNat
def dec : List UInt8 → List Ext
  | a :: b :: c :: d :: e :: f :: g :: h :: r => ⟨be a b c d, be e f g h⟩ :: dec r
  | _ => []
theorem dec_short {l : List UInt8} (h : l.length < 8) : dec l = [] := by
  match l, h with
  | [], _ => rfl
  | [_], _ => rfl
  | [_, _], _ => rfl
  | [_, _, _], _ => rfl
  | [_, _, _, _], _ => rfl
  | [_, _, _, _, _], _ => rfl
  | [_, _, _, _, _, _], _ => rfl
  | [_, _, _, _, _, _, _], _ => rfl
  | _ :: _ :: _ :: _ :: _ :: _ :: _ :: _ :: r, h => simp at h; omega
theorem long {l : List UInt8} (h : 8 ≤ l.length) : ∃ a b c d e f g k r, l = a :: b :: c :: d :: e :: f :: g :: k :: r := by
  match l, h with
  | a :: b :: c :: d :: e :: f :: g :: k :: r, _ => exact ⟨a, b, c, d, e, f, g, k, r, rfl⟩
theorem dec_len (l : List UInt8) : (dec l).length = l.length / 8 := by
  generalize hn : l.length = n
  induction n using Nat.strongRecOn generalizing l with
  | _ n ih =>
    by_cases h : l.length < 8
    · rw [dec_short h, List.length_nil]; omega
    · obtain ⟨a, b, c, d, e, f, g, k, r, rfl⟩ := long (l := l) (by omega)
      simp only [List.length_cons] at hn
      simp only [dec, List.length_cons, ih r.length (by omega) r rfl]; omega

theorem or_byte {n : Int} (x : UInt8) (h0 : 0 ≤ n) (h1 : n < 16777216) : or64 .i64 (shl64 .i64 n 8) (IntKind.wrap .i64 (x.toNat : Int)) = n * 256 + x.toNat := by
  have hx := u8_lt x
  have e1 : shl64 .i64 n 8 = n * 256 := by
    have : n * 2 ^ (min (8 : Int).toNat (IntKind.bits .i64)) = n * 256 := by
      have : (2 : Int) ^ (min (8 : Int).toNat (IntKind.bits .i64)) = 256 := by decide
      rw [this]
    unfold shl64
    rw [this, wrap_i64 _ (by omega) (by omega)]
  rw [e1, wrap_i64 (x.toNat : Int) (by omega) (by omega)]
  unfold or64
  obtain ⟨m, rfl⟩ := Int.eq_ofNat_of_zero_le h0
  have e2 : (BitVec.ofInt (IntKind.bits .i64) ((m : Int) * 256) ||| BitVec.ofInt (IntKind.bits .i64) (x.toNat : Int)).toNat = m * 256 + x.toNat := by
    rw [BitVec.toNat_or, BitVec.toNat_ofInt, BitVec.toNat_ofInt]
    have b1 : (((m : Int) * 256) % ((2 ^ (IntKind.bits .i64) : Nat) : Int)).toNat = m <<< 8 := by
      rw [show ((2 ^ (IntKind.bits .i64) : Nat) : Int) = 18446744073709551616 by decide, Nat.shiftLeft_eq]; omega
    have b2 : ((x.toNat : Int) % ((2 ^ (IntKind.bits .i64) : Nat) : Int)).toNat = x.toNat := by
      rw [show ((2 ^ (IntKind.bits .i64) : Nat) : Int) = 18446744073709551616 by decide]; omega
    rw [b1, b2, ← Nat.shiftLeft_add_eq_or_of_lt (show x.toNat < 2 ^ 8 by omega), Nat.shiftLeft_eq]
  rw [e2, wrap_i64 _ (by omega) (by omega)]
  omega

theorem shr_eq (n : Int) (k : Nat) (hk : k ≤ 64) (h0 : 0 ≤ n) : shr64 .i64 n (k : Int) = n / 2 ^ k := by
  unfold shr64
  have : min ((k : Int).toNat) (IntKind.bits .i64) = k := by simp [IntKind.bits]; omega
  rw [this, Int.fdiv_eq_ediv_of_nonneg _ (by exact Int.pow_nonneg (by decide))]
theorem ofInt_toNat (n : Int) : ((UInt8.ofInt n).toNat : Int) = n % 256 := by
  rw [u8_wrap_toNat]; simp [IntKind.wrap, IntKind.bits, IntKind.signed]
theorem be_four {n : Int} (h : okF n) : be (UInt8.ofInt (shr64 .i64 n 24)) (UInt8.ofInt (shr64 .i64 n 16)) (UInt8.ofInt (shr64 .i64 n 8)) (UInt8.ofInt n) = n := by
  obtain ⟨h0, h1⟩ := h
  have e1 : shr64 .i64 n 24 = n / 16777216 := shr_eq n 24 (by omega) h0
  have e2 : shr64 .i64 n 16 = n / 65536 := shr_eq n 16 (by omega) h0
  have e3 : shr64 .i64 n 8 = n / 256 := shr_eq n 8 (by omega) h0
  rw [e1, e2, e3]
  unfold be
  rw [ofInt_toNat, ofInt_toNat, ofInt_toNat, ofInt_toNat]
  omega
theorem ofInt_of (b : UInt8) {n : Int} (h : n % 256 = b.toNat) : UInt8.ofInt n = b := by
  apply UInt8.toNat_inj.1
  have := ofInt_toNat n
  omega
theorem four_be (w x y z : UInt8) : four (be w x y z) = [w, x, y, z] := by
  have hw := u8_lt w
  have hx := u8_lt x
  have hy := u8_lt y
  have hz := u8_lt z
  have h0 : 0 ≤ be w x y z := by unfold be; omega
  have e1 : shr64 .i64 (be w x y z) 24 = be w x y z / 16777216 := shr_eq _ 24 (by omega) h0
  have e2 : shr64 .i64 (be w x y z) 16 = be w x y z / 65536 := shr_eq _ 16 (by omega) h0
  have e3 : shr64 .i64 (be w x y z) 8 = be w x y z / 256 := shr_eq _ 8 (by omega) h0
  unfold four
  rw [e1, e2, e3, ofInt_of w (by unfold be; omega), ofInt_of x (by unfold be; omega), ofInt_of y (by unfold be; omega), ofInt_of z (by unfold be; omega)]

theorem dec_e8 {l : List Ext} (h : ∀ x ∈ l, okE x) : dec (l.flatMap e8) = l := by
  induction l with
  | nil => rfl
  | cons x l ih =>
    have hx := h x (List.mem_cons_self ..)
    rw [List.flatMap_cons, e8]
    show (⟨be _ _ _ _, be _ _ _ _⟩ : Ext) :: dec (l.flatMap e8) = x :: l
    rw [be_four hx.1, be_four hx.2, ih fun y hy => h y (List.mem_cons_of_mem _ hy)]
theorem e8_dec (b : List UInt8) (h : b.length % 8 = 0) : (dec b).flatMap e8 = b := by
  match b with
  | p :: q :: r :: s :: t :: u :: v :: w :: z =>
    have hz : z.length % 8 = 0 := by simp only [List.length_cons] at h; omega
    simp only [dec, List.flatMap_cons, e8, four_be]
    rw [e8_dec z hz]; rfl
  | [] => rfl
  | [_] => simp at h
  | [_, _] => simp at h
  | [_, _, _] => simp at h
  | [_, _, _, _] => simp at h
  | [_, _, _, _, _] => simp at h
  | [_, _, _, _, _, _] => simp at h
  | [_, _, _, _, _, _, _] => simp at h
end Go.AI.Fn

set_option linter.unusedVariables false
set_option linter.unusedSimpArgs false
namespace Go.AI.Fn

def tagA : List UInt8 := [97, 98, 115, 111, 114, 98]
def tagD : List UInt8 := [100, 114, 97, 119]
def tagG : List UInt8 := [103, 114, 105, 110, 100]
def tagS : List UInt8 := [115, 111, 117, 114, 99, 101]
def srcB (s : Source) : Bool := decide (s.Script.length ≤ 64) && (s.Script.all okEb && (decide (s.State.length = 32) && ((decide (0 ≤ s.At) && decide (s.At ≤ 1000000)) && (decide (0 ≤ s.Count) && decide (s.Count ≤ 1000000)))))
structure OkSrc (s : Source) : Prop where
  len : s.Script.length ≤ 64
  scr : OkEs s.Script
  st : s.State.length = 32
  a0 : 0 ≤ s.At
  a1 : s.At ≤ 1000000
  c0 : 0 ≤ s.Count
  c1 : s.Count ≤ 1000000
theorem srcB_iff {s : Source} : srcB s = true ↔ OkSrc s := by
  unfold srcB
  simp only [Bool.and_eq_true, decide_eq_true_eq, allE]
  exact ⟨fun ⟨h1, h2, h3, ⟨h4, h5⟩, h6, h7⟩ => ⟨h1, h2, h3, h4, h5, h6, h7⟩, fun h => ⟨h.1, h.2, h.3, ⟨h.4, h.5⟩, h.6, h.7⟩⟩
theorem i_isHash_eq (h : List UInt8) : i_isHash h = some (decide (h.length = 32)) := by
  unfold i_isHash
  congr 1
  by_cases c : h.length = 32
  · rw [decide_eq_true c, c]; rfl
  · rw [decide_eq_false c]; simp; omega
theorem i_SourceOK_eq {s : Source} (hl : s.Script.length ≤ 1099511627776) : i_SourceOK s = some (srcB s) := by
  unfold i_SourceOK srcB
  rw [i_areE_eq hl]
  by_cases h1 : s.Script.length ≤ 64
  · rw [brd (by omega), decide_eq_true h1, Option.bind_some, i_isHash_eq, i_in_eq, i_in_eq]
    cases s.Script.all okEb
    · rfl
    · simp only [br_true, Option.bind_some, Bool.true_and]
      cases decide (s.State.length = 32)
      · rfl
      · simp only [br_true, Bool.true_and]
        cases (decide (0 ≤ s.At) && decide (s.At ≤ 1000000)) <;> rfl
  · rw [brn (by omega), decide_eq_false h1]; rfl
theorem s_SourceOK_eq {s : Source} (hl : s.Script.length ≤ 1099511627776) : s_SourceOK s = some (srcB s) := by
  unfold s_SourceOK srcB
  rw [s_listE_eq hl]
  have e : (((s.State.length : Nat) : Int) == 32) = decide (s.State.length = 32) := by
    by_cases c : s.State.length = 32
    · rw [decide_eq_true c, c]; rfl
    · rw [decide_eq_false c]; simp; omega
  by_cases h1 : s.Script.length ≤ 64
  · rw [brd (by omega), decide_eq_true h1, Option.bind_some, s_in_eq, s_in_eq, e]
    cases s.Script.all okEb
    · rfl
    · simp only [br_true, Option.bind_some, Bool.true_and]
      cases (decide (0 ≤ s.At) && decide (s.At ≤ 1000000))
      · simp [br]
      · simp only [br_true, Bool.true_and]
        cases decide (s.State.length = 32) <;> rfl
  · rw [brn (by omega), decide_eq_false h1]; rfl

/-! ### grinding -/
theorem i_four_eq (n : Int) : i_four n = some (four n) := by
  unfold i_four; rw [br_fits (by simp only [List.length_cons, List.length_nil]; omega)]; rfl
theorem take4 {l : List UInt8} (h : 4 ≤ l.length) : l.take 4 = [l.getD 0 0, l.getD 1 0, l.getD 2 0, l.getD 3 0] := by
  match l, h with
  | a :: b :: c :: d :: r, _ => rfl
theorem shr_zero {n : Int} {k : Nat} (hk : k ≤ 64) (h0 : 0 ≤ n) : (shr64 .i64 n (k : Int) == 0) = decide (n < 2 ^ k) := by
  rw [shr_eq n k hk h0]
  have hp : (0 : Int) < 2 ^ k := Int.pow_pos (by decide)
  by_cases h : n < 2 ^ k
  · rw [decide_eq_true h, Int.ediv_eq_zero_of_lt h0 h]; rfl
  · rw [decide_eq_false h]
    have : 1 ≤ n / 2 ^ k := (Int.le_ediv_iff_mul_le hp).2 (by omega)
    simp; omega
/-- A nonce that does. -/
def doesM (st : List UInt8) (bits : Nat) (nonce : Int) : Bool := decide (((H (st ++ (tagG ++ four nonce))).getD 0 0).toNat * 256 + ((H (st ++ (tagG ++ four nonce))).getD 1 0).toNat < 2 ^ (16 - bits))
theorem p2_16 : ∀ b : Nat, b ≤ 12 → (2 : Int) ^ (32 - b) = 65536 * ((2 ^ (16 - b) : Nat) : Int) ∧ (2 : Int) ^ (16 - b) = ((2 ^ (16 - b) : Nat) : Int) := by decide
/-- The least nonce that does. -/
theorem grind_ex (st : List UInt8) (bits : Nat) : (∃ n : Nat, n < 65536 ∧ doesM st bits n = true ∧ ∀ j : Nat, j < n → doesM st bits j = false) ∨ ∀ n : Nat, n < 65536 → doesM st bits n = false := by
  rcases first_bad (fun k => !doesM st bits (k : Int)) 65536 with h | ⟨k, hk, h1, h2⟩
  · exact .inr fun n hn => by simpa using h n hn
  · exact .inl ⟨k, hk, by simpa using h1, fun j hj => by simpa using h2 j hj⟩
open Classical in
noncomputable def grindM (st : List UInt8) (bits : Nat) : Option Nat := if h : ∃ n : Nat, n < 65536 ∧ doesM st bits n = true ∧ ∀ j : Nat, j < n → doesM st bits j = false then some h.choose else none
theorem grind_some {st : List UInt8} {bits n : Nat} (h : n < 65536) (h1 : doesM st bits n = true) (h2 : ∀ j : Nat, j < n → doesM st bits j = false) : grindM st bits = some n := by
  have hex : ∃ n : Nat, n < 65536 ∧ doesM st bits n = true ∧ ∀ j : Nat, j < n → doesM st bits j = false := ⟨n, h, h1, h2⟩
  unfold grindM
  rw [dif_pos hex]
  obtain ⟨g1, g2, g3⟩ := hex.choose_spec
  congr 1
  rcases Nat.lt_trichotomy hex.choose n with hlt | heq | hgt
  · have := h2 _ hlt; rw [g2] at this; cases this
  · exact heq
  · have := g3 _ hgt; rw [h1] at this; cases this
theorem grind_none {st : List UInt8} {bits : Nat} (h : ∀ n : Nat, n < 65536 → doesM st bits n = false) : grindM st bits = none := by
  unfold grindM
  rw [dif_neg]
  rintro ⟨n, hn, h1, _⟩
  rw [h n hn] at h1; cases h1
theorem grind_spec {st : List UInt8} {bits n : Nat} (h : grindM st bits = some n) : n < 65536 ∧ doesM st bits n = true ∧ ∀ j : Nat, j < n → doesM st bits j = false := by
  rcases grind_ex st bits with ⟨m, h1, h2, h3⟩ | h1
  · rw [grind_some h1 h2 h3] at h; cases h; exact ⟨h1, h2, h3⟩
  · rw [grind_none h1] at h; cases h
end Go.AI.Fn

set_option linter.unusedVariables false
set_option linter.unusedSimpArgs false
namespace Go.AI.Fn

theorem set_fill {α : Type} {a : List α} {n k : Nat} {z x : α} (hk : k < n) (ha : a.length = k) : (a ++ List.replicate (n - k) z).set k x = (a ++ [x]) ++ List.replicate (n - (k + 1)) z := by
  subst ha
  have e : n - a.length = (n - (a.length + 1)) + 1 := by omega
  rw [e, List.replicate_succ]
  simp
/-- A list filled place by place. -/
theorem to_gen {α β : Type} {f : α → Option β} {g : α → β} {a : List α} {z : β} (hl : a.length ≤ 1099511627776) (hf : ∀ x ∈ a, f x = some (g x)) {step : List β × Int → Option ((List β × Int) ⊕ (List β × Int × Bool))}
    (hs : ∀ l i, step (l, i) = br (decide (i < ((a.length : Nat) : Int))) ((atL a i).bind fun x => (f x).bind fun r => br (decide (0 ≤ i)) (br (decide (i.toNat < l.length)) ((l[i.toNat]?).bind fun _ => some (.inl (l.set i.toNat r, IntKind.wrap .i64 (i + 1)))) none) none) (some (.inr (l, i, decide (i < ((a.length : Nat) : Int)))))) {n : Nat} (hn : a.length ≤ n) :
    Loop step (List.replicate n z, 0) = some (a.map g ++ List.replicate (n - a.length) z, (a.length : Int), false) := by
  have key := Loop_for (step := step) (fun k => ((a.take k).map g ++ List.replicate (n - k) z, (k : Int))) a.length (e := (a.map g ++ List.replicate (n - a.length) z, (a.length : Int), false)) (fun k hk => by
    have hlen : ((a.take k).map g ++ List.replicate (n - k) z).length = n := by simp; omega
    rw [hs, brd (by omega), atL_nat hk, Option.bind_some, hf _ (List.getElem_mem hk), Option.bind_some, brd (by omega), brd (by omega), Int.toNat_natCast, get_some (by omega), Option.bind_some, set_fill (by omega) (by simp; omega), wrap_i64 _ (by omega) (by omega), take_succ hk, List.map_append]
    rfl) (by
    rw [hs, brn (by omega), decide_eq_false (by omega), List.take_length])
  simpa using key
/-- Alike lists compare so. -/
theorem eq_gen {α : Type} {f : α → α → Option Bool} {a : List α} (hl : a.length ≤ 1099511627776) (hf : ∀ x ∈ a, f x x = some true) {step : Int → Option (Int ⊕ (Unit ⊕ (Int × Bool)))}
    (hs : ∀ t, step t = br (decide (t < ((a.length : Nat) : Int))) ((atL a t).bind fun x => (atL a t).bind fun y => (f x y).bind fun r => br (!r) (some (.inr (.inl ()))) (some (.inl (IntKind.wrap .i64 (t + 1))))) (some (.inr (.inr (t, decide (t < ((a.length : Nat) : Int))))))) :
    (Loop step 0).bind (alt (fun _ => some false) (fun _ => some true)) = some true := by
  have key : Loop step 0 = some (.inr ((a.length : Int), false)) := Loop_for (step := step) (fun k => (k : Int)) a.length (fun k hk => by
      rw [hs, brd (by omega), atL_nat hk, Option.bind_some, Option.bind_some, hf _ (List.getElem_mem hk), Option.bind_some, Bool.not_true, br_false, wrap_i64 _ (by omega) (by omega)]; rfl)
    (by rw [hs, brn (by omega), decide_eq_false (by omega)])
  rw [key]; rfl
end Go.AI.Fn

set_option linter.unusedVariables false
namespace Go.AI.Fn

def ltE (y x : Entry) : Prop := y.Row < x.Row ∨ (y.Row = x.Row ∧ y.Col < x.Col)
def inE (R C : Int) (x : Entry) : Prop := (0 ≤ x.Row ∧ x.Row ≤ R - 1) ∧ (0 ≤ x.Col ∧ x.Col ≤ C - 1) ∧ 1 ≤ x.Value ∧ x.Value ≤ 2130706432
def badE (l : List Entry) (R C : Int) (t : Nat) : Prop := ∃ x, l[t]? = some x ∧ (¬ inE R C x ∨ (0 < t ∧ ∃ y, l[t - 1]? = some y ∧ ¬ ltE y x))
open Classical in
noncomputable def matB (l : List Entry) (R C : Int) : Bool := decide (l.length ≤ 200 ∧ ∀ t, ¬ badE l R C t)

open Classical in
theorem matB_t {l : List Entry} {R C : Int} (h : l.length ≤ 200) (g : ∀ t, ¬ badE l R C t) : matB l R C = true := by unfold matB; exact decide_eq_true ⟨h, g⟩
open Classical in
theorem matB_f {l : List Entry} {R C : Int} (h : l.length ≤ 200 → ¬ ∀ t, ¬ badE l R C t) : matB l R C = false := by unfold matB; exact decide_eq_false fun g => h g.1 g.2
open Classical in
theorem matB_len {l : List Entry} {R C : Int} (h : matB l R C = true) : l.length ≤ 200 := by unfold matB at h; exact (of_decide_eq_true h).1
theorem i_inA (n a b : Int) : i_in n a b = some (decide (a ≤ n ∧ n ≤ b)) := by
  unfold i_in
  by_cases h : a ≤ n
  · rw [brd h]; simp [h]
  · rw [brn h]; simp [h]
theorem s_inA (n a b : Int) : s_l01In n a b = some (decide (a ≤ n ∧ n ≤ b)) := by
  unfold s_l01In
  by_cases h : a ≤ n
  · rw [brd h]; simp [h]
  · rw [brn h]; simp [h]
end Go.AI.Fn

set_option linter.unusedVariables false
namespace Go.AI.Fn

theorem shl_ok {k : Int} (h : 0 ≤ k ∧ k ≤ 5) : 1 ≤ shl64 .i64 1 k ∧ shl64 .i64 1 k ≤ 4096 := by
  have : k = 0 ∨ k = 1 ∨ k = 2 ∨ k = 3 ∨ k = 4 ∨ k = 5 := by omega
  rcases this with rfl | rfl | rfl | rfl | rfl | rfl <;> decide

noncomputable def sysB (s : System) : Bool :=
  decide (1 ≤ s.Rows ∧ s.Rows ≤ 5) && (decide (2 ≤ s.Cols ∧ s.Cols ≤ 5) && (decide (0 ≤ s.Publics ∧ s.Publics ≤ shl64 .i64 1 (s.Cols - 1) - 1) &&
    (matB s.A (shl64 .i64 1 s.Rows) (shl64 .i64 1 s.Cols) && (matB s.B (shl64 .i64 1 s.Rows) (shl64 .i64 1 s.Cols) && matB s.C (shl64 .i64 1 s.Rows) (shl64 .i64 1 s.Cols)))))
theorem sysB_in {s : System} (h : sysB s = true) : (1 ≤ s.Rows ∧ s.Rows ≤ 5) ∧ (2 ≤ s.Cols ∧ s.Cols ≤ 5) ∧ (0 ≤ s.Publics ∧ s.Publics ≤ 4096) ∧ s.A.length ≤ 200 ∧ s.B.length ≤ 200 ∧ s.C.length ≤ 200 := by
  unfold sysB at h
  simp only [Bool.and_eq_true, decide_eq_true_eq] at h
  obtain ⟨h1, h2, h3, h4, h5, h6⟩ := h
  have k3 := shl_ok (k := s.Cols - 1) (by omega)
  exact ⟨h1, h2, by omega, matB_len h4, matB_len h5, matB_len h6⟩

def setB (t : Setting) : Bool := decide (1 ≤ t.Rate ∧ t.Rate ≤ 3) && (decide (1 ≤ t.Queries ∧ t.Queries ≤ 8) && decide (0 ≤ t.Grind ∧ t.Grind ≤ 12))
theorem setB_in {t : Setting} (h : setB t = true) : (1 ≤ t.Rate ∧ t.Rate ≤ 3) ∧ (1 ≤ t.Queries ∧ t.Queries ≤ 8) ∧ 0 ≤ t.Grind ∧ t.Grind ≤ 12 := by
  unfold setB at h
  simpa only [Bool.and_eq_true, decide_eq_true_eq] using h

end Go.AI.Fn

set_option linter.unusedVariables false
set_option linter.unusedSimpArgs false
namespace Go.AI.Fn

theorem shl1 {k : Nat} (h : k ≤ 62) : shl64 .i64 1 (k : Int) = ((2 ^ k : Nat) : Int) := by
  have h2 : ∀ k : Nat, k < 63 → (2 : Int) ^ k ≤ 4611686018427387904 ∧ 0 < (2 : Int) ^ k := by decide
  obtain ⟨h3, h4⟩ := h2 k (by omega)
  show IntKind.wrap .i64 (1 * 2 ^ (min ((k : Int).toNat) 64)) = _
  rw [Int.toNat_natCast, Nat.min_eq_left (by omega), Int.one_mul, wrap_i64 _ (by omega) (by omega)]
  simp
/-- A vector: a one, what is public, noughts; what is private, noughts. -/
def vecM (h n : Nat) (pub priv : List Int) : List Int := ((1 :: pub) ++ List.replicate (h - 1 - pub.length) 0) ++ (priv ++ List.replicate (n - h - priv.length) 0)
theorem vecM_len {h n : Nat} {pub priv : List Int} (h1 : pub.length + 1 ≤ h) (h2 : priv.length ≤ n - h) (h3 : h ≤ n) : (vecM h n pub priv).length = n := by simp [vecM]; omega
theorem copy_at {l r : List Int} {s : Nat} (h : s + r.length ≤ l.length) : copyL l s r.length r = l.take s ++ (r ++ l.drop (s + r.length)) := by
  rw [copyL, List.take_length]
theorem vec_copy {h n : Nat} {pub priv : List Int} (h1 : pub.length + 1 ≤ h) (h2 : priv.length ≤ n - h) (h3 : h ≤ n) :
    copyL (copyL ((List.replicate n (0 : Int)).set 0 1) 1 pub.length pub) h priv.length priv = vecM h n pub priv := by
  obtain ⟨m, rfl⟩ : ∃ m, n = m + 1 := ⟨n - 1, by omega⟩
  have e1 : (List.replicate (m + 1) (0 : Int)).set 0 1 = 1 :: List.replicate m 0 := by rw [List.replicate_succ]; rfl
  have e2 : copyL (1 :: List.replicate m (0 : Int)) 1 pub.length pub = 1 :: (pub ++ List.replicate (m - pub.length) 0) := by
    rw [copy_at (by simp; omega), Nat.add_comm 1]; simp
  rw [e1, e2, copy_at (by simp; omega), vecM]
  have e3 : (1 :: (pub ++ List.replicate (m - pub.length) (0 : Int))).take h = (1 :: pub) ++ List.replicate (h - 1 - pub.length) 0 := by
    obtain ⟨q, rfl⟩ : ∃ q, h = q + 1 := ⟨h - 1, by omega⟩
    rw [List.take_succ_cons, List.take_append, List.take_of_length_le (by omega), List.take_replicate, Nat.min_eq_left (by omega)]
    simp
  have e4 : (1 :: (pub ++ List.replicate (m - pub.length) (0 : Int))).drop (h + priv.length) = List.replicate (m + 1 - h - priv.length) 0 := by
    obtain ⟨q, rfl⟩ : ∃ q, h = q + 1 := ⟨h - 1, by omega⟩
    rw [show q + 1 + priv.length = (q + priv.length) + 1 by omega, List.drop_succ_cons, List.drop_append, List.drop_eq_nil_of_le (by omega), List.nil_append, List.drop_replicate]
    congr 1; omega
  rw [e3, e4]

def colsN (s : System) : Nat := s.Cols.toNat
def halfN (s : System) : Nat := 2 ^ (s.Cols.toNat - 1)
theorem cols_pos {s : System} (h : sysB s = true) : 2 ≤ s.Cols.toNat ∧ s.Cols.toNat ≤ 5 ∧ s.Cols = (s.Cols.toNat : Int) := by
  obtain ⟨_, h2, _⟩ := sysB_in h; omega
theorem two_half {s : System} (h : sysB s = true) : 2 ^ s.Cols.toNat = 2 * halfN s := by
  obtain ⟨h1, _⟩ := cols_pos h
  rw [halfN, ← Nat.pow_succ']; congr 1; omega
theorem pow2_5 : ∀ k : Nat, k ≤ 5 → 1 ≤ 2 ^ k ∧ 2 ^ k ≤ 32 := by decide
theorem vec_okF {h n : Nat} {pub priv : List Int} (h1 : OkFs pub) (h2 : OkFs priv) : OkFs (vecM h n pub priv) := by
  intro x hx
  simp only [vecM, List.mem_append, List.mem_cons, List.mem_replicate] at hx
  rcases hx with ((rfl | hx) | ⟨_, rfl⟩) | hx | ⟨_, rfl⟩
  · exact okF1
  · exact h1 x hx
  · exact okF0
  · exact h2 x hx
  · exact okF0
theorem eN_map_ok {l : List Int} (h : OkFs l) : OkEs (l.map eN) := OkEs.map l fun x hx => eN_ok (h x hx)

/-- What is public, at a point. -/
def pubM (s : System) (pub : List Int) (pt : List Ext) : Ext := dotM (((vecM (halfN s) (2 ^ s.Cols.toNat) pub []).take (halfN s)).map eN) (eqT pt)
open Classical in
/-- PublicAt's answer. -/
noncomputable def pubA (s : System) (pub : List Int) (pt : List Ext) : Ext × Int :=
  if pub.length > 4096 then (e0, 2) else if pt.length > 4096 then (e0, 2) else if sysB s = false then (e0, 1) else if pub.all okFb = false then (e0, 1) else if pt.all okEb = false then (e0, 1)
  else if (pub.length : Int) ≠ s.Publics then (e0, 8) else if (pt.length : Int) ≠ s.Cols - 1 then (e0, 8) else (pubM s pub pt, 0)
theorem sys_pub {s : System} (h : sysB s = true) : 0 ≤ s.Publics ∧ s.Publics.toNat + 1 ≤ halfN s := by
  obtain ⟨c1, c2, c3⟩ := cols_pos h
  have h0 := h
  unfold sysB at h0
  simp only [Bool.and_eq_true, decide_eq_true_eq] at h0
  obtain ⟨_, _, h3, _⟩ := h0
  have e : shl64 .i64 1 (s.Cols - 1) = (halfN s : Int) := by
    rw [show s.Cols - 1 = ((s.Cols.toNat - 1 : Nat) : Int) by omega, shl1 (by omega)]; rfl
  rw [e] at h3
  omega
theorem not_bool {α : Type} {b : Bool} {x y : α} : br (!b) x y = br b y x := br_not b x y
end Go.AI.Fn

set_option linter.unusedVariables false
namespace Go.AI.Fn

theorem srt_add {l : List Entry} {R C : Int} {y : Entry} (h : ∀ k, ¬ badE l R C k) (hy : inE R C y) (hl : ∀ x ∈ l, ltE x y) : ∀ k, ¬ badE (l ++ [y]) R C k := by
  rintro k ⟨x, hx, hb⟩
  by_cases hk : k < l.length
  · rw [List.getElem?_append_left hk] at hx
    rcases hb with hb | ⟨h0, z, hz, hb⟩
    · exact h k ⟨x, hx, .inl hb⟩
    · rw [List.getElem?_append_left (by omega)] at hz
      exact h k ⟨x, hx, .inr ⟨h0, z, hz, hb⟩⟩
  · have hk2 : k = l.length := by
      obtain ⟨h1, _⟩ := List.getElem?_eq_some_iff.1 hx
      rw [List.length_append, List.length_singleton] at h1; omega
    subst hk2
    rw [List.getElem?_append_right (Nat.le_refl _), Nat.sub_self] at hx
    cases hx
    rcases hb with hb | ⟨h0, z, hz, hb⟩
    · exact hb hy
    · rw [List.getElem?_append_left (by omega)] at hz
      exact hb (hl z (List.mem_of_getElem? hz))

theorem mx_ok {v : Int} (h : okF v) : 1 ≤ mx 1 v ∧ mx 1 v ≤ 2130706432 := by
  obtain ⟨h0, h1⟩ := h
  unfold mx
  split <;> omega

theorem shl_small {k : Int} (h : 0 ≤ k ∧ k ≤ 3) : 1 ≤ shl64 .i64 1 k ∧ shl64 .i64 1 k ≤ 8 := by
  have : k = 0 ∨ k = 1 ∨ k = 2 ∨ k = 3 := by omega
  rcases this with rfl | rfl | rfl | rfl <;> decide
theorem shl_more {k : Int} (h : 1 ≤ k ∧ k ≤ 3) : 1 < shl64 .i64 1 k := by
  have : k = 1 ∨ k = 2 ∨ k = 3 := by omega
  rcases this with rfl | rfl | rfl <;> decide
end Go.AI.Fn

set_option linter.unusedVariables false
set_option linter.unusedSimpArgs false
namespace Go.AI.Fn

theorem isP_pow : ∀ k : Nat, k ≤ 9 → isP (2 ^ k) = true := by decide
theorem powB_two {k : Nat} {most : Int} (h : k ≤ 9) (hm : ((2 ^ k : Nat) : Int) ≤ most) : powB ((2 ^ k : Nat) : Int) most = true := by
  have : 1 ≤ 2 ^ k := Nat.one_le_two_pow
  unfold powB
  rw [decide_eq_true (by omega), decide_eq_true hm, Int.toNat_natCast, isP_pow k h]; rfl
end Go.AI.Fn

set_option linter.unusedVariables false
set_option linter.unusedSimpArgs false
namespace Go.AI.Fn

/-- A text taken in. -/
def tkM (s : Source) (t : List UInt8) : Source := ⟨s.Script, s.At, H (s.State ++ (tagA ++ (four t.length ++ t))), 0⟩
theorem tkM_ok {s : Source} (t : List UInt8) (h : OkSrc s) : OkSrc (tkM s t) := ⟨h.1, h.2, H_len _, h.4, h.5, by simp [tkM], by simp [tkM]⟩
def beN (l : List UInt8) : Int := l.foldl (fun n c => n * 256 + (c.toNat : Int)) 0
def fldM (l : List UInt8) : Int := beN l % 2130706433
/-- An element drawn. -/
def drawM (s : Source) : Source × Ext :=
  if s.Script.length = 0 then (⟨s.Script, s.At, s.State, s.Count + 1⟩, ⟨fldM ((H (s.State ++ (tagD ++ four s.Count))).take 8), fldM (((H (s.State ++ (tagD ++ four s.Count))).drop 8).take 8)⟩)
  else (⟨s.Script, s.At + 1, s.State, s.Count⟩, s.Script.getD (s.At % (s.Script.length : Int)).toNat e0)
theorem fldM_ok (l : List UInt8) : okF (fldM l) := okF_mod _
theorem drawM_ok {s : Source} (h : OkSrc s) : okE (drawM s).2 := by
  unfold drawM
  split
  · exact ⟨fldM_ok _, fldM_ok _⟩
  · exact h.scr.getD _
theorem drawM_src {s : Source} (h : OkSrc s) (ha : s.At < 1000000) (hc : s.Count < 1000000) : OkSrc (drawM s).1 := by
  unfold drawM
  split
  · exact ⟨h.1, h.2, h.3, h.4, h.5, by have := h.6; simp; omega, by simp; omega⟩
  · exact ⟨h.1, h.2, h.3, by have := h.4; simp; omega, by simp; omega, h.6, h.7⟩

theorem s_absorb_eq {s : Source} {t : List UInt8} (hs : s.State.length = 32) (ht : t.length ≤ 1000000) : s_l05Absorb s t = some (tkM s t) := by
  unfold s_l05Absorb
  have h4 := four_len ((t.length : Nat) : Int)
  rw [br_fits (by simp only [List.length_cons, List.length_nil]; omega), number4, Option.bind_some, br_fits (by simp only [List.length_append, List.length_cons, List.length_nil]; omega),
    br_fits (by simp only [List.length_append, List.length_cons, List.length_nil]; omega), s_hash_eq (by simp only [List.length_append, List.length_cons, List.length_nil]; omega), Option.bind_some, tkM]
  simp [tagA]
theorem beN_snoc (l : List UInt8) (c : UInt8) : beN (l ++ [c]) = beN l * 256 + (c.toNat : Int) := by simp [beN, List.foldl_append]
theorem s_field_eq {t : List UInt8} (h : t.length = 8) : s_l05Field t = some (fldM t) := by
  unfold s_l05Field
  have key : Loop (s_l05Field_1_s t) (0, 0) = some (fldM t, 8, false) :=
    Loop_for (fun k => (beN (t.take k) % 2130706433, (k : Int))) 8 (fun k hk => by
      have hk' : k < t.length := by omega
      have hb := u8_lt t[k]
      have hm : 0 ≤ beN (t.take k) % 2130706433 ∧ beN (t.take k) % 2130706433 < 2130706433 := by omega
      simp only [s_l05Field_1_s]
      rw [brd (by omega), atL_nat hk', Option.bind_some]
      simp (disch := omega) only [wrap_i64, tmod_nn]
      rw [take_succ hk', beN_snoc, mX1]; rfl) (by
      simp only [s_l05Field_1_s]
      rw [brn (by decide), List.take_of_length_le (by omega)]; rfl)
  rw [key]; rfl
theorem s_draw_eq {s : Source} (h : OkSrc s) : s_l05Draw s = some (drawM s) := by
  have h1 := h.1
  have h3 := h.3
  have h4 := h.4
  have h5 := h.5
  have h6 := h.6
  have h7 := h.7
  unfold s_l05Draw drawM
  by_cases hl : s.Script.length = 0
  · have hf := four_len s.Count
    rw [brn (by omega), if_pos hl, br_fits (by simp only [List.length_cons, List.length_nil]; omega), number4, Option.bind_some, br_fits (by simp only [List.length_append, List.length_cons, List.length_nil]; omega), s_hash_eq (by simp only [List.length_append, List.length_cons, List.length_nil]; omega), Option.bind_some]
    have e : s.State ++ [100, 114, 97, 119] ++ four s.Count = s.State ++ (tagD ++ four s.Count) := by simp [tagD]
    rw [e]
    have hh := H_len (s.State ++ (tagD ++ four s.Count))
    rw [subL_of (by omega) (by omega) (by omega), Option.bind_some, s_field_eq (by simp; omega), Option.bind_some, subL_of (by omega) (by omega) (by omega), Option.bind_some, s_field_eq (by simp; omega), Option.bind_some, wrap_i64 _ (by omega) (by omega)]
    rfl
  · have hr := Int.emod_nonneg s.At (b := (s.Script.length : Int)) (by omega)
    have hr2 := Int.emod_lt_of_pos s.At (b := (s.Script.length : Int)) (by omega)
    rw [brd (by omega), if_neg hl, brd (by omega), tmod_nn _ _ h4, wrap_i64 _ (by omega) (by omega)]
    have e : atL s.Script (s.At % (s.Script.length : Int)) = some (s.Script.getD (s.At % (s.Script.length : Int)).toNat e0) := by
      have := atL_e (l := s.Script) (k := (s.At % (s.Script.length : Int)).toNat) (by omega)
      rwa [Int.toNat_of_nonneg hr] at this
    rw [e]; rfl
theorem s_own_eq {s : Source} (h : s.Script.length ≤ 1000000) : s_l05Own s = some s := by
  unfold s_l05Own; rw [br_fits (by simp; omega)]; simp
theorem s_new_eq {l : List UInt8} {scr : List Ext} (h : l.length ≤ 1000000) : s_l05New l scr = some ⟨scr, 0, H (tagS ++ l), 0⟩ := by
  unfold s_l05New
  rw [br_fits (by simp only [List.length_cons, List.length_nil]; omega), s_hash_eq (by simp only [List.length_append, List.length_cons, List.length_nil]; omega), Option.bind_some]; rfl
theorem new_ok {l : List UInt8} {scr : List Ext} (h : scr.length ≤ 64) (hs : OkEs scr) : OkSrc ⟨scr, 0, H (tagS ++ l), 0⟩ := ⟨h, hs, H_len _, by simp, by simp, by simp, by simp⟩
theorem pick_ok {l : List (List UInt8)} {m : l00Src} {B : Int} (h : Src B m) (hB : B + 3 < Big) (h0 : 1 < l.length) (h1 : l.length ≤ 100) : ∃ x m', s_l00Src_pick l m = some (x, m') ∧ x ∈ l ∧ Src (B + 3) m' := by
  unfold s_l00Src_pick
  obtain ⟨x, m1, e1, x0, x1, _, s1⟩ := next_ok (n := (l.length : Int)) h (by omega)
  rw [brne (by omega), e1, Option.bind_some]
  obtain ⟨y, hy, _, hm⟩ := atL_of (l := l) x0 (by have := x1; omega)
  dsimp only
  rw [hy]
  exact ⟨_, _, rfl, hm, s1⟩

/-- A drawn source's bounds: it has drawn little. -/
structure Few (s : Source) (k : Int) : Prop where
  ok : OkSrc s
  a : s.At ≤ k
  c : s.Count ≤ k
theorem Few.mono {s : Source} {j k : Int} (h : Few s j) (hk : j ≤ k) : Few s k := ⟨h.1, by have := h.2; omega, by have := h.3; omega⟩
theorem Few.take {s : Source} {k : Int} (h : Few s k) (t : List UInt8) : Few (tkM s t) (k + 1) := ⟨tkM_ok t h.1, by have := h.2; simp [tkM]; omega, by have := h.3; have := h.1.c0; simp [tkM]; omega⟩
theorem Few.draw {s : Source} {k : Int} (h : Few s k) (hk : k < 1000000) : Few (drawM s).1 (k + 1) := by
  have h2 := h.2
  have h3 := h.3
  refine ⟨drawM_src h.1 (by omega) (by omega), ?_, ?_⟩ <;> (unfold drawM; split <;> dsimp only <;> omega)
theorem s_loop1 {c4 c6 : Int} {c5 : List UInt8} {i B k : Int} {m : l00Src} {s : Source} (h : Src B m) (hs : Few s k) (hi0 : 0 ≤ i) (hi : i ≤ 4) (hk : k ≤ 100) (hB : B + 6 * i < Big) :
    ∃ e, Loop (s_l00Src_source_1_s c4 c5 c6) (i, m.code, m.at_, m.seed, s.Script, s.At, s.State, s.Count) = some e ∧ Src (B + 6 * i) ⟨e.2.2.1, e.2.2.2.1, e.2.2.2.2.1⟩ ∧ Few ⟨e.2.2.2.2.2.1, e.2.2.2.2.2.2.1, e.2.2.2.2.2.2.2.1, e.2.2.2.2.2.2.2.2⟩ (k + i) := by
  refine Loop_inv (step := s_l00Src_source_1_s c4 c5 c6) (fun x => 0 ≤ x.1 ∧ x.1 ≤ i ∧ Src (B + 6 * (i - x.1)) ⟨x.2.1, x.2.2.1, x.2.2.2.1⟩ ∧ Few ⟨x.2.2.2.2.1, x.2.2.2.2.2.1, x.2.2.2.2.2.2.1, x.2.2.2.2.2.2.2⟩ (k + (i - x.1))) (fun x => x.1.toNat) _ ?_ (i, m.code, m.at_, m.seed, s.Script, s.At, s.State, s.Count) ⟨hi0, by dsimp only; omega, h.mono (by dsimp only; omega), hs.mono (by dsimp only; omega)⟩
  rintro ⟨j, c, c2, c3, d, d2, d3, d4⟩ ⟨j0, j1, hsr, hfw⟩
  dsimp only at j0 j1 hsr hfw
  simp only [s_l00Src_source_1_s]
  by_cases hj : j > 0
  · left
    rw [brd hj]
    obtain ⟨b, m1, e1, s1⟩ := chance_ok (n := 2) hsr (by omega)
    rw [e1, Option.bind_some]
    cases b
    · dsimp only
      rw [br_false, s_draw_eq hfw.1, Option.bind_some, wrap_i64 _ (by omega) (by omega)]
      exact ⟨_, rfl, ⟨by dsimp only; omega, by dsimp only; omega, s1.mono (by dsimp only; omega), (hfw.draw (by omega)).mono (by dsimp only; omega)⟩, by dsimp only; omega⟩
    · dsimp only
      obtain ⟨y, m2, e2, _, s2⟩ := pick_ok (l := [[], [116, 101, 120, 116]]) s1 (by omega) (by decide) (by decide)
      have hy : y.length ≤ 1000 := by
        have : y ∈ [[], [116, 101, 120, 116]] := by assumption
        simp only [List.mem_cons, List.mem_nil_iff, or_false] at this
        rcases this with rfl | rfl <;> simp
      rw [br_true, e2, Option.bind_some, s_absorb_eq (t := y) hfw.1.3 (by omega), Option.bind_some, wrap_i64 _ (by omega) (by omega)]
      exact ⟨_, rfl, ⟨by dsimp only; omega, by dsimp only; omega, s2.mono (by dsimp only; omega), (hfw.take y).mono (by dsimp only; omega)⟩, by dsimp only; omega⟩
  · right
    rw [brn hj]
    have : j = 0 := by omega
    subst this
    exact ⟨_, rfl, hsr.mono (by omega), hfw.mono (by omega)⟩
theorem s_loop2 {c4 c6 : Int} {c5 : List UInt8} {i B k : Int} {m : l00Src} {s : Source} (h : Src B m) (hs : Few s k) (hi0 : 0 ≤ i) (hi : i ≤ 4) (hk : k ≤ 100) (hB : B + 6 * i < Big) :
    ∃ e, Loop (s_l00Src_source_2_s c4 c5 c6) (i, m.code, m.at_, m.seed, s.Script, s.At, s.State, s.Count) = some e ∧ Src (B + 6 * i) ⟨e.2.2.1, e.2.2.2.1, e.2.2.2.2.1⟩ ∧ Few ⟨e.2.2.2.2.2.1, e.2.2.2.2.2.2.1, e.2.2.2.2.2.2.2.1, e.2.2.2.2.2.2.2.2⟩ (k + i) :=
  s_loop1 (c4 := c4) (c5 := c5) (c6 := c6) h hs hi0 hi hk hB
theorem SourceOf_ok {code : List UInt8} (h : code.length ≤ 1048576) : ∃ s, s_SourceOf code = some s ∧ Few s 4 := by
  unfold s_SourceOf s_l00Src_source
  obtain ⟨m, e1, s1⟩ := source_ok h
  rw [e1, Option.bind_some]
  obtain ⟨y, m2, e2, hy, s2⟩ := pick_ok (l := [[], [97], [108, 97, 98, 101, 108]]) s1 (by decide) (by decide) (by decide)
  have hyl : y.length ≤ 1000 := by
    simp only [List.mem_cons, List.mem_nil_iff, or_false] at hy
    rcases hy with rfl | rfl | rfl <;> simp
  rw [e2, Option.bind_some, s_new_eq (l := y) (by omega), Option.bind_some]
  obtain ⟨b, m3, e3, s3⟩ := chance_ok (n := 3) s2 (by decide)
  dsimp only
  rw [e3, Option.bind_some]
  cases b
  · dsimp only
    obtain ⟨x, m4, e4, x0, x1, _, s4⟩ := next_ok (n := 4) s3 (by decide)
    rw [br_false, e4, Option.bind_some]
    obtain ⟨e, e5, s5, f5⟩ := s_loop2 (c4 := 0) (c5 := []) (c6 := 0) (i := x) (k := 0) s4 (s := ⟨[], 0, H (tagS ++ y), 0⟩) ⟨new_ok (by simp) OkEs.nil, by simp, by simp⟩ x0 (by have := x1 (by decide); omega) (by decide) (by have := x1 (by decide); simp only [Big]; omega)
    dsimp only at e5 ⊢
    rw [e5, Option.bind_some, s_own_eq (by have := f5.1.1; dsimp only at this ⊢; omega), Option.bind_some, Option.bind_some]
    exact ⟨_, rfl, f5.mono (by have := x1 (by decide); omega)⟩
  · dsimp only
    obtain ⟨n, m4, e4, n0, n1, _, s4⟩ := next_ok (n := 5) s3 (by decide)
    have hn := n1 (by decide)
    rw [br_true, e4, Option.bind_some, wrap_i64 _ (by omega) (by omega)]
    obtain ⟨l, m5, e5, l0, l1, s5⟩ := exts_ok (n := 1 + n) s4 (by omega) (by omega) (by simp only [Big]; omega)
    dsimp only
    rw [e5, Option.bind_some]
    obtain ⟨x, m6, e6, x0, x1, _, s6⟩ := next_ok (n := 4) s5 (by simp only [Big]; omega)
    dsimp only
    rw [e6, Option.bind_some]
    obtain ⟨e, e7, s7, f7⟩ := s_loop1 (c4 := 0) (c5 := []) (c6 := 0) (i := x) (k := 0) s6 (s := ⟨l, 0, H (tagS ++ y), 0⟩) ⟨new_ok (by omega) l1, by simp, by simp⟩ x0 (by have := x1 (by decide); omega) (by decide) (by have := x1 (by decide); simp only [Big]; omega)
    dsimp only at e7 ⊢
    rw [e7, Option.bind_some, s_own_eq (by have := f7.1.1; dsimp only at this ⊢; omega), Option.bind_some, Option.bind_some]
    exact ⟨_, rfl, f7.mono (by have := x1 (by decide); omega)⟩
end Go.AI.Fn

set_option linter.unusedVariables false
set_option linter.unusedSimpArgs false
namespace Go.AI.Fn

theorem or_byte64 {n : Int} (x : UInt8) (h0 : 0 ≤ n) (h1 : n < 72057594037927936) : or64 .u64 (shl64 .u64 n 8) (IntKind.wrap .u64 (x.toNat : Int)) = n * 256 + x.toNat := by
  have hx := u8_lt x
  have e1 : shl64 .u64 n 8 = n * 256 := by
    have : n * 2 ^ (min (8 : Int).toNat (IntKind.bits .u64)) = n * 256 := by
      have : (2 : Int) ^ (min (8 : Int).toNat (IntKind.bits .u64)) = 256 := by decide
      rw [this]
    unfold shl64
    rw [this, wrap_u64 _ (by omega) (by omega)]
  rw [e1, wrap_u64 (x.toNat : Int) (by omega) (by omega)]
  unfold or64
  obtain ⟨m, rfl⟩ := Int.eq_ofNat_of_zero_le h0
  have e2 : (BitVec.ofInt (IntKind.bits .u64) ((m : Int) * 256) ||| BitVec.ofInt (IntKind.bits .u64) (x.toNat : Int)).toNat = m * 256 + x.toNat := by
    rw [BitVec.toNat_or, BitVec.toNat_ofInt, BitVec.toNat_ofInt]
    have b1 : (((m : Int) * 256) % ((2 ^ (IntKind.bits .u64) : Nat) : Int)).toNat = m <<< 8 := by
      rw [show ((2 ^ (IntKind.bits .u64) : Nat) : Int) = 18446744073709551616 by decide, Nat.shiftLeft_eq]; omega
    have b2 : ((x.toNat : Int) % ((2 ^ (IntKind.bits .u64) : Nat) : Int)).toNat = x.toNat := by
      rw [show ((2 ^ (IntKind.bits .u64) : Nat) : Int) = 18446744073709551616 by decide]; omega
    rw [b1, b2, ← Nat.shiftLeft_add_eq_or_of_lt (show x.toNat < 2 ^ 8 by omega), Nat.shiftLeft_eq]
  rw [e2, wrap_u64 _ (by omega) (by omega)]
  omega
theorem beN_bd : ∀ (l : List UInt8) (k : Nat), k ≤ 8 → k ≤ l.length → 0 ≤ beN (l.take k) ∧ beN (l.take k) < 256 ^ k
  | l, 0, _, _ => by simp [beN]
  | l, k + 1, h, hl => by
    have ⟨h0, h1⟩ := beN_bd l k (by omega) (by omega)
    have hb := u8_lt l[k]
    rw [take_succ (by omega), beN_snoc]
    have : (256 : Int) ^ (k + 1) = 256 ^ k * 256 := Int.pow_succ _ _
    rw [this]
    generalize (256 : Int) ^ k = p at *
    omega
theorem p256 : ∀ k : Nat, k < 8 → (256 : Int) ^ k ≤ 72057594037927936 := by decide
theorem i_modulo_eq {t : List UInt8} (h : t.length = 8) : i_modulo t = some (fldM t) := by
  unfold i_modulo
  have key : Loop (i_modulo_1_s t ((t.length : Nat) : Int)) (0, 0) = some (beN t, (t.length : Int), false) := by
    have key := Loop_for (step := i_modulo_1_s t ((t.length : Nat) : Int)) (fun k => (beN (t.take k), (k : Int))) t.length (e := (beN t, (t.length : Int), false)) (fun k hk => ?_) ?_
    · exact key
    · have ⟨h0, h1⟩ := beN_bd t k (by omega) (by omega)
      have h2 := p256 k (by omega)
      simp only [i_modulo_1_s]
      rw [brd (by omega), atL_nat hk, Option.bind_some, or_byte64 _ h0 (by omega), wrap_i64 _ (by omega) (by omega), take_succ hk, beN_snoc]; rfl
    · simp only [i_modulo_1_s]
      rw [brn (by omega), decide_eq_false (by omega), List.take_length]
  have ⟨h0, h1⟩ := beN_bd t 8 (by omega) (by omega)
  rw [List.take_of_length_le (by omega)] at h0 h1
  rw [key, Option.bind_some]
  dsimp only
  rw [tmod_nn _ _ h0, wrap_i64 _ (by omega) (by omega)]; rfl
theorem i_absorb_eq {s : Source} {t : List UInt8} (hs : s.State.length = 32) (ht : t.length ≤ 1000000) : i_Source_absorb t s = some (tkM s t) := by
  unfold i_Source_absorb
  have hf : [s.State, [97, 98, 115, 111, 114, 98], four ((t.length : Nat) : Int), t].flatten = s.State ++ (tagA ++ (four t.length ++ t)) := by simp [tagA]
  rw [br_fits (by omega), i_four_eq, Option.bind_some, i_keccak_eq (by rw [hf]; simp only [List.length_append, four_len, tagA, List.length_cons, List.length_nil]; omega) (by simp), Option.bind_some, hf]; rfl
theorem i_draw_eq {s : Source} (h : OkSrc s) : i_Source_draw s = some ((drawM s).2, (drawM s).1) := by
  have h1 := h.1
  have h3 := h.3
  have h4 := h.4
  have h5 := h.5
  have h6 := h.6
  have h7 := h.7
  unfold i_Source_draw drawM
  by_cases hl : s.Script.length = 0
  · have hf := four_len s.Count
    have hh := H_len (s.State ++ (tagD ++ four s.Count))
    have e : [s.State, [100, 114, 97, 119], four s.Count].flatten = s.State ++ (tagD ++ four s.Count) := by simp [tagD]
    rw [brn (by omega), if_pos hl, br_fits (by omega), i_four_eq, Option.bind_some, i_keccak_eq (by rw [e]; simp only [List.length_append, four_len, tagD, List.length_cons, List.length_nil]; omega) (by simp), Option.bind_some, e, br_fits (by omega),
      subL_of (by omega) (by omega) (by omega), Option.bind_some, i_modulo_eq (by simp; omega), Option.bind_some, subL_of (by omega) (by omega) (by omega), Option.bind_some, i_modulo_eq (by simp; omega), Option.bind_some, wrap_i64 _ (by omega) (by omega)]
    rfl
  · have hr := Int.emod_nonneg s.At (b := (s.Script.length : Int)) (by omega)
    have hr2 := Int.emod_lt_of_pos s.At (b := (s.Script.length : Int)) (by omega)
    rw [brd (by omega), if_neg hl, brd (by omega), wrap_i64 (s.At + 1) (by omega) (by omega), wrap_i64 (s.At + 1 - 1) (by omega) (by omega), show s.At + 1 - 1 = s.At by omega, tmod_nn _ _ h4]
    have e : atL s.Script (s.At % (s.Script.length : Int)) = some (s.Script.getD (s.At % (s.Script.length : Int)).toNat e0) := by
      have := atL_e (l := s.Script) (k := (s.At % (s.Script.length : Int)).toNat) (by omega)
      rwa [Int.toNat_of_nonneg hr] at this
    rw [e]; rfl
/-- Draws, one after the other. -/
def drS (s : Source) : Nat → Source
  | 0 => s
  | j + 1 => (drawM (drS s j)).1
def drL (s : Source) (n : Nat) : List Ext := (List.range n).map fun j => (drawM (drS s j)).2
theorem drL_len (s : Source) (n : Nat) : (drL s n).length = n := by simp [drL]
theorem drS_few {s : Source} {k : Int} (h : Few s k) (hk : k ≤ 1000) : ∀ j : Nat, j ≤ 1000 → Few (drS s j) (k + j)
  | 0, _ => h.mono (by omega)
  | j + 1, hj => ((drS_few h hk j (by omega)).draw (by omega)).mono (by omega)
theorem drL_ok {s : Source} {k : Int} (h : Few s k) (hk : k ≤ 1000) {n : Nat} (hn : n ≤ 1000) : OkEs (drL s n) := fun x hx => by
  obtain ⟨j, hj, rfl⟩ := List.mem_map.1 hx
  have hj := List.mem_range.1 hj
  exact drawM_ok (drS_few h hk j (by omega)).1
theorem drL_succ (s : Source) (n : Nat) : drL s (n + 1) = drL s n ++ [(drawM (drS s n)).2] := by simp [drL, List.range_succ]
theorem i_draws_eq {s : Source} {k : Int} (h : Few s k) (hk : k ≤ 1000) {n : Nat} (hn : n ≤ 1000) : i_Source_draws (n : Int) s = some (drL s n, drS s n) := by
  unfold i_Source_draws
  have key := Loop_for (step := i_Source_draws_1_s (n : Int)) (fun j => (drL s j, (j : Int), (drS s j).Script, (drS s j).At, (drS s j).State, (drS s j).Count)) n (e := (drL s n, (n : Int), false, (drS s n).Script, (drS s n).At, (drS s n).State, (drS s n).Count)) (fun j hj => ?_) ?_
  · have key' : Loop (i_Source_draws_1_s (n : Int)) ([], 0, s.Script, s.At, s.State, s.Count) = _ := key
    rw [key']; rfl
  · simp only [i_Source_draws_1_s]
    rw [brd (by omega), i_draw_eq (drS_few h hk j (by omega)).1, Option.bind_some, br_fits (by simp only [List.length_append, drL_len, List.length_singleton]; omega), wrap_i64 _ (by omega) (by omega), ← drL_succ]; rfl
  · simp only [i_Source_draws_1_s]
    rw [brn (by omega), decide_eq_false (by omega)]
theorem s_some_eq {s : Source} {k : Int} (h : Few s k) (hk : k ≤ 1000) {n : Nat} (hn : n ≤ 1000) : s_l05Some s (n : Int) = some (drS s n, drL s n) := by
  unfold s_l05Some
  have key := Loop_for (step := s_l05Some_1_s (n : Int) 0 [] 0) (fun j => (drL s j, (j : Int), (drS s j).Script, (drS s j).At, (drS s j).State, (drS s j).Count)) n (e := (drL s n, (n : Int), false, (drS s n).Script, (drS s n).At, (drS s n).State, (drS s n).Count)) (fun j hj => ?_) ?_
  · have key' : Loop (s_l05Some_1_s (n : Int) 0 [] 0) ([], 0, s.Script, s.At, s.State, s.Count) = _ := key
    rw [key']; rfl
  · simp only [s_l05Some_1_s]
    rw [brd (by omega), s_draw_eq (drS_few h hk j (by omega)).1, Option.bind_some, br_fits (by simp only [List.length_append, drL_len, List.length_singleton]; omega), wrap_i64 _ (by omega) (by omega), ← drL_succ]; rfl
  · simp only [s_l05Some_1_s]
    rw [brn (by omega), decide_eq_false (by omega)]
theorem i_copied_eq {s : Source} (h : s.Script.length ≤ 1000000) : i_Source_copied s = some s := by
  unfold i_Source_copied slices_Clone_Li_Ext_i_Ext
  rw [br_fits (by omega)]; rfl
theorem i_SourceOK_t {s : Source} (h : OkSrc s) : i_SourceOK s = some true := by
  have := h.1
  rw [i_SourceOK_eq (by omega), srcB_iff.2 h]
theorem s_SourceOK_t {s : Source} (h : OkSrc s) : s_SourceOK s = some true := by
  have := h.1
  rw [s_SourceOK_eq (by omega), srcB_iff.2 h]
variable {s : Source} {k : Int}
theorem i_AbsorbText_eq {t : List UInt8} (h : OkSrc s) (ht : t.length ≤ 1000) : i_AbsorbText s t = some (tkM s t, 0) := by
  have h1 := h.1
  unfold i_AbsorbText i_isLong
  rw [Option.bind_some, brn (by omega), i_SourceOK_t h, Option.bind_some, Bool.not_true, br_false, i_copied_eq (by omega), Option.bind_some, br_fits (by omega), i_absorb_eq h.3 (by omega)]; rfl
theorem s_AbsorbText_eq {t : List UInt8} (h : OkSrc s) (ht : t.length ≤ 1000) : s_AbsorbText s t = some (tkM s t, 0) := by
  have h1 := h.1
  unfold s_AbsorbText
  rw [brn (by omega), s_SourceOK_t h, Option.bind_some, Bool.not_true, br_false, s_absorb_eq h.3 (by omega), Option.bind_some, s_own_eq (by show s.Script.length ≤ _; omega)]; rfl
theorem mx_le {a b c : Int} (h : a ≤ c) (g : b ≤ c) : mx a b ≤ c := by unfold mx; split <;> assumption
theorem i_TakeSome_eq (h : Few s k) (hk : k ≤ 1000) {n : Nat} (hn : n ≤ 100) : i_TakeSome s (n : Int) = some (drS s n, drL s n, 0) := by
  have h1 := h.1.1
  have hmx := mx_le h.2 h.3
  have h0 : 0 ≤ mx s.At s.Count := by have := h.1.4; have := h.1.6; unfold mx; split <;> assumption
  unfold i_TakeSome i_Source_left
  rw [i_SourceOK_t h.1, Option.bind_some, Bool.not_true, br_false, i_in_eq, Option.bind_some, decide_eq_true (by omega), decide_eq_true (by omega), Bool.and_self, Bool.not_true, br_false, Option.bind_some, wrap_i64 _ (by omega) (by omega), brn (by omega), i_copied_eq (by omega), Option.bind_some, i_draws_eq h hk (by omega)]; rfl
theorem drS_scr (s : Source) : ∀ n, (drS s n).Script = s.Script
  | 0 => rfl
  | n + 1 => by
    rw [drS, drawM]
    split
    · exact drS_scr s n
    · exact drS_scr s n
theorem spent_no (h : Few s k) (hk : k ≤ 1000) {n : Nat} (hn : n ≤ 100) : s_l05Spent s (n : Int) = some false := by
  have h2 := h.2
  have h3 := h.3
  unfold s_l05Spent
  rw [wrap_i64 _ (by omega) (by omega), brn (by omega), decide_eq_false (by omega)]
theorem s_TakeSome_eq (h : Few s k) (hk : k ≤ 1000) {n : Nat} (hn : n ≤ 100) : s_TakeSome s (n : Int) = some (drS s n, drL s n, 0) := by
  have h1 := h.1.1
  unfold s_TakeSome
  rw [s_SourceOK_t h.1, Option.bind_some, Bool.not_true, br_false, s_in_eq, Option.bind_some, decide_eq_true (by omega), decide_eq_true (by omega), Bool.and_self, Bool.not_true, br_false, spent_no h hk hn, Option.bind_some, br_false, s_some_eq h hk (by omega), Option.bind_some, s_own_eq (by rw [drS_scr]; omega)]; rfl
theorem i_TakeOne_eq (h : Few s k) (hk : k ≤ 1000) : i_TakeOne s = some ((drawM s).1, (drawM s).2, 0) := by
  unfold i_TakeOne
  have e := i_TakeSome_eq h hk (n := 1) (by omega)
  rw [show ((1 : Nat) : Int) = 1 from rfl] at e
  rw [e, Option.bind_some]
  dsimp only
  rw [brbe rfl]; rfl
theorem i_AbsorbExts_eq (h : OkSrc s) {l : List Ext} (hl : l.length ≤ 100) (ok : OkEs l) : i_AbsorbExts s l = some (tkM s (l.flatMap e8), 0) := by
  have h1 := h.1
  have hf : (l.flatMap e8).length ≤ 1000 := by
    have : (l.flatMap e8).length = 8 * l.length := by
      clear hl ok
      induction l with
      | nil => rfl
      | cons x l ih => simp only [List.flatMap_cons, List.length_append, ih, e8_len, List.length_cons]; omega
    omega
  unfold i_AbsorbExts i_Source_absorbExts
  rw [brn (by omega), i_SourceOK_t h, Option.bind_some, Bool.not_true, br_false, i_areE_eq (by omega), Option.bind_some, allE.2 ok, Bool.not_true, br_false, i_copied_eq (by omega), Option.bind_some, i_extBytes_eq (by omega), Option.bind_some, i_absorb_eq h.3 (by omega)]; rfl
theorem s_AbsorbExts_eq (h : OkSrc s) {l : List Ext} (hl : l.length ≤ 100) (ok : OkEs l) : s_AbsorbExts s l = some (tkM s (l.flatMap e8), 0) := by
  have h1 := h.1
  have hf : (l.flatMap e8).length ≤ 1000 := by
    have : (l.flatMap e8).length = 8 * l.length := by
      clear hl ok
      induction l with
      | nil => rfl
      | cons x l ih => simp only [List.flatMap_cons, List.length_append, ih, e8_len, List.length_cons]; omega
    omega
  unfold s_AbsorbExts s_l05Exts
  rw [brn (by omega), s_SourceOK_t h, Option.bind_some, Bool.not_true, br_false, s_listE_eq (by omega), Option.bind_some, allE.2 ok, Bool.not_true, br_false, s_bytes_eq (by omega), Option.bind_some, s_absorb_eq h.3 (by omega), Option.bind_some, Option.bind_some, s_own_eq (by show s.Script.length ≤ _; omega)]; rfl
/-- Places. -/
def plM (l : List Ext) (m : Int) : List Int := l.map fun x => x.A % m
theorem i_places_eq {l : List Ext} {m : Int} (hl : l.length ≤ 1000) (ok : OkEs l) (hm : 0 < m) : i_places l m = some (plM l m) := by
  unfold i_places
  have key : Loop (i_places_1_s m l ((l.length : Nat) : Int)) ([], 0) = some (plM l m, (l.length : Int), false) :=
    Loop_for (step := i_places_1_s m l ((l.length : Nat) : Int)) (fun j => (plM (l.take j) m, (j : Int))) l.length (fun j hj => by
      simp only [i_places_1_s]
      rw [brd (by omega), atL_nat hj, Option.bind_some, brd (by omega), br_fits (by simp only [List.length_append, plM, List.length_map, List.length_take, List.length_singleton]; omega), wrap_i64 _ (by omega) (by omega), tmod_nn _ _ (ok.get hj).1.1, take_succ hj]
      simp only [plM, List.map_append, List.map_cons, List.map_nil, cast_succ]) (by
      simp only [i_places_1_s]
      rw [brn (by omega), decide_eq_false (by omega), List.take_length])
  rw [key]; rfl
theorem i_TakePlaces_eq (h : Few s k) (hk : k ≤ 1000) {n : Nat} (hn : n ≤ 100) {m : Int} (h1 : 1 ≤ m) (h2 : m ≤ 65536) : i_TakePlaces s (n : Int) m = some (drS s n, plM (drL s n) m, 0) := by
  unfold i_TakePlaces
  rw [i_SourceOK_t h.1, Option.bind_some, Bool.not_true, br_false, i_in_eq, Option.bind_some, decide_eq_true (by omega), decide_eq_true (by omega), Bool.and_self, Bool.not_true, br_false, i_in_eq, Option.bind_some, decide_eq_true h1, decide_eq_true h2, Bool.and_self, Bool.not_true, br_false, i_TakeSome_eq h hk hn, Option.bind_some]
  dsimp only
  rw [brbe rfl, i_places_eq (by rw [drL_len]; omega) (drL_ok h hk (by omega)) (by omega)]; rfl
theorem s_places_eq {l : List Ext} {m : Int} {c c8 : List Ext} {c2 c4 c5 c7 c9 c11 : Int} {c3 c6 c10 : List UInt8} (hl : l.length ≤ 1000) (ok : OkEs l) (hm : 0 < m) : Loop (s_l05Places_1_s (l.length : Int) m l c c2 c3 c4 c5 c6 c7 c8 c9 c10 c11) ([], 0) = some (plM l m, (l.length : Int), false) :=
  Loop_for (step := s_l05Places_1_s (l.length : Int) m l c c2 c3 c4 c5 c6 c7 c8 c9 c10 c11) (fun j => (plM (l.take j) m, (j : Int))) l.length (fun j hj => by
    simp only [s_l05Places_1_s]
    rw [brd (by omega), atL_nat hj, Option.bind_some, brd (by omega), br_fits (by simp only [List.length_append, plM, List.length_map, List.length_take, List.length_singleton]; omega), wrap_i64 _ (by omega) (by omega), tmod_nn _ _ (ok.get hj).1.1, take_succ hj]
    simp only [plM, List.map_append, List.map_cons, List.map_nil, cast_succ]) (by
    simp only [s_l05Places_1_s]
    rw [brn (by omega), decide_eq_false (by omega), List.take_length])
theorem s_TakePlaces_eq (h : Few s k) (hk : k ≤ 1000) {n : Nat} (hn : n ≤ 100) {m : Int} (h1 : 1 ≤ m) (h2 : m ≤ 65536) : s_TakePlaces s (n : Int) m = some (drS s n, plM (drL s n) m, 0) := by
  have hs := h.1.1
  unfold s_TakePlaces s_l05Places
  rw [s_SourceOK_t h.1, Option.bind_some, Bool.not_true, br_false, s_in_eq, Option.bind_some, decide_eq_true (by omega), decide_eq_true (by omega), Bool.and_self, Bool.not_true, br_false, s_in_eq, Option.bind_some, decide_eq_true h1, decide_eq_true h2, Bool.and_self, Bool.not_true, br_false, spent_no h hk hn, Option.bind_some, br_false, s_some_eq h hk (by omega), Option.bind_some]
  dsimp only
  have := s_places_eq (l := drL s n) (m := m) (c := s.Script) (c2 := s.At) (c3 := s.State) (c4 := s.Count) (c5 := 0) (c6 := []) (c7 := 0) (c8 := (drS s n).Script) (c9 := (drS s n).At) (c10 := (drS s n).State) (c11 := (drS s n).Count) (by rw [drL_len]; omega) (drL_ok h hk (by omega)) (by omega)
  rw [drL_len] at this
  rw [this, Option.bind_some, Option.bind_some]
  dsimp only
  rw [s_own_eq (by rw [drS_scr]; omega)]; rfl
end Go.AI.Fn

set_option linter.unusedVariables false
set_option linter.unusedSimpArgs false
namespace Go.AI.Fn

abbrev Tx := List UInt8
def leafT (t : Tx) : Tx := 0 :: t
def nodeT (a b : Tx) : Tx := 1 :: (a ++ b)
def hL (t : Tx) : Tx := H (leafT t)
def hN (a b : Tx) : Tx := H (nodeT a b)
theorem atL_t {l : List Tx} {k : Nat} (h : k < l.length) : atL l (k : Int) = some (l.getD k []) := by simp [atL, h]
/-- Hashes of pairs. -/
def upL (row : List Tx) : List Tx := (List.range (row.length / 2)).map fun k => hN (row.getD (2 * k) []) (row.getD (2 * k + 1) [])
theorem upL_len (row : List Tx) : (upL row).length = row.length / 2 := by simp [upL]
def Hs (l : List Tx) : Prop := ∀ x ∈ l, x.length = 32
theorem upL_h (row : List Tx) : Hs (upL row) := fun x hx => by
  obtain ⟨k, _, rfl⟩ := List.mem_map.1 hx; exact H_len _
theorem Hs.getD {l : List Tx} (h : Hs l) {k : Nat} (hk : k < l.length) : (l.getD k []).length = 32 := by simp [hk]; exact h _ (List.getElem_mem hk)
theorem range_map_succ {α : Type} (f : Nat → α) (k : Nat) : (List.range (k + 1)).map f = (List.range k).map f ++ [f k] := by rw [List.range_succ, List.map_append]; rfl
/-- The j-th row above a row. -/
def rowAt (row : List Tx) (j : Nat) : List Tx := iU (fun _ r => upL r) j row
theorem rowAt_succ (row : List Tx) (j : Nat) : rowAt row (j + 1) = upL (rowAt row j) := rfl
theorem rowAt_len {row : List Tx} {k : Nat} (h : row.length = 2 ^ k) : ∀ j, j ≤ k → (rowAt row j).length = 2 ^ (k - j)
  | 0, _ => by simpa [rowAt, iU] using h
  | j + 1, hj => by
    rw [rowAt_succ, upL_len, rowAt_len h j (by omega), show k - j = (k - (j + 1)) + 1 by omega, Nat.pow_succ]; omega
theorem rowAt_h {row : List Tx} (h : Hs row) : ∀ j, Hs (rowAt row j)
  | 0 => h
  | j + 1 => upL_h _
/-- All rows of a tree over 2 to the k hashes. -/
def rowsM (row : List Tx) (k : Nat) : List (List Tx) := (List.range (k + 1)).map (rowAt row)
theorem p2_8 : ∀ k : Nat, k ≤ 9 → 1 ≤ 2 ^ k ∧ 2 ^ k ≤ 512 := by decide
theorem pow_pos_le {k j : Nat} (hj : j < k) : 2 ^ (k - j) = 2 * 2 ^ (k - (j + 1)) := by
  rw [show k - j = (k - (j + 1)) + 1 by omega, Nat.pow_succ]; omega
def Short (l : List Tx) : Prop := ∀ x ∈ l, x.length ≤ 1000
theorem leaves_h (l : List Tx) : Hs (l.map hL) := fun x hx => by obtain ⟨y, _, rfl⟩ := List.mem_map.1 hx; exact H_len _
/-- The root of a tree. -/
def rootM' (row : List Tx) (k : Nat) : Tx := (rowAt row k).getD 0 []
theorem rowsM_len (row : List Tx) (k : Nat) : (rowsM row k).length = k + 1 := by simp [rowsM]
theorem rowsM_get {row : List Tx} {k j : Nat} (h : j ≤ k) : atL (rowsM row k) (j : Int) = some (rowAt row j) := by
  rw [atL_nat (by rw [rowsM_len]; omega)]; simp [rowsM]
/-- The other one of a pair. -/
def sib (i : Nat) : Nat := if i % 2 = 0 then i + 1 else i - 1
theorem sib_eq : ∀ i : Nat, i < 512 → xor64 .i64 (i : Int) 1 = (sib i : Int) := by decide +kernel
/-- The hashes beside the way up. -/
def pathM (row : List Tx) (k i : Nat) : List Tx := (List.range k).map fun j => (rowAt row j).getD (sib (i / 2 ^ j)) []
theorem pathM_len (row : List Tx) (k i : Nat) : (pathM row k i).length = k := by simp [pathM]
theorem place_lt {i k j : Nat} (hi : i < 2 ^ k) (hj : j < k) : i / 2 ^ j < 2 ^ (k - j) := by
  rw [Nat.div_lt_iff_lt_mul (Nat.pow_pos (by decide)), ← Nat.pow_add]
  rwa [show k - j + j = k by omega]
theorem sib_lt {i m : Nat} (h : i < 2 * m) : sib i < 2 * m := by unfold sib; split <;> omega
theorem half_pow (i j : Nat) : i / 2 ^ j / 2 = i / 2 ^ (j + 1) := by rw [Nat.div_div_eq_div_mul, Nat.pow_succ]
theorem path_step {row : List Tx} {k i j : Nat} (hl : row.length = 2 ^ k) (hk : k ≤ 9) (hi : i < 2 ^ k) (hj : j < k) : atL (rowAt row j) (xor64 .i64 ((i / 2 ^ j : Nat) : Int) 1) = some ((rowAt row j).getD (sib (i / 2 ^ j)) []) := by
  have h1 := rowAt_len hl j (by omega)
  have h2 := place_lt hi hj
  have h3 := p2_8 (k - j) (by omega)
  have h4 := pow_pos_le hj
  rw [sib_eq _ (by omega), atL_t (by rw [h1, h4]; exact sib_lt (by omega))]
theorem wrap_half (q : Nat) (h : q ≤ 1000000) : IntKind.wrap .i64 (((q : Nat) : Int) / 2) = ((q / 2 : Nat) : Int) := by
  rw [wrap_i64 _ (by omega) (by omega)]; omega
end Go.AI.Fn

set_option linter.unusedVariables false
set_option linter.unusedSimpArgs false
namespace Go.AI.Fn

/-- The text hashed at height j on the way up. -/
def wayT (i : Nat) (leaf : Tx) (path : List Tx) : Nat → Tx
  | 0 => leafT leaf
  | j + 1 => if i / 2 ^ j % 2 = 1 then nodeT (path.getD j []) (H (wayT i leaf path j)) else nodeT (H (wayT i leaf path j)) (path.getD j [])
def wayM (i : Nat) (leaf : Tx) (path : List Tx) (j : Nat) : List Tx := (List.range (j + 1)).map (wayT i leaf path)
theorem wayM_len (i : Nat) (leaf : Tx) (path : List Tx) (j : Nat) : (wayM i leaf path j).length = j + 1 := by simp [wayM]
theorem wayM_get {i : Nat} {leaf : Tx} {path : List Tx} {j m : Nat} (h : m ≤ j) : atL (wayM i leaf path j) (m : Int) = some (wayT i leaf path m) := by
  rw [atL_nat (by rw [wayM_len]; omega)]; simp [wayM]
theorem bit_eq : ∀ i : Nat, i < 8 → ∀ j : Nat, j < 3 → (and64 .i64 (shr64 .i64 (i : Int) (j : Int)) 1 == 1) = decide (i / 2 ^ j % 2 = 1) := by decide +kernel
theorem p2_3 : ∀ k : Nat, k ≤ 3 → 1 ≤ 2 ^ k ∧ 2 ^ k ≤ 8 := by decide
theorem br_ite' {α : Type} {p : Prop} [Decidable p] {x y : α} : br (decide p) x y = if p then x else y := by by_cases h : p <;> simp [h, br_of, br_no]
theorem half_pow' (i j : Nat) : IntKind.wrap .i64 (((i / 2 ^ j : Nat) : Int).tdiv 2) = ((i / 2 ^ (j + 1) : Nat) : Int) ∨ 1000000 < i := by
  by_cases h : i ≤ 1000000
  · left
    rw [tdiv_nn _ _ (Int.natCast_nonneg _), wrap_half _ (Nat.le_trans (Nat.div_le_self _ _) h), half_pow]
  · right; omega
theorem not_any_h {l : List Tx} (h : Hs l) : (l.any fun x => !decide (x.length = 32)) = false := by
  rw [List.any_eq_false]; intro x hx; simp [h x hx]
theorem shl_one : ∀ k : Nat, k ≤ 3 → shl64 .i64 1 (k : Int) = ((2 ^ k : Nat) : Int) := by decide +kernel
/-- The way up from a leaf of the tree meets the tree's rows. -/
theorem way_row {l : List Tx} {k i : Nat} (hl : l.length = 2 ^ k) (hi : i < 2 ^ k) : ∀ j, j ≤ k → H (wayT i (l.getD i []) (pathM (l.map hL) k i) j) = (rowAt (l.map hL) j).getD (i / 2 ^ j) []
  | 0, _ => by
    have h : i < l.length := by omega
    simp [wayT, rowAt, iU, h, hL]
  | j + 1, hj => by
    have ih := way_row hl hi j (by omega)
    have hr : (l.map hL).length = 2 ^ k := by rw [List.length_map, hl]
    have h1 := rowAt_len hr j (by omega)
    have h2 := place_lt hi (show j < k by omega)
    have h3 := pow_pos_le (show j < k by omega)
    have hp : (pathM (l.map hL) k i).getD j [] = (rowAt (l.map hL) j).getD (sib (i / 2 ^ j)) [] := by
      have : j < k := by omega
      simp [pathM, this]
    have h5 : i / 2 ^ (j + 1) = i / 2 ^ j / 2 := (half_pow i j).symm
    rw [wayT, ih, hp, rowAt_succ, h5]
    generalize i / 2 ^ j = q at h2
    have hu : (upL (rowAt (l.map hL) j)).getD (q / 2) [] = hN ((rowAt (l.map hL) j).getD (2 * (q / 2)) []) ((rowAt (l.map hL) j).getD (2 * (q / 2) + 1) []) := by
      have : q / 2 < (rowAt (l.map hL) j).length / 2 := by omega
      simp [upL, this]
    rw [hu]
    unfold hN sib
    by_cases c : q % 2 = 1
    · rw [if_pos c, if_neg (by omega), show 2 * (q / 2) = q - 1 by omega, show q - 1 + 1 = q by omega]
    · rw [if_neg c, if_pos (by omega), show 2 * (q / 2) = q by omega]
theorem way_root {l : List Tx} {k i : Nat} (hl : l.length = 2 ^ k) (hi : i < 2 ^ k) : H (wayT i (l.getD i []) (pathM (l.map hL) k i) k) = rootM' (l.map hL) k := by
  rw [way_row hl hi k (Nat.le_refl _), Nat.div_eq_of_lt hi]; rfl
theorem path_h {l : List Tx} {k i : Nat} (hl : l.length = 2 ^ k) (hi : i < 2 ^ k) : Hs (pathM (l.map hL) k i) := fun x hx => by
  obtain ⟨j, hj, rfl⟩ := List.mem_map.1 hx
  have hj := List.mem_range.1 hj
  have hr : (l.map hL).length = 2 ^ k := by rw [List.length_map, hl]
  have h1 := rowAt_len hr j (by omega)
  have h3 := pow_pos_le hj
  have h2 := place_lt hi hj
  exact (rowAt_h (leaves_h l) j).getD (by rw [h1, h3]; exact sib_lt (by omega))
end Go.AI.Fn

set_option linter.unusedVariables false
set_option linter.unusedSimpArgs false
namespace Go.AI.Fn

theorem at_ok1 {a : List UInt8} {n : Int} (hl : a.length ≤ 1048576) (hn : 1 ≤ n) : ∃ x, w_at a 0 n = some x ∧ 0 ≤ x ∧ x < n := by
  by_cases c : n = 1
  · subst c; exact ⟨0, by unfold w_at; rw [brd (by omega)], by omega, by omega⟩
  · exact at_ok hl (by omega) (by omega) (by omega)
theorem bytes_ok {B n : Int} {m : l00Src} (h : Src B m) (hn0 : 0 ≤ n) (hn1 : n ≤ 1000) (hB : B + 3 * n + 3 < Big) : ∃ l m', s_l00Src_bytes n m = some (l, m') ∧ (l.length : Int) ≤ n ∧ Src (B + 3 * n + 3) m' := by
  unfold s_l00Src_bytes
  obtain ⟨x, m1, e1, x0, x1, x2, s1⟩ := next_ok (n := n + 1) h (by omega)
  have hx : x ≤ n := by
    by_cases c : 1 < n + 1
    · have := x1 c; omega
    · have := x2 (by omega); omega
  rw [wrap_i64 _ (by omega) (by omega), e1, Option.bind_some]
  dsimp only
  have key := Loop_inv (step := s_l00Src_bytes_1_s) (fun y => 0 ≤ y.2.1 ∧ y.2.1 ≤ x ∧ (y.1.length : Int) + y.2.1 = x ∧ Src (B + 3 + 3 * (x - y.2.1)) ⟨y.2.2.1, y.2.2.2.1, y.2.2.2.2⟩) (fun y => y.2.1.toNat)
    (fun e => (e.1.length : Int) ≤ n ∧ Src (B + 3 * n + 3) ⟨e.2.2.2.1, e.2.2.2.2.1, e.2.2.2.2.2⟩) ?_ ([], x, m1.code, m1.at_, m1.seed) ⟨x0, by dsimp only; omega, by dsimp only [List.length_nil]; omega, s1.mono (by dsimp only; omega)⟩
  · obtain ⟨e, he, h1, h2⟩ := key
    exact ⟨_, _, by rw [he, Option.bind_some], h1, h2⟩
  · rintro ⟨l, i, c, c2, c3⟩ ⟨i0, i1, hl, hs⟩
    dsimp only at i0 i1 hl hs
    simp only [s_l00Src_bytes_1_s]
    by_cases hi : i > 0
    · left
      rw [brd hi]
      obtain ⟨b, m2, e2, b0, b1, _, s2⟩ := next_ok (n := 256) hs (by omega)
      rw [e2, Option.bind_some]
      dsimp only
      rw [br_fits (by simp only [List.length_append, List.length_singleton]; omega), wrap_i64 _ (by omega) (by omega)]
      exact ⟨_, rfl, ⟨by dsimp only; omega, by dsimp only; omega, by simp only [List.length_append, List.length_singleton]; omega, s2.mono (by dsimp only; omega)⟩, by dsimp only; omega⟩
    · right
      rw [brn hi]
      exact ⟨_, rfl, by dsimp only; omega, hs.mono (by omega)⟩
theorem BytesOf_ok {code : List UInt8} {n : Int} (h : code.length ≤ 1048576) (hn0 : 0 ≤ n) (hn1 : n ≤ 1000) : ∃ l, s_BytesOf code n = some l ∧ (l.length : Int) ≤ n := by
  unfold s_BytesOf
  obtain ⟨m, e1, s1⟩ := source_ok h
  obtain ⟨l, m2, e2, hl, _⟩ := bytes_ok s1 hn0 hn1 (by unfold Big; omega)
  exact ⟨l, by rw [e1, Option.bind_some, e2]; rfl, hl⟩
def Leaf64 (l : List Tx) : Prop := ∀ x ∈ l, x.length ≤ 60
theorem Leaf64.short {l : List Tx} (h : Leaf64 l) : Short l := fun x hx => Nat.le_trans (h x hx) (by omega)
theorem Leaf64.getD {l : List Tx} (h : Leaf64 l) (i : Nat) : (l.getD i []).length ≤ 60 := by
  by_cases c : i < l.length
  · simp [c]; exact h _ (List.getElem_mem c)
  · simp [c]
/-- The tree's root and a leaf's path. -/
def rtM (l : List Tx) (k : Nat) : Tx := rootM' (l.map hL) k
def ptM (l : List Tx) (k i : Nat) : List Tx := pathM (l.map hL) k i
variable {l : List Tx} {k : Nat}
theorem rt_len (hl : l.length = 2 ^ k) : (rtM l k).length = 32 := by
  have h1 := rowAt_len (row := l.map hL) (k := k) (by rw [List.length_map, hl]) k (Nat.le_refl _)
  rw [Nat.sub_self, Nat.pow_zero] at h1
  exact (rowAt_h (leaves_h l) k).getD (by omega)
theorem pt_len (l : List Tx) (k i : Nat) : (ptM l k i).length = k := pathM_len _ _ _
end Go.AI.Fn

set_option linter.unusedVariables false
set_option linter.unusedSimpArgs false
namespace Go.AI.Fn

theorem src_loop1 {t : List UInt8} {s : Source} {k : Int} (h : Few s k) (hk : k ≤ 500) {n : Nat} (hn : n ≤ 100) {c c5 c9 c13 c17 : List Ext} {c2 c6 c10 c14 c18 c4 c8 c12 c16 c20 : Int} {c3 c7 c11 c15 c19 : List UInt8} :
    Loop (w_FnSource_1_s t (n : Int) (drL s n) c c2 c3 c4 c5 c6 c7 c8 c9 c10 c11 c12 c13 c14 c15 c16 c17 c18 c19 c20) (0, s.Script, s.At, s.State, s.Count) = some (.inr ((n : Int), false, (drS s n).Script, (drS s n).At, (drS s n).State, (drS s n).Count)) := by
  have key := Loop_for (step := w_FnSource_1_s t (n : Int) (drL s n) c c2 c3 c4 c5 c6 c7 c8 c9 c10 c11 c12 c13 c14 c15 c16 c17 c18 c19 c20) (fun j => ((j : Int), (drS s j).Script, (drS s j).At, (drS s j).State, (drS s j).Count)) n (e := .inr ((n : Int), false, (drS s n).Script, (drS s n).At, (drS s n).State, (drS s n).Count)) (fun j hj => ?_) ?_
  · exact key
  · simp only [w_FnSource_1_s]
    have hr : Source.mk (drS s j).Script (drS s j).At (drS s j).State (drS s j).Count = drS s j := rfl
    have he : (drL s n)[j]'(by rw [drL_len]; exact hj) = (drawM (drS s j)).2 := by simp [drL]
    rw [brd (by omega), hr, i_TakeOne_eq (drS_few h (by omega) j (by omega)) (by omega), Option.bind_some]
    dsimp only
    rw [brbe rfl, atL_nat (by rw [drL_len]; exact hj), Option.bind_some, he, bre rfl, bre rfl, wrap_i64 _ (by omega) (by omega)]; rfl
  · simp only [w_FnSource_1_s]
    rw [brn (by omega), decide_eq_false (by omega)]
theorem src_loop2 {t5 : List UInt8} {t6 t8 : Int} {t9 : List Int} {L : List Ext} {x : Int} (hw : w_at t5 1 90 = some x) (h0 : 0 ≤ x) (h1 : x < 90) (hl : L.length ≤ 1000) {c25 c29 c33 c37 c41 c45 c49 c53 c57 c61 : List Ext} {c26 c30 c34 c38 c42 c46 c50 c54 c58 c62 c28 c32 c36 c40 c44 c48 c52 c56 c60 c64 : Int} {c27 c31 c35 c39 c43 c47 c51 c55 c59 c63 : List UInt8} :
    Loop (w_FnSource_2_s t5 t6 (plM L (1 + x)) t8 t9 c25 c26 c27 c28 c29 c30 c31 c32 c33 c34 c35 c36 c37 c38 c39 c40 c41 c42 c43 c44 c45 c46 c47 c48 c49 c50 c51 c52 c53 c54 c55 c56 c57 c58 c59 c60 c61 c62 c63 c64) 0 = some (.inr (((plM L (1 + x)).length : Int), false)) := by
  have hp : (plM L (1 + x)).length = L.length := by simp [plM]
  refine Loop_for (step := w_FnSource_2_s t5 t6 (plM L (1 + x)) t8 t9 c25 c26 c27 c28 c29 c30 c31 c32 c33 c34 c35 c36 c37 c38 c39 c40 c41 c42 c43 c44 c45 c46 c47 c48 c49 c50 c51 c52 c53 c54 c55 c56 c57 c58 c59 c60 c61 c62 c63 c64) (fun j => (j : Int)) (plM L (1 + x)).length (fun j hj => ?_) ?_
  · simp only [w_FnSource_2_s]
    have he : (plM L (1 + x))[j] = (L[j]'(by omega)).A % (1 + x) := by simp [plM]
    have e1 := Int.emod_nonneg (L[j]'(by omega)).A (b := 1 + x) (by omega)
    have e2 := Int.emod_lt_of_pos (L[j]'(by omega)).A (b := 1 + x) (by omega)
    rw [brd (by omega), atL_nat hj, Option.bind_some, he, brn (by omega), Option.bind_some, hw, Option.bind_some, brn (by omega), wrap_i64 _ (by omega) (by omega)]; rfl
  · simp only [w_FnSource_2_s]
    rw [brn (by omega), decide_eq_false (by omega)]
theorem sameExts_s {l : List Ext} (hl : l.length ≤ 1000000) : w_sameExts l l = some true := by
  unfold w_sameExts
  have key : Loop (w_sameExts_1_s l l) 0 = some (.inr ((l.length : Int), false)) :=
    Loop_for (step := w_sameExts_1_s l l) (fun j => (j : Int)) l.length (fun j hj => by
      simp only [w_sameExts_1_s]
      rw [brd (by omega), atL_nat hj, Option.bind_some, Option.bind_some, bre rfl, bre rfl, wrap_i64 _ (by omega) (by omega)]; rfl) (by
      simp only [w_sameExts_1_s]
      rw [brn (by omega), decide_eq_false (by omega)])
  rw [brbe rfl, key]; rfl
theorem sameInts_s {l : List Int} (hl : l.length ≤ 1000000) : w_sameInts l l = some true := by
  unfold w_sameInts
  have key : Loop (w_sameInts_1_s l l) 0 = some (.inr ((l.length : Int), false)) :=
    Loop_for (step := w_sameInts_1_s l l) (fun j => (j : Int)) l.length (fun j hj => by
      simp only [w_sameInts_1_s]
      rw [brd (by omega), atL_nat hj, Option.bind_some, Option.bind_some, brbe rfl, wrap_i64 _ (by omega) (by omega)]; rfl) (by
      simp only [w_sameInts_1_s]
      rw [brn (by omega), decide_eq_false (by omega)])
  rw [brbe rfl, key]; rfl
theorem sameSource_s {s : Source} (hl : s.Script.length ≤ 1000000) : w_sameSource s s = some true := by
  unfold w_sameSource
  rw [sameExts_s hl, Option.bind_some, br_true, bre rfl, br_of (by simp)]; simp
theorem law_FnSource (a b : List UInt8) (ha : bdL bdT a) (hb : bdL bdT b) : w_FnSource a b = some true := by
  unfold w_FnSource
  by_cases c1 : ((a.length : Nat) : Int) > 1048576
  · rw [brd c1]
  rw [brn c1]
  by_cases c2 : ((b.length : Nat) : Int) > 1048576
  · rw [brd c2]
  rw [brn c2]
  obtain ⟨s, e1, hs⟩ := SourceOf_ok (code := a) (by omega)
  obtain ⟨t, e2, ht⟩ := BytesOf_ok (code := b) (n := 30) (by omega) (by omega) (by omega)
  obtain ⟨x, e3, x0, x1⟩ := at_ok (a := b) (i := 0) (n := 5) (by omega) (by omega) (by omega) (by omega)
  obtain ⟨n, rfl⟩ := Int.eq_ofNat_of_zero_le x0
  obtain ⟨y, e4, y0, y1⟩ := at_ok (a := b) (i := 1) (n := 90) (by omega) (by omega) (by omega) (by omega)
  have hf : Few (tkM s t) (4 + 1) := hs.take t
  have hk : (4 : Int) + 1 ≤ 1000 := by omega
  have hd := drS_few hf hk n (by omega)
  have hdl := drL_len (tkM s t) n
  have hok := drL_ok hf hk (n := n) (by omega)
  have hs1 := hs.1.1
  have hl1 : (tkM s t).Script.length ≤ 1000000 := by show s.Script.length ≤ _; omega
  have hl2 : (drS (tkM s t) n).Script.length ≤ 1000000 := by rw [drS_scr]; exact hl1
  have hl3 : (tkM s ((drL (tkM s t) n).flatMap e8)).Script.length ≤ 1000000 := by show s.Script.length ≤ _; omega
  have hpl : (plM (drL (tkM s t) n) (1 + y)).length = n := by simp [plM, hdl]
  rw [e1, Option.bind_some, e2, Option.bind_some, i_AbsorbText_eq hs.1 (by omega), Option.bind_some, s_AbsorbText_eq hs.1 (by omega), Option.bind_some, e3, Option.bind_some]
  dsimp only
  rw [i_TakeSome_eq hf hk (by omega), Option.bind_some, s_TakeSome_eq hf hk (by omega), Option.bind_some]
  dsimp only
  rw [brbe rfl, sameSource_s hl1, Option.bind_some, Bool.not_true, br_false, brbe rfl, sameSource_s hl2, Option.bind_some, Bool.not_true, br_false, sameExts_s (by omega), Option.bind_some, Bool.not_true, br_false, i_SourceOK_t hd.1, Option.bind_some, Bool.not_true, br_false, src_loop1 hf (by omega) (by omega), Option.bind_some, alt_inr,
    i_AbsorbExts_eq hs.1 (by omega) hok, Option.bind_some, s_AbsorbExts_eq hs.1 (by omega) hok, Option.bind_some, e4, Option.bind_some, wrap_i64 _ (by omega) (by omega), i_TakePlaces_eq hf hk (by omega) (by omega) (by omega), Option.bind_some, Option.bind_some, wrap_i64 _ (by omega) (by omega), s_TakePlaces_eq hf hk (by omega) (by omega) (by omega), Option.bind_some]
  dsimp only
  rw [src_loop2 e4 y0 y1 (by omega), Option.bind_some, alt_inr]
  have hr : Source.mk (drS (tkM s t) n).Script (drS (tkM s t) n).At (drS (tkM s t) n).State (drS (tkM s t) n).Count = drS (tkM s t) n := rfl
  rw [hr, sameSource_s hl2, Option.bind_some, br_true, bre rfl, sameSource_s hl3, Option.bind_some, br_true, bre rfl, sameInts_s (by omega), Option.bind_some, br_true, Option.bind_some]
end Go.AI.Fn
