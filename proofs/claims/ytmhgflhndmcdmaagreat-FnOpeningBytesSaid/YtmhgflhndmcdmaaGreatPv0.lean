/- Plain laws for printed functions: loops whose states are told in advance; numbers; places. -/
import Derived.Test.YtmhgflhndmcdmaaGreatAiW
import Derived.Test.YtmhgflhndmcdmaaGreatFx1
import Derived.KernelRfl
set_option linter.unusedVariables false
namespace Go.AI

/-- A state that is turned step by step. -/
def iU {α : Type} (f : Nat → α → α) : Nat → α → α
  | 0, l => l
  | k + 1, l => f k (iU f k l)
end Go.AI

set_option linter.unusedVariables false
set_option linter.unusedSimpArgs false
namespace Go.AI.Fn

def okF (a : Int) : Prop := 0 ≤ a ∧ a ≤ 2130706432
def okE (x : Ext) : Prop := okF x.A ∧ okF x.B
def okFb (a : Int) : Bool := decide (0 ≤ a) && decide (a ≤ 2130706432)
def okEb (x : Ext) : Bool := okFb x.A && okFb x.B
def eA (x y : Ext) : Ext := ⟨(x.A + y.A) % 2130706433, (x.B + y.B) % 2130706433⟩
def eS (x y : Ext) : Ext := ⟨(x.A - y.A) % 2130706433, (x.B - y.B) % 2130706433⟩
def eM (x y : Ext) : Ext := ⟨(x.A * y.A + 3 * (x.B * y.B)) % 2130706433, (x.A * y.B + x.B * y.A) % 2130706433⟩
def e0 : Ext := ⟨0, 0⟩
def eN (n : Int) : Ext := ⟨n, 0⟩

theorem okF0 : okF 0 := ⟨by decide, by decide⟩
theorem okF_mod (a : Int) : okF (a % 2130706433) := ⟨by omega, by omega⟩
theorem eA_ok (x y : Ext) : okE (eA x y) := ⟨okF_mod _, okF_mod _⟩
theorem eS_ok (x y : Ext) : okE (eS x y) := ⟨okF_mod _, okF_mod _⟩
theorem eM_ok (x y : Ext) : okE (eM x y) := ⟨okF_mod _, okF_mod _⟩
theorem e0_ok : okE e0 := ⟨⟨by decide, by decide⟩, ⟨by decide, by decide⟩⟩
theorem eN_ok {n : Int} (h : okF n) : okE (eN n) := ⟨h, okF0⟩

/-! ### remainders of remainders -/
/-! ### the program -/
/-! ### the reference -/
/-! ### laws -/
end Go.AI.Fn

set_option linter.unusedVariables false
set_option linter.unusedSimpArgs false
namespace Go.AI.Fn

/-! ### powers of two -/
end Go.AI.Fn

set_option linter.unusedVariables false
namespace Go.AI.Fn

structure Src (B : Int) (m : l00Src) : Prop where
  at0 : 0 ≤ m.at_
  at1 : m.at_ ≤ B
  sd0 : 0 ≤ m.seed
  sd1 : m.seed < 2147483648
  len : m.code.length ≤ 1048600
end Go.AI.Fn

set_option linter.unusedVariables false
namespace Go.AI.Fn
end Go.AI.Fn

set_option linter.unusedVariables false
set_option linter.unusedSimpArgs false
namespace Go.AI.Fn

/-! ### shapes of loops -/
def OkEs (l : List Ext) : Prop := ∀ x ∈ l, okE x
def OkFs (l : List Int) : Prop := ∀ x ∈ l, okF x
theorem OkEs.get {l : List Ext} (h : OkEs l) {k : Nat} (hk : k < l.length) : okE l[k] := h _ (List.getElem_mem hk)
theorem OkFs.get {l : List Int} (h : OkFs l) {k : Nat} (hk : k < l.length) : okF l[k] := h _ (List.getElem_mem hk)
theorem OkEs.map {α : Type} {f : α → Ext} (l : List α) (h : ∀ x ∈ l, okE (f x)) : OkEs (l.map f) := fun y hy => by obtain ⟨x, hx, rfl⟩ := List.mem_map.1 hy; exact h x hx
theorem OkEs.take {l : List Ext} (h : OkEs l) (k : Nat) : OkEs (l.take k) := fun x hx => h x (List.mem_of_mem_take hx)
theorem OkEs.drop {l : List Ext} (h : OkEs l) (k : Nat) : OkEs (l.drop k) := fun x hx => h x (List.mem_of_mem_drop hx)

/-! ### sums of products -/
/-! ### the table of a point -/
theorem OkEs.getD {l : List Ext} (h : OkEs l) (k : Nat) : okE (l.getD k e0) := by
  by_cases hk : k < l.length
  · simp [hk]; exact h.get hk
  · simp [List.getElem?_eq_none (Nat.le_of_not_lt hk)]; exact e0_ok
end Go.AI.Fn

set_option linter.unusedVariables false
set_option linter.unusedSimpArgs false
namespace Go.AI.Fn

/-- An element in its reduced form. -/
abbrev K := {x : Ext // okE x}
def K.n (i : Int) : K := ⟨eN (i % 2130706433), eN_ok (okF_mod _)⟩
instance instAddK : Add K := ⟨fun a b => ⟨eA a.1 b.1, eA_ok _ _⟩⟩
instance instMulK : Mul K := ⟨fun a b => ⟨eM a.1 b.1, eM_ok _ _⟩⟩
instance instSubK : Sub K := ⟨fun a b => ⟨eS a.1 b.1, eS_ok _ _⟩⟩
instance instNegK : Neg K := ⟨fun a => ⟨eS e0 a.1, eS_ok _ _⟩⟩
instance instNatCastK : NatCast K := ⟨fun n => K.n n⟩
instance instIntCastK : IntCast K := ⟨fun n => K.n n⟩
instance instOfNatK (n : Nat) : OfNat K n := ⟨K.n n⟩
def K.pow (a : K) : Nat → K
  | 0 => K.n 1
  | n + 1 => K.pow a n * a
instance instHPowK : HPow K Nat K := ⟨K.pow⟩
/-! Coordinates: numbers modulo the prime, with which grind reckons. -/
instance instNeZeroPP : NeZero 2130706433 := ⟨by decide⟩
abbrev FP := Fin 2130706433
def K.a (x : K) : FP := ⟨x.1.A.toNat, by have h := x.2.1; unfold okF at h; omega⟩
def K.b (x : K) : FP := ⟨x.1.B.toNat, by have h := x.2.2; unfold okF at h; omega⟩
end Go.AI.Fn

set_option linter.unusedVariables false
set_option linter.unusedSimpArgs false
namespace Go.AI.Fn

/-! ### lists, their even and odd places -/
/-! ### the transform -/
/-! ### combinations -/
/-! ### values of polynomials -/
end Go.AI.Fn

set_option linter.unusedVariables false
set_option linter.unusedSimpArgs false
namespace Go.AI.Fn

/-- One variable bound in a table. -/
def fdK (r : K) : List K → List K
  | a :: b :: l => (a + r * (b - a)) :: fdK r l
  | _ => []
theorem fdK_len (r : K) : ∀ (l : List K) (m : Nat), l.length = 2 * m → (fdK r l).length = m
  | [], m, h => by simp at h; simp [fdK]; omega
  | [a], m, h => by simp at h; omega
  | a :: b :: l, 0, h => by simp at h
  | a :: b :: l, m + 1, h => by simp only [fdK, List.length_cons]; rw [fdK_len r l m (by simp only [List.length_cons] at h; omega)]
def bdK (r : K) (T : List (List K)) : List (List K) := T.map (fdK r)
theorem bdK_get (r : K) (T : List (List K)) (i : Nat) : (bdK r T).getD i [] = fdK r (T.getD i []) := by
  by_cases h : i < T.length
  · simp [bdK, h]
  · simp [bdK, h, fdK]
end Go.AI.Fn

set_option linter.unusedVariables false
set_option linter.unusedSimpArgs false
namespace Go.AI.Fn

end Go.AI.Fn

set_option linter.unusedVariables false
namespace Go.AI.Fn

def ltE (y x : Entry) : Prop := y.Row < x.Row ∨ (y.Row = x.Row ∧ y.Col < x.Col)
def inE (R C : Int) (x : Entry) : Prop := (0 ≤ x.Row ∧ x.Row ≤ R - 1) ∧ (0 ≤ x.Col ∧ x.Col ≤ C - 1) ∧ 1 ≤ x.Value ∧ x.Value ≤ 2130706432
end Go.AI.Fn

set_option linter.unusedVariables false
namespace Go.AI.Fn

def setB (t : Setting) : Bool := decide (1 ≤ t.Rate ∧ t.Rate ≤ 3) && (decide (1 ≤ t.Queries ∧ t.Queries ≤ 8) && decide (0 ≤ t.Grind ∧ t.Grind ≤ 12))
end Go.AI.Fn

set_option linter.unusedVariables false
set_option linter.unusedSimpArgs false
namespace Go.AI.Fn

end Go.AI.Fn

set_option linter.unusedVariables false
namespace Go.AI.Fn

end Go.AI.Fn

set_option linter.unusedVariables false
set_option linter.unusedSimpArgs false
namespace Go.AI.Fn

end Go.AI.Fn

set_option linter.unusedVariables false
set_option linter.unusedSimpArgs false
namespace Go.AI.Fn

/-- Tables that a sum is taken over. -/
structure OkT (kind n : Nat) (T : List (List K)) : Prop where
  kd : kind = 1 ∨ kind = 2
  len : T.length = 2 * kind
  tab : ∀ i, i < T.length → (T.getD i []).length = n
theorem OkT.bd {kind n : Nat} {T : List (List K)} (h : OkT kind (2 * n) T) (r : K) : OkT kind n (bdK r T) := ⟨h.kd, by simp [bdK, h.len], fun i hi => by
  rw [bdK_get]
  exact fdK_len r _ n (h.tab i (by simpa [bdK] using hi))⟩
variable {kind n : Nat} {T : List (List K)}
end Go.AI.Fn

set_option linter.unusedVariables false
set_option linter.unusedSimpArgs false
namespace Go.AI.Fn

/-! ### the law of rounds -/
end Go.AI.Fn

set_option linter.unusedVariables false
set_option linter.unusedSimpArgs false
namespace Go.AI.Fn

abbrev xo (a b : Int) : Int := xor64 .u64 a b
/-- Turned left. -/
def rot (x s : Int) : Int := if s = 0 then x else or64 .u64 (shl64 .u64 x s) (shr64 .u64 x (64 - s))
end Go.AI.Fn

set_option linter.unusedVariables false
set_option linter.unusedSimpArgs false
namespace Go.AI.Fn

abbrev g (l : List Int) (i : Int) : Int := l.getD i.toNat 0

def shiftL : List Int := [0, 1, 62, 28, 27, 36, 44, 6, 55, 20, 3, 10, 43, 25, 39, 41, 45, 15, 21, 8, 18, 2, 61, 56, 14]
def p2 (m : List Int) (k : Nat) (l : List Int) : List Int := l.set ((k : Int) % 5).toNat (xo (g l ((k : Int) % 5)) (g m k))
def p3 (m c : List Int) (k : Nat) (l : List Int) : List Int :=
  l.set ((k : Int) / 5 + 5 * ((2 * ((k : Int) % 5) + 3 * ((k : Int) / 5)) % 5)).toNat (rot (xo (g m k) (xo (g c (((k : Int) % 5 + 4) % 5)) (rot (g c (((k : Int) % 5 + 1) % 5)) 1))) (g shiftL k))
def p4 (b : List Int) (k : Nat) (l : List Int) : List Int :=
  l.set k (xo (g b k) (andn64 .u64 (g b ((k : Int) - (k : Int) % 5 + ((k : Int) % 5 + 2) % 5)) (g b ((k : Int) - (k : Int) % 5 + ((k : Int) % 5 + 1) % 5))))
-- the reference
/-- One round, as the program and as the reference do it. -/
def roundP (m : List Int) (rc : Int) : List Int :=
  let c := iU (p2 m) 25 (nZ 5)
  let b := iU (p3 m c) 25 (nZ 25)
  let r := iU (p4 b) 25 m
  r.set 0 (xo (r.getD 0 0) rc)
end Go.AI.Fn

set_option linter.unusedVariables false
set_option linter.unusedSimpArgs false
namespace Go.AI.Fn

end Go.AI.Fn

set_option linter.unusedVariables false
set_option linter.unusedSimpArgs false
set_option maxRecDepth 10000
namespace Go.AI.Fn

def rcL : List Int := [1, 32898, 9223372036854808714, 9223372039002292224, 32907, 2147483649, 9223372039002292353, 9223372036854808585, 138, 136, 2147516425, 2147483658, 2147516555, 9223372036854775947, 9223372036854808713, 9223372036854808579, 9223372036854808578, 9223372036854775936, 32778, 9223372039002259466, 9223372039002292353, 9223372036854808704, 2147483649, 9223372039002292232]
def rdP (k : Nat) (m : List Int) : List Int := roundP m (rcL.getD k 0)
/-- The permutation. -/
def permM (m : List Int) : List Int := iU rdP 24 m
def lnS (t : List UInt8) (k : Nat) (l : List Int) : List Int := l.set ((k : Int) / 8).toNat (or64 .u64 (g l ((k : Int) / 8)) (shl64 .u64 (IntKind.wrap .u64 ((t.getD k 0).toNat : Int)) (8 * ((k : Int) % 8))))
/-- The lanes that bytes are. -/
def lanesM (t : List UInt8) : List Int := iU (lnS t) t.length (nZ 25)
def txB (m : List Int) (i : Nat) : UInt8 := UInt8.ofInt (shr64 .u64 (g m ((i : Int) / 8)) (8 * ((i : Int) % 8)))
def textM (m : List Int) (n : Nat) : List UInt8 := (List.range n).map (txB m)
theorem textM_len (m : List Int) (n : Nat) : (textM m n).length = n := by simp [textM]
end Go.AI.Fn

set_option linter.unusedVariables false
set_option linter.unusedSimpArgs false
namespace Go.AI.Fn

def xoS (t : List Int) (k : Nat) (l : List Int) : List Int := l.set k (xo (g l k) (g t k))
def xorM (t m : List Int) : List Int := iU (xoS t) 25 m
/-- One block taken in. -/
def absB (a : List UInt8) (k : Nat) (m : List Int) : List Int := permM (xorM (lanesM ((a.drop (136 * k)).take 136)) m)
def absM (a : List UInt8) (n : Nat) : List Int := iU (absB a) n (nZ 25)
/-- Noughts behind a text, up to a whole number of blocks. -/
def padZ (l : List UInt8) : List UInt8 := l ++ List.replicate ((136 - l.length % 136) % 136) 0
/-- The last byte's highest bit, set too. -/
def padM (b : List UInt8) : List UInt8 := (padZ (b ++ [1])).set ((padZ (b ++ [1])).length - 1) (UInt8.ofInt (or64 .u8 (((padZ (b ++ [1])).getD ((padZ (b ++ [1])).length - 1) 0).toNat : Int) 128))
/-- The hash. -/
def H (b : List UInt8) : List UInt8 := textM (absM (padM b) ((b.length + 136) / 136)) 32
theorem H_len (b : List UInt8) : (H b).length = 32 := textM_len _ _
end Go.AI.Fn

set_option linter.unusedVariables false
namespace Go.AI.Fn

def four (n : Int) : List UInt8 := [UInt8.ofInt (shr64 .i64 n 24), UInt8.ofInt (shr64 .i64 n 16), UInt8.ofInt (shr64 .i64 n 8), UInt8.ofInt n]
end Go.AI.Fn

set_option linter.unusedVariables false
namespace Go.AI.Fn

end Go.AI.Fn

set_option linter.unusedVariables false
set_option linter.unusedSimpArgs false
namespace Go.AI.Fn

def tagA : List UInt8 := [97, 98, 115, 111, 114, 98]
structure OkSrc (s : Source) : Prop where
  len : s.Script.length ≤ 64
  scr : OkEs s.Script
  st : s.State.length = 32
  a0 : 0 ≤ s.At
  a1 : s.At ≤ 1000000
  c0 : 0 ≤ s.Count
  c1 : s.Count ≤ 1000000
/-! ### grinding -/
end Go.AI.Fn

set_option linter.unusedVariables false
set_option linter.unusedSimpArgs false
namespace Go.AI.Fn

/-- A text taken in. -/
def tkM (s : Source) (t : List UInt8) : Source := ⟨s.Script, s.At, H (s.State ++ (tagA ++ (four t.length ++ t))), 0⟩
theorem tkM_ok {s : Source} (t : List UInt8) (h : OkSrc s) : OkSrc (tkM s t) := ⟨h.1, h.2, H_len _, h.4, h.5, by simp [tkM], by simp [tkM]⟩
/-- A drawn source's bounds: it has drawn little. -/
structure Few (s : Source) (k : Int) : Prop where
  ok : OkSrc s
  a : s.At ≤ k
  c : s.Count ≤ k
theorem Few.take {s : Source} {k : Int} (h : Few s k) (t : List UInt8) : Few (tkM s t) (k + 1) := ⟨tkM_ok t h.1, by have := h.2; simp [tkM]; omega, by have := h.3; have := h.1.c0; simp [tkM]; omega⟩
end Go.AI.Fn

set_option linter.unusedVariables false
set_option linter.unusedSimpArgs false
namespace Go.AI.Fn

variable {s : Source} {k : Int}
end Go.AI.Fn

set_option linter.unusedVariables false
set_option linter.unusedSimpArgs false
namespace Go.AI.Fn

/-! ### the prover -/
variable {kind : Nat} {bh : List K → Source → Source}
theorem two_pow (v : Nat) : 2 ^ (v + 1) = 2 * 2 ^ v := by rw [Nat.pow_succ, Nat.mul_comm]
theorem OkT.up {v : Nat} {T : List (List K)} (h : OkT kind (2 ^ (v + 1)) T) (r : K) : OkT kind (2 ^ v) (bdK r T) := by
  rw [two_pow] at h; exact h.bd r
/-! ### the verifier -/
noncomputable instance instDecK : DecidableEq K := fun a b => Classical.propDecidable _
variable {bv : Nat → Source → Source}
end Go.AI.Fn

set_option linter.unusedVariables false
set_option linter.unusedSimpArgs false
namespace Go.AI.Fn

/-- What a matrix is that both sides take. -/
structure OkM (l : List Entry) (R C : Int) : Prop where
  len : l.length ≤ 200
  ent : ∀ x ∈ l, inE R C x
  srt : ∀ k (hk : k < l.length), ∀ y ∈ l.take k, ltE y l[k]
/-! ### digests -/
end Go.AI.Fn

set_option linter.unusedVariables false
set_option linter.unusedSimpArgs false
namespace Go.AI.Fn

end Go.AI.Fn

set_option linter.unusedVariables false
set_option linter.unusedSimpArgs false
namespace Go.AI.Fn

/-! ### a table at a point is what is left when all variables are bound -/
variable {kind : Nat} {bh : List K → Source → Source}
/-! ### tables that are drawn -/
end Go.AI.Fn

set_option linter.unusedVariables false
set_option linter.unusedSimpArgs false
namespace Go.AI.Fn

end Go.AI.Fn

set_option linter.unusedVariables false
set_option linter.unusedSimpArgs false
namespace Go.AI.Fn

abbrev Tx := List UInt8
def Hs (l : List Tx) : Prop := ∀ x ∈ l, x.length = 32
theorem Hs.getD {l : List Tx} (h : Hs l) {k : Nat} (hk : k < l.length) : (l.getD k []).length = 32 := by simp [hk]; exact h _ (List.getElem_mem hk)
end Go.AI.Fn

set_option linter.unusedVariables false
set_option linter.unusedSimpArgs false
namespace Go.AI.Fn

end Go.AI.Fn

set_option linter.unusedVariables false
set_option linter.unusedSimpArgs false
namespace Go.AI.Fn

/-! ### roots -/
/-! ### folding -/
/-! ### encoding -/
end Go.AI.Fn

set_option linter.unusedVariables false
set_option linter.unusedSimpArgs false
namespace Go.AI.Fn

/-! ### coefficients -/
/-! ### folding -/
/-! ### leaves -/
end Go.AI.Fn

set_option linter.unusedVariables false
set_option linter.unusedSimpArgs false
namespace Go.AI.Fn

/-- All numbers below a bound. -/
def allN (n : Nat) (p : Nat → Bool) : Bool := (List.range n).all p
def h32 (x : List UInt8) : Bool := decide (x.length = 32)
/-- A query of an opening. -/
def pthB (vars : Int) (t : Setting) (q : Query) (j : Nat) : Bool := decide (((q.Paths.getD j []).length : Int) = vars + t.Rate - 1 - j) && (q.Paths.getD j []).all h32
def qryB (vars : Int) (t : Setting) (q : Query) : Bool := decide ((q.Pairs.length : Int) = 2 * vars) && (q.Pairs.all okEb && (decide ((q.Paths.length : Int) = vars) && allN vars.toNat (pthB vars t q)))
/-- An opening that a machine has. -/
structure SmO (o : Opening) : Prop where
  rn : o.Rounds.length ≤ 1099511627776
  rr : ∀ g ∈ o.Rounds, g.length ≤ 1099511627776
  ro : o.Roots.length ≤ 1099511627776
  qn : o.Queries.length ≤ 1099511627776
  qp : ∀ q ∈ o.Queries, q.Pairs.length ≤ 1099511627776
  qt : ∀ q ∈ o.Queries, ∀ p ∈ q.Paths, p.length ≤ 1099511627776
end Go.AI.Fn

set_option linter.unusedVariables false
set_option linter.unusedSimpArgs false
namespace Go.AI.Fn

end Go.AI.Fn

set_option linter.unusedVariables false
set_option linter.unusedSimpArgs false
namespace Go.AI.Fn

/-! ### words, folded by a point's elements; the roots told behind each fold but the last -/
end Go.AI.Fn

set_option linter.unusedVariables false
set_option linter.unusedSimpArgs false
namespace Go.AI.Fn

/-! ### queries -/
end Go.AI.Fn

set_option linter.unusedVariables false
set_option linter.unusedSimpArgs false
namespace Go.AI.Fn

variable {kind : Nat}
/-! ### what is shown -/
end Go.AI.Fn

set_option linter.unusedVariables false
set_option linter.unusedSimpArgs false
namespace Go.AI.Fn

variable {v ρ : Nat} {t P : List K} {s : Source} {k : Int}
/-! ### right lengths -/
end Go.AI.Fn

set_option linter.unusedVariables false
set_option linter.unusedSimpArgs false
namespace Go.AI.Fn

/-- Bounds of an opening of right lengths. -/
structure BoO (o : Opening) : Prop where
  rn : o.Rounds.length ≤ 6
  rr : ∀ g ∈ o.Rounds, g.length ≤ 3
  ro : o.Roots.length ≤ 6
  rh : ∀ x ∈ o.Roots, x.length ≤ 32
  qn : o.Queries.length ≤ 8
  qp : ∀ q ∈ o.Queries, q.Pairs.length ≤ 12
  qt : ∀ q ∈ o.Queries, q.Paths.length ≤ 6
  qq : ∀ q ∈ o.Queries, ∀ p ∈ q.Paths, p.length ≤ 8 ∧ ∀ x ∈ p, x.length ≤ 32
structure OkO (o : Opening) (v : Nat) (t : Setting) : Prop where
  v1 : 1 ≤ v ∧ v ≤ 6
  st : setB t = true
  rn : o.Rounds.length = v
  rr : ∀ g ∈ o.Rounds, g.length = 3 ∧ OkEs g
  ro : o.Roots.length = v - 1
  rh : ∀ x ∈ o.Roots, x.length = 32
  la : okE o.Last
  no : 0 ≤ o.Nonce ∧ o.Nonce ≤ 65535
  qn : (o.Queries.length : Int) = t.Queries
  qq : ∀ q ∈ o.Queries, qryB (v : Int) t q = true
variable {o : Opening} {v : Nat} {t : Setting}
end Go.AI.Fn

set_option linter.unusedVariables false
set_option linter.unusedSimpArgs false
namespace Go.AI.Fn

variable {o : Opening} {v : Nat} {t : Setting}
/-! ### reading back -/
end Go.AI.Fn

set_option linter.unusedVariables false
set_option linter.unusedSimpArgs false
namespace Go.AI.Fn

end Go.AI.Fn
