/- Lean's own values as the machine's; the machine's operations on these, one by one. -/
import Derived.Test.YtnfkfhedladdaaaAiCps
set_option linter.unusedVariables false
set_option linter.unusedSimpArgs false
namespace Go.AI

abbrev I (n : Int) : V := .lit (.int .i64 n)
abbrev B (b : Bool) : V := .lit (.bool b)
abbrev S (s : List UInt8) : V := .lit (.string ⟨⟨s⟩⟩)

/-- How the elements of a list stand in a slice's rows. -/
structure En (α : Type) where
  esz : Nat
  enc : α → List V

def rws {α : Type} (e : En α) (l : List α) : List (List V) := l.map e.enc
def sl {α : Type} (e : En α) (l : List α) : V := (V.imm e.esz (rws e l)).cz

theorem sl_nil {α : Type} (e : En α) : sl e [] = .imm 1 [] := rfl
theorem sl_cons {α : Type} (e : En α) (x : α) (l : List α) : sl e (x :: l) = .imm e.esz (rws e (x :: l)) := rfl

def eI : En Int := ⟨1, fun n => [I n]⟩
def eU8 : En UInt8 := ⟨1, fun b => [.lit (.int .u8 b.toNat)]⟩
def eU64 : En Int := ⟨1, fun n => [.lit (.int .u64 n)]⟩
def eB : En Bool := ⟨1, fun b => [B b]⟩
def eS : En (List UInt8) := ⟨1, fun s => [S s]⟩
def eL {α : Type} (e : En α) : En (List α) := ⟨1, fun l => [sl e l]⟩

theorem eI_esz : eI.esz = 1 := by decide
theorem eI_enc (n : Int) : eI.enc n = [I n] := rfl
theorem eU8_esz : eU8.esz = 1 := by decide
theorem eU8_enc (n : UInt8) : eU8.enc n = [.lit (.int .u8 n.toNat)] := rfl
theorem eU64_esz : eU64.esz = 1 := by decide
theorem eU64_enc (n : Int) : eU64.enc n = [.lit (.int .u64 n)] := rfl
theorem eB_esz : eB.esz = 1 := by decide
theorem eB_enc (n : Bool) : eB.enc n = [B n] := rfl
theorem eS_esz : eS.esz = 1 := by decide
theorem eS_enc (n : List UInt8) : eS.enc n = [S n] := rfl
theorem eL_esz {α : Type} (e : En α) : (eL e).esz = 1 := of_decide_eq_true rfl
theorem eL_enc {α : Type} (e : En α) (l : List α) : (eL e).enc l = [sl e l] := rfl

/-! ### pure words -/

def atL {α : Type} (l : List α) (i : Int) : Option α := if 0 ≤ i then l[i.toNat]? else none
def subL {α : Type} (l : List α) (a b : Int) : Option (List α) := if 0 ≤ a ∧ a ≤ b ∧ b ≤ l.length then some ((l.take b.toNat).drop a.toNat) else none
def inb (i : Int) (n : Nat) : Bool := decide (0 ≤ i) && decide (i.toNat < n)
def fits (n bytes : Nat) : Bool := decide (n * bytes ≤ okBound)
def mkOK (l c : Int) (bytes : Nat) : Bool := decide (0 ≤ l) && decide (l ≤ c) && decide (c * bytes ≤ okBound)
def mx (a b : Int) : Int := if b > a then b else a
def mn (a b : Int) : Int := if b < a then b else a

def nrows (r : List (List V)) : Nat := r.length
def app (r q : List (List V)) : List (List V) := r ++ q
def mkR (n : Nat) (r : List (List V)) : List (List V) := r
def consR (row : List V) (r : List (List V)) : List (List V) := row :: r
def repR (n k : Nat) (row : List V) : List (List V) := List.replicate k row
def setR (r : List (List V)) (i : Nat) (row : List V) : List (List V) := r.set i row

section
variable {α : Type} {e : En α} {l l2 : List α}

theorem nrows_rws : nrows (rws e l) = l.length := by simp [nrows, rws]
theorem app_rws : app (rws e l) (rws e l2) = rws e (l ++ l2) := by simp [app, rws]
theorem mk0 (e : En α) (n : Nat) : mkR n [] = rws e [] := rfl
theorem mkR_cons (n : Nat) (row : List V) (r : List (List V)) : mkR n (row :: r) = consR row (mkR n r) := rfl
theorem consI (a : Int) (l : List Int) : consR [I a] (rws eI l) = rws eI (a :: l) := rfl
theorem consS (a : List UInt8) (l : List (List UInt8)) : consR [S a] (rws eS l) = rws eS (a :: l) := rfl
theorem consL (a : List α) (l : List (List α)) : consR [sl e a] (rws (eL e) l) = rws (eL e) (a :: l) := rfl
theorem consL0 (l : List (List α)) : consR [.imm 1 []] (rws (eL e) l) = rws (eL e) ([] :: l) := rfl
theorem consB (b : Bool) (l : List Bool) : consR [B b] (rws eB l) = rws eB (b :: l) := rfl
theorem consU64 (a : Int) (l : List Int) : consR [.lit (.int .u64 a)] (rws eU64 l) = rws eU64 (a :: l) := rfl
theorem consU8 (b : UInt8) (l : List UInt8) : consR [.lit (.int .u8 b.toNat)] (rws eU8 l) = rws eU8 (b :: l) := rfl
theorem u8_wrap_toNat (x : Int) : ((UInt8.ofInt x).toNat : Int) = IntKind.u8.wrap x := by
  simp [UInt8.ofInt, IntKind.wrap, IntKind.bits, IntKind.signed]
  omega
theorem consU8w (x : Int) (l : List UInt8) : consR [.lit (.int .u8 (IntKind.u8.wrap x))] (rws eU8 l) = rws eU8 (UInt8.ofInt x :: l) := by
  rw [← u8_wrap_toNat]; rfl
theorem consU8n (n : Nat) (h : n < 256) (l : List UInt8) : consR [.lit (.int .u8 (n : Int))] (rws eU8 l) = rws eU8 (UInt8.ofNat n :: l) := by
  have : (UInt8.ofNat n).toNat = n := by simp; omega
  rw [← consU8, this]
theorem consU8k (n : Nat) (h : Nat.ble n 255 = true) (l : List UInt8) : consR [.lit (.int .u8 (no_index (OfNat.ofNat n : Int)))] (rws eU8 l) = rws eU8 ((OfNat.ofNat n : UInt8) :: l) := by
  have h' := Nat.le_of_ble_eq_true h
  have : ((OfNat.ofNat n : UInt8).toNat : Int) = (OfNat.ofNat n : Int) := by
    show ((UInt8.ofNat n).toNat : Int) = (n : Int)
    simp; omega
  rw [← consU8, this]
theorem setI (l : List Int) (i : Nat) (a : Int) : setR (rws eI l) i [I a] = rws eI (l.set i a) := by simp [setR, rws, eI]
theorem setU64 (l : List Int) (i : Nat) (a : Int) : setR (rws eU64 l) i [.lit (.int .u64 a)] = rws eU64 (l.set i a) := by simp [setR, rws, eU64]
theorem setB (l : List Bool) (i : Nat) (a : Bool) : setR (rws eB l) i [B a] = rws eB (l.set i a) := by simp [setR, rws, eB]
theorem setStr (l : List (List UInt8)) (i : Nat) (a : List UInt8) : setR (rws eS l) i [S a] = rws eS (l.set i a) := by simp [setR, rws, eS]
theorem setL (l : List (List α)) (i : Nat) (a : List α) : setR (rws (eL e) l) i [sl e a] = rws (eL e) (l.set i a) := by simp [setR, rws, eL]
theorem setU8 (l : List UInt8) (i : Nat) (a : UInt8) : setR (rws eU8 l) i [.lit (.int .u8 a.toNat)] = rws eU8 (l.set i a) := by simp [setR, rws, eU8]
theorem setU8w (l : List UInt8) (i : Nat) (x : Int) : setR (rws eU8 l) i [.lit (.int .u8 (IntKind.u8.wrap x))] = rws eU8 (l.set i (UInt8.ofInt x)) := by
  rw [← u8_wrap_toNat, setU8]
theorem repT (e : En α) (x : α) (n k : Nat) : repR n k (e.enc x) = rws e (List.replicate k x) := by simp [repR, rws]
theorem cz_rws (m : Nat) (h : e.esz = m) : V.cz (.imm m (rws e l)) = sl e l := by subst h; rfl
theorem drop0 (r : List (List V)) : r.drop 0 = r := rfl
theorem rws_drop (k : Nat) : (rws e l).drop k = rws e (l.drop k) := by simp [rws]

/-! ### what a slice of plain rows is to all words -/

theorem sl_or (e : En α) (l : List α) : (l = [] ∧ sl e l = .imm 1 []) ∨ (l ≠ [] ∧ sl e l = .imm e.esz (rws e l)) := by
  cases l with
  | nil => exact .inl ⟨rfl, rfl⟩
  | cons x l => exact .inr ⟨by simp, rfl⟩

theorem sl_cz : (sl e l).cz = sl e l := by
  cases l with
  | nil => rfl
  | cons x l => rfl
theorem sl_czA : (sl e l).czA = sl e l := by
  cases l with
  | nil => rfl
  | cons x l => rfl
theorem sl_czR : (sl e l).czR = sl e l := by
  cases l with
  | nil => rfl
  | cons x l => rfl
theorem sl_cell : (sl e l).cell = true := by
  rcases sl_or e l with ⟨_, h⟩ | ⟨_, h⟩ <;> rw [h] <;> rfl
theorem sl_cl : (sl e l).cl = true := by
  rcases sl_or e l with ⟨_, h⟩ | ⟨_, h⟩ <;> rw [h] <;> rfl
theorem sl_cells : (sl e l).cells = [sl e l] := by
  rcases sl_or e l with ⟨_, h⟩ | ⟨_, h⟩ <;> rw [h] <;> rfl
theorem sl_refA : refA (sl e l) = [] := by
  rcases sl_or e l with ⟨_, h⟩ | ⟨_, h⟩ <;> rw [h] <;> rfl
theorem sl_refC : refC (sl e l) = [] := by
  rcases sl_or e l with ⟨_, h⟩ | ⟨_, h⟩ <;> rw [h] <;> rfl
theorem sl_snap {h : Heap} : snap h (sl e l) = some (sl e l, []) := by
  rcases sl_or e l with ⟨_, h⟩ | ⟨_, h⟩ <;> rw [h] <;> rfl
theorem sl_locCell {h : Heap} {own : Bool} {ids : List Nat} : locCell h own ids (sl e l) = some (sl e l, ids, []) := by
  rcases sl_or e l with ⟨_, h⟩ | ⟨_, h⟩ <;> rw [h] <;> rfl
theorem sl_locArg {h : Heap} {own : Bool} {ids : List Nat} : locArg h own ids (sl e l) = some (sl e l, ids, []) := by
  rcases sl_or e l with ⟨_, h⟩ | ⟨_, h⟩ <;> rw [h] <;> rfl
theorem sl_unV {ids : List Nat} : unV ids (sl e l) = sl e l := by
  rcases sl_or e l with ⟨_, h⟩ | ⟨_, h⟩ <;> rw [h] <;> rfl
theorem sl_unArg {ids : List Nat} : unArg ids (sl e l) = sl e l := by
  rcases sl_or e l with ⟨_, h⟩ | ⟨_, h⟩ <;> rw [h] <;> rfl
theorem sl_unRes {ids : List Nat} : unRes ids (sl e l) = sl e l := by
  rcases sl_or e l with ⟨_, h⟩ | ⟨_, h⟩ <;> rw [h] <;> rfl
theorem sl_flatC : flatC (sl e l) = false := by
  rcases sl_or e l with ⟨_, h⟩ | ⟨_, h⟩ <;> rw [h] <;> rfl
theorem sl_flatA : flatA (sl e l) = false := by
  rcases sl_or e l with ⟨_, h⟩ | ⟨_, h⟩ <;> rw [h] <;> rfl
theorem sl_flatR : flatR (sl e l) = false := by
  rcases sl_or e l with ⟨_, h⟩ | ⟨_, h⟩ <;> rw [h] <;> rfl
theorem sl_fzC {h : Heap} {bs : List Nat} : fzC h bs (sl e l) = sl e l := by
  rcases sl_or e l with ⟨_, h⟩ | ⟨_, h⟩ <;> rw [h] <;> rfl
theorem sl_fzA {h : Heap} {bs : List Nat} : fzA h bs (sl e l) = sl e l := by
  rcases sl_or e l with ⟨_, h⟩ | ⟨_, h⟩ <;> rw [h] <;> rfl
theorem sl_finC {h : Heap} {m : Nat} {kp : List Nat} : finC h m kp (sl e l) = some (sl e l) := by
  rcases sl_or e l with ⟨_, h⟩ | ⟨_, h⟩ <;> rw [h] <;> rfl
theorem sl_finA {h : Heap} {m : Nat} {kp : List Nat} : finA h m kp (sl e l) = some (sl e l) := by
  rcases sl_or e l with ⟨_, h⟩ | ⟨_, h⟩ <;> rw [h] <;> rfl
theorem sl_finD {h : Heap} {m : Nat} {kp : List Nat} : finD h m kp (sl e l) = some (sl e l) := by
  rcases sl_or e l with ⟨_, h⟩ | ⟨_, h⟩ <;> rw [h] <;> rfl
theorem sl_okC : okC (sl e l) = true := by
  rcases sl_or e l with ⟨_, h⟩ | ⟨_, h⟩ <;> rw [h] <;> rfl
theorem sl_rowsOf {h : Heap} (m : Nat) (hm : e.esz = m) : rowsOf h m (sl e l) = some (rws e l) := by
  subst hm
  rcases sl_or e l with ⟨rfl, h⟩ | ⟨hl, h⟩
  · rw [h]; simp [rowsOf, rws]
  · rw [h]; simp [rowsOf]
theorem sl_isStr : isStr (sl e l) = false := by
  rcases sl_or e l with ⟨_, h⟩ | ⟨_, h⟩ <;> rw [h] <;> rfl

end
end Go.AI
