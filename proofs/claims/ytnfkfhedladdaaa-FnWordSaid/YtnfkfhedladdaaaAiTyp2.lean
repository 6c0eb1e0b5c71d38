/- The machine's operations as words over values; what they come to on values of Lean's own types. -/
import Derived.Test.YtnfkfhedladdaaaAiTyp
set_option linter.unusedVariables false
set_option linter.unusedSimpArgs false
namespace Go.AI

theorem bleD (a b : Nat) : Nat.ble a b = decide (a ≤ b) := by
  by_cases h0 : a ≤ b
  · rw [decide_eq_true h0]; exact Nat.ble_eq_true_of_le h0
  · rw [decide_eq_false h0]; cases hb : Nat.ble a b with
    | false => rfl
    | true => exact absurd (Nat.le_of_ble_eq_true hb) h0
theorem bltD (a b : Nat) : Nat.blt a b = decide (a < b) := bleD (a + 1) b
theorem beqD (a b : Nat) : Nat.beq a b = decide (a = b) := by
  by_cases h0 : a = b
  · rw [decide_eq_true h0, h0]; exact Nat.beq_refl b
  · rw [decide_eq_false h0]; cases hb : Nat.beq a b with
    | false => rfl
    | true => exact absurd (Nat.eq_of_beq_eq_true hb) h0

section
variable {C : CallS} {ow : FuncId → List Nat} {ev : Opd → V} {h : Heap} {n : Nat} {α : Type} {e : En α} {l : List α}

/-! ### quiet ones -/

theorem o_mv (x : Opd) : opSem C ow (.mv x) ev h n = some (ev x, []) := rfl

def pickS (c a b : V) : Option (V × Upd) := match c with
  | .lit (.bool c) => br c (some (a, [])) (some (b, []))
  | _ => none
theorem o_pick (c a b : Opd) : opSem C ow (.pick c a b) ev h n = pickS (ev c) (ev a) (ev b) := by
  simp only [opSem]
  unfold pickS
  split
  · rename_i h; rw [h]; rfl
  · rename_i h; rw [h]; rfl
  · rename_i h1 h2
    split
    · rename_i c' hc; cases c'
      · exact absurd hc h2
      · exact absurd hc h1
    · rfl
theorem pickS_b (c : Bool) (a b : V) : pickS (.lit (.bool c)) a b = br c (some (a, [])) (some (b, [])) := rfl

def binS (op : BinOp) (x y : V) : Option (V × Upd) := match x, y with
  | .lit a, .lit b => match binLit op a b with
    | some v => some (.lit v, [])
    | none => none
  | _, _ => none
theorem o_bin (op : BinOp) (x y : Opd) : opSem C ow (.bin op x y) ev h n = binS op (ev x) (ev y) := rfl
theorem b_add (k : IntKind) (a b : Int) : binS .add (.lit (.int k a)) (.lit (.int k b)) = some (.lit (.int k (k.wrap (a + b))), []) := by simp [binS, binLit]
theorem b_sub (k : IntKind) (a b : Int) : binS .sub (.lit (.int k a)) (.lit (.int k b)) = some (.lit (.int k (k.wrap (a - b))), []) := by simp [binS, binLit]
theorem b_mul (k : IntKind) (a b : Int) : binS .mul (.lit (.int k a)) (.lit (.int k b)) = some (.lit (.int k (k.wrap (a * b))), []) := by simp [binS, binLit]
def nz (b : Int) : Bool := decide (b ≠ 0)
theorem b_quo (k : IntKind) (a b : Int) : binS .quo (.lit (.int k a)) (.lit (.int k b)) = br (nz b) (some (.lit (.int k (k.wrap (a.tdiv b))), [])) none := by
  by_cases hb : b = 0 <;> simp [binS, binLit, br, nz, hb]
theorem b_rem (k : IntKind) (a b : Int) : binS .rem (.lit (.int k a)) (.lit (.int k b)) = br (nz b) (some (.lit (.int k (a.tmod b)), [])) none := by
  by_cases hb : b = 0 <;> simp [binS, binLit, br, nz, hb]
def xor64 (k : IntKind) (a b : Int) : Int := k.wrap (BitVec.ofInt k.bits a ^^^ BitVec.ofInt k.bits b).toNat
def and64 (k : IntKind) (a b : Int) : Int := k.wrap (BitVec.ofInt k.bits a &&& BitVec.ofInt k.bits b).toNat
def or64 (k : IntKind) (a b : Int) : Int := k.wrap (BitVec.ofInt k.bits a ||| BitVec.ofInt k.bits b).toNat
def andn64 (k : IntKind) (a b : Int) : Int := k.wrap (BitVec.ofInt k.bits a &&& ~~~ BitVec.ofInt k.bits b).toNat
def shl64 (k : IntKind) (a b : Int) : Int := k.wrap (a * 2 ^ (min b.toNat k.bits))
def shr64 (k : IntKind) (a b : Int) : Int := a.fdiv (2 ^ (min b.toNat k.bits))
theorem b_and (k : IntKind) (a b : Int) : binS .and (.lit (.int k a)) (.lit (.int k b)) = some (.lit (.int k (and64 k a b)), []) := by simp [binS, binLit, and64]
theorem b_or (k : IntKind) (a b : Int) : binS .or (.lit (.int k a)) (.lit (.int k b)) = some (.lit (.int k (or64 k a b)), []) := by simp [binS, binLit, or64]
theorem b_xor (k : IntKind) (a b : Int) : binS .xor (.lit (.int k a)) (.lit (.int k b)) = some (.lit (.int k (xor64 k a b)), []) := by simp [binS, binLit, xor64]
theorem b_andn (k : IntKind) (a b : Int) : binS .andNot (.lit (.int k a)) (.lit (.int k b)) = some (.lit (.int k (andn64 k a b)), []) := by simp [binS, binLit, andn64]
def nn (b : Int) : Bool := decide (0 ≤ b)
theorem b_shl (k k' : IntKind) (a b : Int) : binS .shl (.lit (.int k a)) (.lit (.int k' b)) = br (nn b) (some (.lit (.int k (shl64 k a b)), [])) none := by
  by_cases hb : 0 ≤ b <;> simp [binS, binLit, br, nn, hb, shl64]
theorem b_shr (k k' : IntKind) (a b : Int) : binS .shr (.lit (.int k a)) (.lit (.int k' b)) = br (nn b) (some (.lit (.int k (shr64 k a b)), [])) none := by
  by_cases hb : 0 ≤ b <;> simp [binS, binLit, br, nn, hb, shr64]
theorem b_eql (k : IntKind) (a b : Int) : binS .eql (.lit (.int k a)) (.lit (.int k b)) = some (.lit (.bool (a == b)), []) := by simp [binS, binLit]
theorem b_neq (k : IntKind) (a b : Int) : binS .neq (.lit (.int k a)) (.lit (.int k b)) = some (.lit (.bool (a != b)), []) := by simp [binS, binLit]
theorem b_lss (k : IntKind) (a b : Int) : binS .lss (.lit (.int k a)) (.lit (.int k b)) = some (.lit (.bool (decide (a < b))), []) := by simp [binS, binLit]
theorem b_leq (k : IntKind) (a b : Int) : binS .leq (.lit (.int k a)) (.lit (.int k b)) = some (.lit (.bool (decide (a ≤ b))), []) := by simp [binS, binLit]
theorem b_gtr (k : IntKind) (a b : Int) : binS .gtr (.lit (.int k a)) (.lit (.int k b)) = some (.lit (.bool (decide (a > b))), []) := by simp [binS, binLit]
theorem b_geq (k : IntKind) (a b : Int) : binS .geq (.lit (.int k a)) (.lit (.int k b)) = some (.lit (.bool (decide (a ≥ b))), []) := by simp [binS, binLit]

theorem size_mk (a : List UInt8) : (⟨⟨a⟩⟩ : ByteArray).size = a.length := rfl
theorem toList_loop (d : ByteArray) : ∀ (k i : Nat) (r : List UInt8), d.size - i = k → ByteArray.toList.loop d i r = r.reverse ++ d.data.toList.drop i := by
  intro k
  induction k with
  | zero =>
    intro i r hk
    unfold ByteArray.toList.loop
    have : ¬ i < d.size := by omega
    simp only [this, if_false]
    rw [List.drop_of_length_le]
    · simp
    · show d.data.size ≤ i
      exact (by omega : d.size ≤ i)
  | succ k ih =>
    intro i r hk
    unfold ByteArray.toList.loop
    have hlt : i < d.size := by omega
    simp only [hlt, if_true]
    rw [ih (i + 1) _ (by omega)]
    have hl : i < d.data.toList.length := hlt
    rw [List.drop_eq_getElem_cons hl]
    have h3 : i < d.data.size := hlt
    simp only [ByteArray.get!, getElem!_pos, h3, List.reverse_cons, List.append_assoc, List.singleton_append, Array.getElem_toList]
theorem toList_mk (a : List UInt8) : (⟨⟨a⟩⟩ : ByteArray).toList = a := by
  unfold ByteArray.toList
  rw [toList_loop _ _ 0 [] rfl]
  simp
theorem b_sadd (a b : List UInt8) : binS .add (S a) (S b) = br (fits (a.length + b.length) 1) (some (S (a ++ b), [])) none := by
  have : (⟨⟨a⟩⟩ : ByteArray) ++ ⟨⟨b⟩⟩ = ⟨⟨a ++ b⟩⟩ := by
    apply ByteArray.ext
    simp [ByteArray.data_append]
  by_cases hb : a.length + b.length ≤ okBound <;> simp [binS, binLit, br, fits, hb, size_mk, this]
theorem b_seql (a b : List UInt8) : binS .eql (S a) (S b) = some (.lit (.bool (a == b)), []) := by simp [binS, binLit, toList_mk]
theorem b_sneq (a b : List UInt8) : binS .neq (S a) (S b) = some (.lit (.bool (a != b)), []) := by simp [binS, binLit, toList_mk, bne]

def eqS (neg : Bool) (ks : List Bool) (x y : V) : Option (V × Upd) := match x, y with
  | .agg a, .agg b => match eqCells ks a b with
    | some r => some (.lit (.bool (if neg then !r else r)), [])
    | none => none
  | _, _ => none
theorem o_eqAgg (neg : Bool) (ks : List Bool) (x y : Opd) : opSem C ow (.eqAgg neg ks x y) ev h n = eqS neg ks (ev x) (ev y) := rfl
def eqN (neg : Bool) : Option Bool → Option (V × Upd)
  | some r => some (.lit (.bool (if neg then !r else r)), [])
  | none => none
theorem eqS_agg (neg : Bool) (ks : List Bool) (a b : List V) : eqS neg ks (.agg a) (.agg b) = eqN neg (eqCells ks a b) := by
  unfold eqS eqN; rfl
theorem eqN_t (r : Bool) : eqN true (some r) = some (.lit (.bool !r), []) := rfl
theorem eqN_f (r : Bool) : eqN false (some r) = some (.lit (.bool r), []) := rfl
theorem eqN_br (neg c : Bool) (x y : Option Bool) : eqN neg (br c x y) = br c (eqN neg x) (eqN neg y) := by cases c <;> rfl
theorem eqC_nil : eqCells [] [] [] = some true := rfl
theorem eqC_i (ks : List Bool) (k : IntKind) (a b : Int) (x y : List V) : eqCells (true :: ks) (.lit (.int k a) :: x) (.lit (.int k b) :: y) = br (a == b) (eqCells ks x y) (some false) := by
  by_cases hb : a = b
  · subst hb; simp [eqCells, br_true]
  · have : (a == b) = false := by simpa using hb
    rw [this, br_false]; simp [eqCells, hb]
theorem eqC_s (ks : List Bool) (a b : List UInt8) (x y : List V) : eqCells (false :: ks) (S a :: x) (S b :: y) = br (a == b) (eqCells ks x y) (some false) := by
  by_cases hb : a = b
  · subst hb; simp [eqCells, br_true]
  · have : (a == b) = false := by simpa using hb
    rw [this, br_false]; simp [eqCells, hb]

def beqS (neg : Bool) (x y : V) : Option (V × Upd) := match x, y with
  | .lit (.bool a), .lit (.bool b) => some (.lit (.bool (if neg then a != b else a == b)), [])
  | _, _ => none
theorem o_beq (neg : Bool) (x y : Opd) : opSem C ow (.beq neg x y) ev h n = beqS neg (ev x) (ev y) := rfl
theorem beqS_t (a b : Bool) : beqS true (B a) (B b) = some (.lit (.bool (a != b)), []) := rfl
theorem beqS_f (a b : Bool) : beqS false (B a) (B b) = some (.lit (.bool (a == b)), []) := rfl

def unS (op : UnOp) (x : V) : Option (V × Upd) := match x with
  | .lit a => match unLit op a with
    | some v => some (.lit v, [])
    | none => none
  | _ => none
theorem o_un (op : UnOp) (x : Opd) : opSem C ow (.un op x) ev h n = unS op (ev x) := rfl
theorem u_not (b : Bool) : unS .not (B b) = some (B (!b), []) := rfl
theorem u_neg (k : IntKind) (a : Int) : unS .neg (.lit (.int k a)) = some (.lit (.int k (k.wrap (0 - a))), []) := rfl
def not64 (k : IntKind) (a : Int) : Int := k.wrap (BitVec.ofInt k.bits (if k.signed then -1 else k.max) ^^^ BitVec.ofInt k.bits a).toNat
theorem u_xor (k : IntKind) (a : Int) : unS .xor (.lit (.int k a)) = some (.lit (.int k (not64 k a)), []) := rfl

def tiS (k : IntKind) (x : V) : Option (V × Upd) := match asI x with
  | some m => some (.lit (.int k (k.wrap m)), [])
  | none => none
theorem o_toInt (k : IntKind) (x : Opd) : opSem C ow (.toInt k x) ev h n = tiS k (ev x) := rfl
theorem tiS_i (k k' : IntKind) (m : Int) : tiS k (.lit (.int k' m)) = some (.lit (.int k (k.wrap m)), []) := rfl

def sameS (x : V) : Option (V × Upd) := match x with
  | .lit (.string s) => some (.lit (.string s), [])
  | _ => none
theorem o_same (x : Opd) : opSem C ow (.same x) ev h n = sameS (ev x) := rfl
theorem sameS_s (s : List UInt8) : sameS (S s) = some (S s, []) := rfl

theorem o_makeFunc (f : FuncId) (cs : List Opd) : opSem C ow (.makeFunc f cs) ev h n = some (.fn f (cs.map ev), []) := rfl

def lenS (str : Bool) (x : V) : Option (V × Upd) := match str, x with
  | true, .lit (.string s) => some (.lit (.int .i64 s.size), [])
  | false, .lit (.slice _ n _) => some (.lit (.int .i64 n), [])
  | false, .sl _ _ n => some (.lit (.int .i64 n), [])
  | false, .imm _ rows => some (.lit (.int .i64 rows.length), [])
  | _, _ => none
theorem o_len (str : Bool) (x : Opd) : opSem C ow (.len str x) ev h n = lenS str (ev x) := rfl
theorem lenS_sl : lenS false (sl e l) = some (I (l.length : Nat), []) := by
  rcases sl_or e l with ⟨rfl, h⟩ | ⟨_, h⟩ <;> rw [h] <;> simp [lenS, rws]
theorem lenS_own (b s m : Nat) : lenS false (.sl b s m) = some (I (m : Nat), []) := rfl
theorem lenS_nil : lenS false (.lit (.slice none 0 0)) = some (I (0 : Nat), []) := rfl
theorem lenS_imm : lenS false (.imm 1 []) = some (I (0 : Nat), []) := rfl
theorem lenS_str (s : List UInt8) : lenS true (S s) = some (I (s.length : Nat), []) := rfl
def inS (neg : Bool) (x : V) : Option (V × Upd) := match x with
  | .lit (.slice a _ _) => some (.lit (.bool (if neg then !a.isNone else a.isNone)), [])
  | .imm _ (_ :: _) => some (.lit (.bool neg), [])
  | _ => none
theorem o_isNil (neg : Bool) (x : Opd) : opSem C ow (.isNil neg x) ev h n = inS neg (ev x) := by
  simp only [opSem]; unfold inS; rfl
theorem inS_nil (neg : Bool) (m c : Nat) : inS neg (.lit (.slice none m c)) = some (B (!neg), []) := by cases neg <;> rfl
theorem inS_lit (neg : Bool) (a : Addr) (m c : Nat) : inS neg (.lit (.slice (some a) m c)) = some (B neg, []) := by cases neg <;> rfl
theorem inS_cons (neg : Bool) (e : En α) (x : α) (l : List α) : inS neg (sl e (x :: l)) = some (B neg, []) := rfl
theorem o_lenArr (m : Nat) (x : Opd) : opSem C ow (.lenArr m x) ev h n = some (I (m : Nat), []) := rfl

def extS (x : V) (i : Nat) : Option (V × Upd) := match x with
  | .tup vs => match vs[i]? with
    | some v => some (v, [])
    | none => none
  | _ => none
theorem o_ext (x : Opd) (i : Nat) : opSem C ow (.ext x i) ev h n = extS (ev x) i := rfl
theorem extS_0 (a : V) (r : List V) : extS (.tup (a :: r)) 0 = some (a, []) := rfl
theorem extS_s (a : V) (r : List V) (i : Nat) : extS (.tup (a :: r)) (i + 1) = extS (.tup r) i := rfl

def offS (d : Nat) (x : V) : Option (V × Upd) := match x with
  | .ptr b i o n => some (.ptr b i (o + d) n, [])
  | .iptr r o => some (.iptr r (o + d), [])
  | _ => none
theorem o_off (d : Nat) (x : Opd) : opSem C ow (.off d x) ev h n = offS d (ev x) := rfl
theorem offS_p (d b i o m : Nat) : offS d (.ptr b i o m) = some (.ptr b i (o + d) m, []) := rfl
theorem offS_i (d : Nat) (r : List V) (o : Nat) : offS d (.iptr r o) = some (.iptr r (o + d), []) := rfl

/-! ### parts -/

def ldS : Option V → Option (V × Upd)
  | some v => some (v, [])
  | none => none
theorem ldS_some (v : V) : ldS (some v) = some (v, []) := rfl
theorem ldS_bind {β : Type} (x : Option β) (f : β → Option V) : ldS (x.bind f) = x.bind (fun a => ldS (f a)) := by cases x <;> rfl

theorem part_n0 (a : V) (r : List V) : part none (a :: r) 0 = some a := rfl
theorem part_ns (a : V) (r : List V) (o : Nat) : part none (a :: r) (o + 1) = part none r o := rfl
theorem part_s (m : Nat) (cs : List V) (o : Nat) (hm : (o + m).ble cs.length = true) : part (some m) cs o = some (.agg ((cs.drop o).take m)) := by
  simp only [part]
  rw [if_pos (Nat.le_of_ble_eq_true hm)]

def fieldS (d : Nat) (agg : Option Nat) (x : V) : Option (V × Upd) := match x with
  | .agg cs => match part agg cs d with
    | some v => some (v, [])
    | none => none
  | _ => none
theorem o_field (d : Nat) (agg : Option Nat) (x : Opd) : opSem C ow (.field d agg x) ev h n = fieldS d agg (ev x) := rfl
theorem fieldS_a (d : Nat) (agg : Option Nat) (cs : List V) : fieldS d agg (.agg cs) = ldS (part agg cs d) := rfl

def ixaS (len esz : Nat) (agg : Option Nat) (x i : V) : Option (V × Upd) := match x, asI i with
  | .agg cs, some i => if 0 ≤ i ∧ i.toNat < len then (match part agg cs (i.toNat * esz) with
    | some v => some (v, [])
    | none => none) else none
  | _, _ => none
theorem o_ixAgg (len esz : Nat) (agg : Option Nat) (x i : Opd) : opSem C ow (.ixAgg len esz agg x i) ev h n = ixaS len esz agg (ev x) (ev i) := rfl
theorem ixaS_a (len esz : Nat) (agg : Option Nat) (cs : List V) (k : IntKind) (i : Int) : ixaS len esz agg (.agg cs) (.lit (.int k i)) = br (inb i len) (ldS (part agg cs (i.toNat * esz))) none := by
  unfold inb
  by_cases h1 : 0 ≤ i <;> by_cases h2 : i.toNat < len <;> simp [ixaS, asI, h1, h2, br, ldS]

def rowB (agg : Option Nat) (k : Option Blk) (i o m : Nat) : Option V := match k with
  | some k => if k.rows.length = m then (match k.rows[i]? with
    | some row => part agg row o
    | none => none) else none
  | none => none
theorem o_load (agg : Option Nat) (a : Opd) : opSem C ow (.load agg a) ev h n = ldS (rowOf agg h (ev a)) := rfl
theorem rowOf_p (agg : Option Nat) (b i o m : Nat) : rowOf agg h (.ptr b i o m) = rowB agg (h b) i o m := rfl
theorem rowOf_i (agg : Option Nat) (r : List V) (o : Nat) : rowOf agg h (.iptr r o) = part agg r o := rfl
theorem rowB_op (agg : Option Nat) (m : Nat) (row : List V) (o : Nat) : rowB agg (some ⟨m, true, [row]⟩) 0 o 1 = part agg row o := rfl
theorem rowB_ty (agg : Option Nat) (m : Nat) (op : Bool) (i o q : Nat) (hq : l.length = q) : rowB agg (some ⟨m, op, rws e l⟩) i o q = (l[i]?).bind (fun x => part agg (e.enc x) o) := by
  simp only [rowB, rws, List.length_map, List.getElem?_map]
  rw [if_pos hq]
  cases l[i]? <;> rfl

def idxO (k : Option Blk) (m b s q : Nat) (i : Int) : Option (V × Upd) := match k with
  | some k => if 0 < k.esz ∧ k.esz = m ∧ s + q = k.rows.length ∧ i.toNat < q then some (.ptr b (s + i.toNat) 0 k.rows.length, []) else none
  | none => none
def idxS (m : Nat) (x i : V) (h : Heap) : Option (V × Upd) := match asI i with
  | some i => if 0 ≤ i then (match x with
    | .sl b s q => idxO (h b) m b s q i
    | .imm e rows => if e = m then (match rows[i.toNat]? with
      | some row => some (.iptr row 0, [])
      | none => none) else none
    | _ => none) else none
  | none => none
theorem o_idx (m : Nat) (x i : Opd) : opSem C ow (.idx m x i) ev h n = idxS m (ev x) (ev i) h := by
  simp only [opSem, idxS, idxO]
  cases asI (ev i) with
  | none => rfl
  | some i =>
    dsimp only
    split
    · cases ev x with
      | sl b s q => dsimp only; cases h b <;> rfl
      | _ => rfl
    · rfl
theorem idxS_sl (m : Nat) (hm : e.esz = m) (k : IntKind) (i : Int) : idxS m (sl e l) (.lit (.int k i)) h = (atL l i).bind (fun x => some (.iptr (e.enc x) 0, [])) := by
  subst hm
  unfold atL
  by_cases hi : 0 ≤ i
  · rw [if_pos hi]
    rcases sl_or e l with ⟨rfl, hs⟩ | ⟨_, hs⟩
    · rw [hs]; simp [idxS, asI]
    · rw [hs]
      simp only [idxS, asI, hi, if_true, rws, List.getElem?_map]
      cases l[i.toNat]? <;> rfl
  · rw [if_neg hi]; simp [idxS, asI, hi]
theorem idxS_own (m b s q : Nat) (k : IntKind) (i : Int) : idxS m (.sl b s q) (.lit (.int k i)) h = br (nn i) (idxO (h b) m b s q i) none := by
  unfold nn
  by_cases hi : 0 ≤ i <;> simp [idxS, asI, hi, br]
theorem idxO_ty (m : Nat) (op : Bool) (b q : Nat) (i : Int) (h0 : Nat.blt 0 m = true) (hq : l.length = q) : idxO (some ⟨m, op, rws e l⟩) m b 0 q i = br (decide (i.toNat < q)) (some (.ptr b i.toNat 0 q, [])) none := by
  have h0 : 0 < m := by have := Nat.le_of_ble_eq_true h0; omega
  by_cases hi : i.toNat < q <;> simp [idxO, rws, hq, hi, br, h0]
theorem idxO_op (m : Nat) (b : Nat) (row : List V) (i : Int) : idxO (some ⟨m, true, [row]⟩) m b 0 1 i = br (Nat.blt 0 m && decide (i.toNat < 1)) (some (.ptr b i.toNat 0 1, [])) none := by
  rw [bltD]
  by_cases h0 : 0 < m <;> by_cases hi : i.toNat < 1 <;> simp [idxO, hi, br, h0]

def idxaS (len esz : Nat) (x i : V) : Option (V × Upd) := match asI i with
  | some i => if 0 ≤ i ∧ i.toNat < len then (match x with
    | .ptr b j o n => some (.ptr b j (o + i.toNat * esz) n, [])
    | .iptr r o => some (.iptr r (o + i.toNat * esz), [])
    | _ => none) else none
  | none => none
theorem o_idxArr (len esz : Nat) (x i : Opd) : opSem C ow (.idxArr len esz x i) ev h n = idxaS len esz (ev x) (ev i) := rfl
theorem idxaS_p (len esz b j o m : Nat) (k : IntKind) (i : Int) : idxaS len esz (.ptr b j o m) (.lit (.int k i)) = br (inb i len) (some (.ptr b j (o + i.toNat * esz) m, [])) none := by
  unfold inb
  by_cases h1 : 0 ≤ i <;> by_cases h2 : i.toNat < len <;> simp [idxaS, asI, h1, h2, br]
theorem idxaS_i (len esz : Nat) (r : List V) (o : Nat) (k : IntKind) (i : Int) : idxaS len esz (.iptr r o) (.lit (.int k i)) = br (inb i len) (some (.iptr r (o + i.toNat * esz), [])) none := by
  unfold inb
  by_cases h1 : 0 ≤ i <;> by_cases h2 : i.toNat < len <;> simp [idxaS, asI, h1, h2, br]

def ixsS (x i : V) : Option (V × Upd) := match x, asI i with
  | .lit (.string s), some i => if 0 ≤ i then (match s.data[i.toNat]? with
    | some b => some (.lit (.int .u8 b.toNat), [])
    | none => none) else none
  | _, _ => none
theorem o_ixStr (x i : Opd) : opSem C ow (.ixStr x i) ev h n = ixsS (ev x) (ev i) := rfl
theorem ixsS_s (s : List UInt8) (k : IntKind) (i : Int) : ixsS (S s) (.lit (.int k i)) = (atL s i).bind (fun b => some (.lit (.int .u8 b.toNat), [])) := by
  unfold atL
  by_cases hi : 0 ≤ i
  · simp only [ixsS, asI, hi, if_true]
    have : (⟨⟨s⟩⟩ : ByteArray).data[i.toNat]? = s[i.toNat]? := by simp
    rw [this]
    cases s[i.toNat]? <;> rfl
  · simp [ixsS, asI, hi]

/-! ### new blocks -/

def frO (k : Option Blk) (n : Nat) (b : Blk) (v : V) : Option (V × Upd) := match k with
  | none => br (Nat.blt 0 b.esz) (some (v, [(n, b)])) none
  | some _ => none
theorem fresh_eq (b : Blk) (v : V) : fresh h n b v = frO (h n) n b v := by
  unfold fresh frO
  cases h n with
  | none => rw [bltD]; by_cases hb : 0 < b.esz <;> simp [hb, br]
  | some k => simp
theorem frO_none (b : Blk) (v : V) : frO none n b v = br (Nat.blt 0 b.esz) (some (v, [(n, b)])) none := rfl

theorem o_alloc (zero : List Value) : opSem C ow (.alloc zero) ev h n = br (zero.all litCell) (frO (h n) n ⟨zero.length, true, [zero.map .lit]⟩ (.ptr n 0 0 1)) none := by
  simp only [opSem, fresh_eq]
  cases zero.all litCell <;> rfl
def boxS (size : Nat) (cs : List V) (h : Heap) (n : Nat) : Option (V × Upd) := br (Nat.beq cs.length size && cs.all V.cell) (frO (h n) n ⟨size, true, [cs]⟩ (.ptr n 0 0 1)) none
theorem o_box (size : Nat) (x : Opd) : opSem C ow (.box size x) ev h n = boxS size (ev x).cells h n := by
  simp only [opSem, fresh_eq, boxS, beqD]
  by_cases h1 : (ev x).cells.length = size <;> cases h2 : (ev x).cells.all V.cell <;> simp [h1, br]

def fillS (cells : List V) : List (Nat × Nat × V) → Option (List V)
  | [] => some cells
  | (off, size, v) :: r => br (Nat.beq v.cells.length size && Nat.ble (off + size) cells.length && v.cells.all V.cell) (fillS (cells.take off ++ (v.cells ++ cells.drop (off + size))) r) none
theorem fillC_eq : ∀ (ps : List (Nat × Nat × V)) (cells : List V), fillC cells ps = fillS cells ps
  | [], _ => rfl
  | (off, size, v) :: r, cells => by
    simp only [fillC, fillS, beqD, bleD]
    rw [← fillC_eq r]
    by_cases h1 : v.cells.length = size <;> by_cases h2 : off + size ≤ cells.length <;> cases h3 : v.cells.all V.cell <;> simp [h1, h2, br]
def aggS : Option (List V) → Option (V × Upd)
  | some cs => some (.agg cs, [])
  | none => none
theorem o_build (zero : List Value) (ps : List (Nat × Nat × Opd)) : opSem C ow (.build zero ps) ev h n = br (zero.all litCell) (aggS (fillS (zero.map .lit) (partsEv ev ps))) none := by
  simp only [opSem, fillC_eq, aggS]
  cases zero.all litCell
  · rfl
  · simp only [br_true, if_true]
    cases fillS (zero.map .lit) (partsEv ev ps) <;> rfl
theorem aggS_some (cs : List V) : aggS (some cs) = some (.agg cs, []) := rfl

end
end Go.AI
