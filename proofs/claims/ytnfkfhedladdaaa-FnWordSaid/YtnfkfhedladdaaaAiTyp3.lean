/- The machine's operations on values of Lean's own types: what writes, what makes, what calls; a function's end. -/
import Derived.Test.YtnfkfhedladdaaaAiTyp2
set_option linter.unusedVariables false
set_option linter.unusedSimpArgs false
namespace Go.AI

section
variable {C : CallS} {ow : FuncId → List Nat} {ev : Opd → V} {h : Heap} {n : Nat} {α : Type} {e : En α} {l l2 : List α}

/-! ### cells made to lead nowhere -/

def snO (k : Option Blk) (b s q : Nat) : Option (V × List Nat) := match k with
  | some k => if k.op = false ∧ 0 < k.esz ∧ s + q = k.rows.length then some (.imm k.esz (k.rows.drop s), [b]) else none
  | none => none
theorem snap_own (b s q : Nat) : snap h (.sl b s q) = snO (h b) b s q := rfl
theorem snO_ty (m b q : Nat) (h0 : Nat.blt 0 m = true) (hq : l.length = q) : snO (some ⟨m, false, rws e l⟩) b 0 q = some (.imm m (rws e l), [b]) := by
  rw [bltD, decide_eq_true_eq] at h0
  simp [snO, rws, hq, h0]
theorem snap_int (k : IntKind) (a : Int) : snap h (.lit (.int k a)) = some (.lit (.int k a), []) := rfl
theorem snap_bool (a : Bool) : snap h (.lit (.bool a)) = some (.lit (.bool a), []) := rfl
theorem snap_str (a : List UInt8) : snap h (S a) = some (S a, []) := rfl
theorem snap_nil : snap h (.lit (.slice none 0 0)) = some (.lit (.slice none 0 0), []) := rfl
theorem snap_imm (m : Nat) (r : List (List V)) : snap h (.imm m r) = some (.imm m r, []) := rfl

def snC : Option (V × List Nat) → Option (List V × List Nat) → Option (List V × List Nat)
  | some (a, bs), some (r, bs') => some (a.cz :: r, bs ++ bs')
  | _, _ => none
theorem snaps_nil : snaps h [] = some ([], []) := rfl
theorem snaps_cons (v : V) (r : List V) : snaps h (v :: r) = snC (snap h v) (snaps h r) := by
  simp only [snaps, snC]
  cases snap h v <;> cases snaps h r <;> rfl
theorem snC_some (a : V) (bs : List Nat) (r : List V) (bs' : List Nat) : snC (some (a, bs)) (some (r, bs')) = some (a.cz :: r, bs ++ bs') := rfl

theorem cz_int (k : IntKind) (a : Int) : (V.lit (.int k a)).cz = .lit (.int k a) := rfl
theorem cz_bool (a : Bool) : (V.lit (.bool a)).cz = .lit (.bool a) := rfl
theorem cz_str (a : List UInt8) : (S a).cz = S a := rfl
theorem cz_tup (a : Array Value) : (V.lit (.tuple a)).cz = .lit (.tuple a) := rfl
theorem cz_nil : (V.lit (.slice none 0 0)).cz = .imm 1 [] := rfl
theorem cz_emp (m : Nat) : (V.imm m []).cz = .imm 1 [] := rfl
theorem cz_ptr (b i o m : Nat) : (V.ptr b i o m).cz = .ptr b i o m := rfl
theorem cz_own (b s q : Nat) : (V.sl b s q).cz = .sl b s q := rfl
theorem cz_iptr (r : List V) (o : Nat) : (V.iptr r o).cz = .iptr r o := rfl
theorem cz_fn (f : FuncId) (cs : List V) : (V.fn f cs).cz = .fn f cs := rfl
theorem cz_undef : V.undef.cz = .undef := rfl
theorem czA_agg (cs : List V) : (V.agg cs).czA = .agg (cs.map V.cz) := rfl
theorem czA_int (k : IntKind) (a : Int) : (V.lit (.int k a)).czA = .lit (.int k a) := rfl
theorem czA_bool (a : Bool) : (V.lit (.bool a)).czA = .lit (.bool a) := rfl
theorem czA_str (a : List UInt8) : (S a).czA = S a := rfl
theorem czA_nil : (V.lit (.slice none 0 0)).czA = .imm 1 [] := rfl
theorem czA_imm (m : Nat) (r : List (List V)) : (V.imm m r).czA = (V.imm m r).cz := rfl
theorem czA_ptr (b i o m : Nat) : (V.ptr b i o m).czA = .ptr b i o m := rfl
theorem czA_own (b s q : Nat) : (V.sl b s q).czA = .sl b s q := rfl
theorem czA_iptr (r : List V) (o : Nat) : (V.iptr r o).czA = .iptr r o := rfl
theorem czA_fn (f : FuncId) (cs : List V) : (V.fn f cs).czA = .fn f cs := rfl
theorem czA_undef : V.undef.czA = .undef := rfl
theorem czR_tup (cs : List V) : (V.tup cs).czR = .tup (cs.map V.czA) := rfl
theorem czR_agg (cs : List V) : (V.agg cs).czR = .agg (cs.map V.cz) := rfl
theorem czR_int (k : IntKind) (a : Int) : (V.lit (.int k a)).czR = .lit (.int k a) := rfl
theorem czR_bool (a : Bool) : (V.lit (.bool a)).czR = .lit (.bool a) := rfl
theorem czR_str (a : List UInt8) : (S a).czR = S a := rfl
theorem czR_nil : (V.lit (.slice none 0 0)).czR = .imm 1 [] := rfl
theorem czR_imm (m : Nat) (r : List (List V)) : (V.imm m r).czR = (V.imm m r).cz := rfl
theorem czR_ptr (b i o m : Nat) : (V.ptr b i o m).czR = .ptr b i o m := rfl
theorem czR_own (b s q : Nat) : (V.sl b s q).czR = .sl b s q := rfl
theorem czR_iptr (r : List V) (o : Nat) : (V.iptr r o).czR = .iptr r o := rfl
theorem czR_fn (f : FuncId) (cs : List V) : (V.fn f cs).czR = .fn f cs := rfl
theorem blkcz_op (m : Nat) (row : List V) : Blk.cz ⟨m, true, [row]⟩ = ⟨m, true, [row.map V.cz]⟩ := rfl
theorem blkcz_ty (m : Nat) (r : List (List V)) : Blk.cz ⟨m, false, r⟩ = ⟨m, false, r⟩ := rfl
theorem zc_int (k : IntKind) (a : Int) : zc (.int k a) = .lit (.int k a) := rfl
theorem zc_bool (a : Bool) : zc (.bool a) = .lit (.bool a) := rfl
theorem zc_str (a : List UInt8) : zc (.string ⟨⟨a⟩⟩) = S a := rfl
theorem zc_nil : zc (.slice none 0 0) = .imm 1 [] := rfl

/-! ### stores -/

def stO (k : Option Blk) (b size i o m : Nat) (x : V) (h : Heap) : Option (V × Upd) := match k with
  | some k => if k.rows.length = m then (match k.rows[i]? with
    | some row =>
      if k.op then
        (if x.cells.length = size ∧ o + size ≤ row.length ∧ x.cells.all V.cell then
          some (.undef, [(b, { k with rows := k.rows.set i (row.take o ++ (x.cells ++ row.drop (o + size))) })]) else none)
      else match snaps h x.cells with
        | some (cs, bs) => if cs.length = size ∧ o + size ≤ row.length ∧ ¬ b ∈ bs then
            some (.undef, dropB bs ++ [(b, { k with rows := k.rows.set i (row.take o ++ (cs ++ row.drop (o + size))) })]) else none
        | none => none
    | none => none) else none
  | none => none
def storeS (size : Nat) (a x : V) (h : Heap) : Option (V × Upd) := match a with
  | .ptr b i o m => stO (h b) b size i o m x h
  | _ => none
theorem o_store (size : Nat) (a x : Opd) : opSem C ow (.store size a x) ev h n = storeS size (ev a) (ev x) h := by
  simp only [opSem, storeS, stO]
  cases ev a with
  | ptr b i o m => dsimp only; cases h b <;> rfl
  | _ => rfl
theorem storeS_p (size b i o m : Nat) (x : V) : storeS size (.ptr b i o m) x h = stO (h b) b size i o m x h := rfl
theorem stO_op (m b size o : Nat) (row : List V) (x : V) : stO (some ⟨m, true, [row]⟩) b size 0 o 1 x h =
    br (Nat.beq x.cells.length size && (Nat.ble (o + size) row.length && x.cells.all V.cell)) (some (.undef, [(b, ⟨m, true, [row.take o ++ (x.cells ++ row.drop (o + size))]⟩)])) none := by
  rw [beqD, bleD]
  by_cases h1 : x.cells.length = size <;> by_cases h2 : o + size ≤ row.length <;> cases h3 : x.cells.all V.cell <;> simp [stO, h1, h2, h3, br]
def stT (r : List (List V)) (m b size i o : Nat) (row : List V) : Option (List V × List Nat) → Option (V × Upd)
  | some (cs, bs) => br (Nat.beq cs.length size && (Nat.ble (o + size) row.length && !bs.contains b)) (some (.undef, dropB bs ++ [(b, ⟨m, false, setR r i (row.take o ++ (cs ++ row.drop (o + size)))⟩)])) none
  | none => none
theorem stT_some (r : List (List V)) (m b size i o : Nat) (row cs : List V) (bs : List Nat) : stT r m b size i o row (some (cs, bs)) =
    br (Nat.beq cs.length size && (Nat.ble (o + size) row.length && !bs.contains b)) (some (.undef, dropB bs ++ [(b, ⟨m, false, setR r i (row.take o ++ (cs ++ row.drop (o + size)))⟩)])) none := rfl
theorem stO_ty (m b size i o q : Nat) (x : V) (hq : l.length = q) : stO (some ⟨m, false, rws e l⟩) b size i o q x h = (l[i]?).bind (fun y => stT (rws e l) m b size i o (e.enc y) (snaps h x.cells)) := by
  simp only [stO]
  have : (rws e l).length = q := by simp [rws, hq]
  rw [if_pos this]
  have h2 : (rws e l)[i]? = (l[i]?).map e.enc := by simp [rws]
  rw [h2]
  cases hl : l[i]? with
  | none => rfl
  | some y =>
    simp only [Option.map_some, Option.bind_some]
    cases hs : snaps h x.cells with
    | none => simp [stT]
    | some p =>
      obtain ⟨cs, bs⟩ := p
      rw [stT_some, beqD, bleD]
      by_cases h1 : cs.length = size <;> by_cases h2 : o + size ≤ (e.enc y).length <;> by_cases h3 : b ∈ bs <;> simp [h1, h2, h3, br, setR]

/-! ### new slices -/

def psC (i : Nat) : Option (List V × List Nat) → Option (List (Nat × V) × List Nat) → Option (List (Nat × V) × List Nat)
  | some (cs, bs), some (r', bs') => some ((i, .agg cs) :: r', bs ++ bs')
  | _, _ => none
theorem partsSnap_nil : partsSnap h ev [] = some ([], []) := rfl
theorem partsSnap_cons (i : Nat) (x : Opd) (r : List (Nat × Opd)) : partsSnap h ev ((i, x) :: r) = psC i (snaps h (ev x).cells) (partsSnap h ev r) := by
  simp only [partsSnap, psC]
  cases snaps h (ev x).cells <;> cases partsSnap h ev r <;> rfl
theorem psC_some (i : Nat) (cs : List V) (bs : List Nat) (r : List (Nat × V)) (bs' : List Nat) : psC i (some (cs, bs)) (some (r, bs')) = some ((i, .agg cs) :: r, bs ++ bs') := rfl

def fillT (esz : Nat) (rows : List (List V)) : List (Nat × V) → Option (List (List V))
  | [] => some rows
  | (i, v) :: r => br (Nat.beq v.cells.length esz && (Nat.blt i rows.length && v.cells.all V.cell)) (fillT esz (rows.set i v.cells) r) none
theorem fillR_eq (esz : Nat) : ∀ (ps : List (Nat × V)) (rows : List (List V)), fillR esz rows ps = fillT esz rows ps
  | [], _ => rfl
  | (i, v) :: r, rows => by
    simp only [fillR, fillT, beqD, bltD]
    rw [← fillR_eq esz r]
    by_cases h1 : v.cells.length = esz <;> by_cases h2 : i < rows.length <;> cases h3 : v.cells.all V.cell <;> simp [h1, h2, br]
def addU (u0 : Upd) : Option (V × Upd) → Option (V × Upd)
  | some (v, u) => some (v, u0 ++ u)
  | none => none
theorem addU_some (u0 u : Upd) (v : V) : addU u0 (some (v, u)) = some (v, u0 ++ u) := rfl
theorem addU_br (u0 : Upd) (c : Bool) (x y : Option (V × Upd)) : addU u0 (br c x y) = br c (addU u0 x) (addU u0 y) := by cases c <;> rfl
theorem addU_none (u0 : Upd) : addU u0 none = none := rfl
def bsR (esz len : Nat) (zero : List Value) (bs : List Nat) (h : Heap) (n : Nat) : Option (List (List V)) → Option (V × Upd)
  | some rows => br (Nat.beq zero.length esz && (zero.all litCell && (Nat.ble (len * esz) 16777216 && !bs.contains n))) (addU (dropB bs) (frO (h n) n ⟨esz, false, mkR n rows⟩ (.sl n 0 len))) none
  | none => none
def bsS (esz len : Nat) (zero : List Value) (h : Heap) (n : Nat) : Option (List (Nat × V) × List Nat) → Option (V × Upd)
  | some (ps, bs) => bsR esz len zero bs h n (fillT esz (List.replicate len (zero.map zc)) ps)
  | none => none
theorem o_buildSlice (esz len : Nat) (zero : List Value) (ps : List (Nat × Opd)) : opSem C ow (.buildSlice esz zero len ps) ev h n = bsS esz len zero h n (partsSnap h ev ps) := by
  simp only [opSem, bsS, fillR_eq, fresh_eq]
  cases partsSnap h ev ps with
  | none => rfl
  | some p =>
    obtain ⟨qs, bs⟩ := p
    dsimp only
    cases fillT esz (List.replicate len (zero.map zc)) qs with
    | none => rfl
    | some rows =>
      simp only [bsR, beqD, bleD, mkR]
      by_cases h1 : zero.length = esz <;> cases h2 : zero.all litCell <;> by_cases h3 : len * esz ≤ 16777216 <;> by_cases h4 : n ∈ bs <;> simp [h1, h3, h4, br]
      cases frO (h n) n ⟨esz, false, rows⟩ (.sl n 0 len) <;> rfl
theorem bsS_some (esz len : Nat) (zero : List Value) (ps : List (Nat × V)) (bs : List Nat) : bsS esz len zero h n (some (ps, bs)) = bsR esz len zero bs h n (fillT esz (List.replicate len (zero.map zc)) ps) := rfl
theorem bsR_some (esz len : Nat) (zero : List Value) (bs : List Nat) (rows : List (List V)) : bsR esz len zero bs h n (some rows) = br (Nat.beq zero.length esz && (zero.all litCell && (Nat.ble (len * esz) 16777216 && !bs.contains n))) (addU (dropB bs) (frO (h n) n ⟨esz, false, mkR n rows⟩ (.sl n 0 len))) none := rfl

def tbS (x : V) (h : Heap) (n : Nat) : Option (V × Upd) := match x with
  | .lit (.string s) => if s.size ≤ okBound then fresh h n ⟨1, false, s.data.toList.map fun b => [.lit (.int .u8 b.toNat)]⟩ (.sl n 0 s.size) else none
  | _ => none
theorem o_toBytes (x : Opd) : opSem C ow (.toBytes x) ev h n = tbS (ev x) h n := rfl
theorem tbS_s (s : List UInt8) : tbS (S s) h n = br (fits s.length 1) (frO (h n) n ⟨1, false, rws eU8 s⟩ (.sl n 0 s.length)) none := by
  simp only [tbS, size_mk, fits, Nat.mul_one, fresh_eq]
  by_cases h1 : s.length ≤ okBound <;> simp [h1, br]
  rfl

def boS (x : V) (h : Heap) : Option (V × Upd) := match x with
  | .sl b s n => match h b with
    | some k => if k.op = false ∧ 0 < k.esz ∧ s + n = k.rows.length ∧ 0 < n then some (.sl b s n, [(b, k)]) else none
    | none => none
  | _ => none
theorem o_bytesOwn (x : Opd) : opSem C ow (.bytesOwn x) ev h n = boS (ev x) h := rfl
def boO (k : Option Blk) (b s n : Nat) : Option (V × Upd) := match k with
  | some k => if k.op = false ∧ 0 < k.esz ∧ s + n = k.rows.length ∧ 0 < n then some (.sl b s n, [(b, k)]) else none
  | none => none
theorem boS_own (b s q : Nat) : boS (.sl b s q) h = boO (h b) b s q := rfl
theorem boO_ty (b m q : Nat) (h0 : Nat.blt 0 m = true) (hq : l.length = q) : boO (some ⟨m, false, rws e l⟩) b 0 q = br (decide (0 < q)) (some (.sl b 0 q, [(b, ⟨m, false, rws e l⟩)])) none := by
  rw [bltD, decide_eq_true_eq] at h0
  by_cases h1 : 0 < q <;> simp [boO, rws, hq, h0, h1, br]

theorem bytesOf_rws (l : List UInt8) : opSem.bytesOf (rws eU8 l) = some l := by
  induction l with
  | nil => rfl
  | cons b l ih =>
    simp only [rws, List.map_cons, eU8] at ih ⊢
    simp only [opSem.bytesOf]
    have h1 : (0 : Int) ≤ (b.toNat : Int) ∧ (b.toNat : Int) < 256 := ⟨by omega, by have := b.toNat_lt; omega⟩
    rw [if_pos h1, ih]
    simp
def tsR : Option (List (List V)) → Option (V × Upd)
  | some rows => match opSem.bytesOf rows with
    | some l => some (.lit (.string ⟨l.toArray⟩), [])
    | none => none
  | none => none
def tsS (x : V) (h : Heap) : Option (V × Upd) := br (isStr x) none (tsR (rowsOf h 1 x))
theorem o_toStr (x : Opd) : opSem C ow (.toStr x) ev h n = tsS (ev x) h := by
  simp only [opSem, tsS, tsR]
  cases isStr (ev x)
  · simp only [Bool.false_eq_true, if_false, br_false]
    cases rowsOf h 1 (ev x) <;> rfl
  · rfl
theorem tsR_ty (l : List UInt8) : tsR (some (rws eU8 l)) = some (S l, []) := by
  simp only [tsR, bytesOf_rws]
theorem tsS_sl (l : List UInt8) : tsS (sl eU8 l) h = some (S l, []) := by
  rw [tsS, sl_isStr, br_false, sl_rowsOf 1 rfl, tsR_ty]
def roO (k : Option Blk) (m s q : Nat) : Option (List (List V)) := match k with
  | some k => if k.op = false ∧ 0 < k.esz ∧ k.esz = m ∧ s + q = k.rows.length then some (k.rows.drop s) else none
  | none => none
theorem rowsOf_own (m b s q : Nat) : rowsOf h m (.sl b s q) = roO (h b) m s q := rfl
theorem roO_ty (m q : Nat) (h0 : Nat.blt 0 m = true) (hq : l.length = q) : roO (some ⟨m, false, rws e l⟩) m 0 q = some (rws e l) := by
  rw [bltD, decide_eq_true_eq] at h0
  simp [roO, rws, hq, h0]
theorem rowsOf_str (s : List UInt8) : rowsOf h 1 (S s) = some (rws eU8 s) := rfl
theorem tsS_own (b s q : Nat) : tsS (.sl b s q) h = tsR (roO (h b) 1 s q) := rfl
theorem tsS_nil : tsS (.lit (.slice none 0 0)) h = some (S [], []) := rfl
theorem tsS_emp : tsS (.imm 1 []) h = some (S [], []) := rfl

def mksS (esz bytes : Nat) (zero : List Value) (len cap : V) (h : Heap) (n : Nat) : Option (V × Upd) := match asI len, asI cap with
  | some l, some c => if 0 ≤ l ∧ l ≤ c ∧ c * bytes ≤ okBound ∧ c * esz ≤ okBound ∧ zero.length = esz ∧ zero.all litCell then
      fresh h n ⟨esz, false, List.replicate l.toNat (zero.map zc)⟩ (.sl n 0 l.toNat) else none
  | _, _ => none
theorem o_makeSlice (esz bytes : Nat) (zero : List Value) (len cap : Opd) : opSem C ow (.makeSlice esz bytes zero len cap) ev h n = mksS esz bytes zero (ev len) (ev cap) h n := rfl
theorem mksS_i (esz bytes : Nat) (zero : List Value) (k k' : IntKind) (a c : Int) (hb : Nat.ble esz bytes = true) (hz : Nat.beq zero.length esz = true) (hz2 : zero.all litCell = true) :
    mksS esz bytes zero (.lit (.int k a)) (.lit (.int k' c)) h n = br (mkOK a c bytes) (frO (h n) n ⟨esz, false, repR n a.toNat (zero.map zc)⟩ (.sl n 0 (nrows (repR n a.toNat (zero.map zc))))) none := by
  have hz3 := Nat.eq_of_beq_eq_true hz
  have hb2 := Nat.le_of_ble_eq_true hb
  simp only [mksS, asI, mkOK, hz3, hz2, fresh_eq, repR, nrows, List.length_replicate]
  by_cases h1 : 0 ≤ a <;> by_cases h2 : a ≤ c <;> by_cases h3 : c * bytes ≤ okBound <;> simp [h1, h2, h3, br]
  intro h4
  exfalso
  have : c * esz ≤ c * bytes := Int.mul_le_mul_of_nonneg_left (by omega) (by omega)
  omega

/-! ### parts of slices -/

def slS (esz : Nat) (x : V) (lo hi mx : Option V) (h : Heap) : Option (V × Upd) := match mx with
  | some _ => none
  | none => match x with
    | .lit (.slice none 0 0) => match boundOf hi 0 0 with
      | some q => match boundOf lo 0 q with
        | some _ => some (.lit (.slice none 0 0), [])
        | none => none
      | none => none
    | .sl b s n => match h b with
      | some k => if k.op = false ∧ 0 < k.esz ∧ k.esz = esz ∧ s + n = k.rows.length then (match boundOf hi n n with
        | some q => match boundOf lo 0 q with
          | some p => if q = n then some (.sl b (s + p) (n - p), []) else some ((V.imm esz (((k.rows.drop s).take q).drop p)).cz, [(b, dead)])
          | none => none
        | none => none) else none
      | none => none
    | .imm e rows => if e = esz ∨ rows = [] then (match boundOf hi rows.length rows.length with
        | some q => match boundOf lo 0 q with
          | some p => some ((V.imm e ((rows.take q).drop p)).cz, [])
          | none => none
        | none => none) else none
    | _ => none
theorem o_slice (esz : Nat) (x : Opd) (lo hi : Option Opd) : opSem C ow (.slice esz x lo hi none) ev h n = slS esz (ev x) (lo.map ev) (hi.map ev) none h := rfl

theorem bnd_none (d m : Nat) : boundOf none d m = some d := rfl
theorem bnd_int (k : IntKind) (i : Int) (d m : Nat) : boundOf (some (.lit (.int k i))) d m = if 0 ≤ i ∧ i ≤ m then some i.toNat else none := rfl

theorem sub_imm (m : Nat) (hm : e.esz = m) (lo hi : Option V) : slS m (sl e l) lo hi none h = (match boundOf hi l.length l.length with
    | some q => match boundOf lo 0 q with
      | some p => some (sl e ((l.take q).drop p), [])
      | none => none
    | none => none) := by
  subst hm
  rcases sl_or e l with ⟨rfl, hs⟩ | ⟨hne, hs⟩
  · rw [hs]
    simp only [slS, List.length_nil, or_true, if_true]
    cases boundOf hi 0 0 with
    | none => rfl
    | some q => cases boundOf lo 0 q <;> simp [sl_nil, V.cz]
  · rw [hs]
    simp only [slS, true_or, if_true, rws, List.length_map]
    cases boundOf hi l.length l.length with
    | none => rfl
    | some q => cases boundOf lo 0 q <;> simp [sl, rws, ← List.map_take, ← List.map_drop]

theorem slS_nn (m : Nat) (hm : e.esz = m) : slS m (sl e l) none none none h = some (sl e l, []) := by
  rw [sub_imm m hm]; simp [bnd_none]
theorem slS_sn (m : Nat) (hm : e.esz = m) (k : IntKind) (a : Int) : slS m (sl e l) (some (.lit (.int k a))) none none h = (subL l a l.length).bind (fun l' => some (sl e l', [])) := by
  rw [sub_imm m hm]
  simp only [bnd_none, bnd_int, subL]
  by_cases h1 : 0 ≤ a <;> by_cases h2 : a ≤ (l.length : Int) <;> simp [h1, h2]
theorem slS_ns (m : Nat) (hm : e.esz = m) (k : IntKind) (b : Int) : slS m (sl e l) none (some (.lit (.int k b))) none h = (subL l 0 b).bind (fun l' => some (sl e l', [])) := by
  rw [sub_imm m hm]
  simp only [bnd_none, bnd_int, subL]
  by_cases h1 : 0 ≤ b <;> by_cases h2 : b ≤ (l.length : Int) <;> simp [h1, h2]
theorem slS_ss (m : Nat) (hm : e.esz = m) (k k' : IntKind) (a b : Int) : slS m (sl e l) (some (.lit (.int k a))) (some (.lit (.int k' b))) none h = (subL l a b).bind (fun l' => some (sl e l', [])) := by
  rw [sub_imm m hm]
  simp only [bnd_int, subL]
  by_cases h1 : 0 ≤ b <;> by_cases h2 : b ≤ (l.length : Int) <;> by_cases h3 : 0 ≤ a <;> by_cases h4 : a ≤ b
  all_goals (have e1 : ((b.toNat : Nat) : Int) = b ∨ ¬ 0 ≤ b := by omega)
  all_goals (rcases e1 with e1 | e1)
  all_goals (first | omega | (simp [h1, h2, h3, h4, e1]; try omega))
def slO (k : Option Blk) (m b s q : Nat) (a : Int) : Option (V × Upd) := match k with
  | some k => if k.op = false ∧ 0 < k.esz ∧ k.esz = m ∧ s + q = k.rows.length then (if 0 ≤ a ∧ a ≤ q then some (.sl b (s + a.toNat) (q - a.toNat), []) else none) else none
  | none => none
theorem slS_own (m b s q : Nat) (k : IntKind) (a : Int) : slS m (.sl b s q) (some (.lit (.int k a))) none none h = slO (h b) m b s q a := by
  simp only [slS, slO, bnd_none, bnd_int]
  cases h b with
  | none => rfl
  | some k => 
    dsimp only
    split
    · by_cases hc : 0 ≤ a ∧ a ≤ (q : Int)
      · rw [if_pos hc, if_pos hc]; simp
      · rw [if_neg hc, if_neg hc]
    · rfl
theorem slO_ty (m b s q : Nat) (a : Int) (h0 : Nat.blt 0 m = true) (hq : s + q = l.length) : slO (some ⟨m, false, rws e l⟩) m b s q a = br (decide (0 ≤ a) && decide (a ≤ q)) (some (.sl b (s + a.toNat) (q - a.toNat), [])) none := by
  rw [bltD, decide_eq_true_eq] at h0
  by_cases h1 : 0 ≤ a <;> by_cases h2 : a ≤ (q : Int) <;> simp [slO, rws, hq, h0, h1, h2, br]

def ssS (x : V) (lo hi : Option V) : Option (V × Upd) := match x with
  | .lit (.string s) => match boundOf hi s.size s.size with
    | some b => match boundOf lo 0 b with
      | some a => some (.lit (.string (s.extract a b)), [])
      | none => none
    | none => none
  | _ => none
theorem o_sliceStr (x : Opd) (lo hi : Option Opd) : opSem C ow (.sliceStr x lo hi) ev h n = ssS (ev x) (lo.map ev) (hi.map ev) := rfl
theorem extract_mk (s : List UInt8) (a b : Nat) : (⟨⟨s⟩⟩ : ByteArray).extract a b = ⟨⟨(s.take b).drop a⟩⟩ := by
  apply ByteArray.ext
  rw [ByteArray.data_extract]
  apply Array.ext'
  simp [List.extract_eq_take_drop, List.drop_take]
theorem sub_str (s : List UInt8) (lo hi : Option V) : ssS (S s) lo hi = (match boundOf hi s.length s.length with
    | some q => match boundOf lo 0 q with
      | some p => some (S ((s.take q).drop p), [])
      | none => none
    | none => none) := by
  simp only [ssS, size_mk, extract_mk]
theorem ssS_nn (s : List UInt8) : ssS (S s) none none = some (S s, []) := by rw [sub_str]; simp [bnd_none]
theorem ssS_sn (s : List UInt8) (k : IntKind) (a : Int) : ssS (S s) (some (.lit (.int k a))) none = (subL s a s.length).bind (fun l' => some (S l', [])) := by
  rw [sub_str]
  simp only [bnd_none, bnd_int, subL]
  by_cases h1 : 0 ≤ a <;> by_cases h2 : a ≤ (s.length : Int) <;> simp [h1, h2]
theorem ssS_ns (s : List UInt8) (k : IntKind) (b : Int) : ssS (S s) none (some (.lit (.int k b))) = (subL s 0 b).bind (fun l' => some (S l', [])) := by
  rw [sub_str]
  simp only [bnd_none, bnd_int, subL]
  by_cases h1 : 0 ≤ b <;> by_cases h2 : b ≤ (s.length : Int) <;> simp [h1, h2]
theorem ssS_ss (s : List UInt8) (k k' : IntKind) (a b : Int) : ssS (S s) (some (.lit (.int k a))) (some (.lit (.int k' b))) = (subL s a b).bind (fun l' => some (S l', [])) := by
  rw [sub_str]
  simp only [bnd_int, subL]
  by_cases h1 : 0 ≤ b <;> by_cases h2 : b ≤ (s.length : Int) <;> by_cases h3 : 0 ≤ a <;> by_cases h4 : a ≤ b
  all_goals (have e1 : ((b.toNat : Nat) : Int) = b ∨ ¬ 0 ≤ b := by omega)
  all_goals (rcases e1 with e1 | e1)
  all_goals (first | omega | (simp [h1, h2, h3, h4, e1]; try omega))

/-! ### append and copy -/

def apS (esz bytes : Nat) (zero : List Value) (x y : V) (h : Heap) (n : Nat) : Option (List (List V)) → Option (V × Upd)
  | none => none
  | some new_ => if zero.length = esz ∧ 0 < esz ∧ new_.length * bytes ≤ okBound ∧ new_.length * esz ≤ okBound then
      (match x with
      | .sl b 0 n => match h b with
        | some k => if k.op = false ∧ 0 < k.esz ∧ k.esz = esz ∧ n = k.rows.length ∧ (n + new_.length) * bytes ≤ okBound ∧ (n + new_.length) * esz ≤ okBound ∧ opSem.selfOk b y then
            some (.sl b 0 (n + new_.length), [(b, { k with rows := k.rows ++ new_ })]) else none
        | none => none
      | .lit (.slice none 0 0) => fresh h n ⟨esz, false, new_⟩ (.sl n 0 new_.length)
      | .imm 0 [] => fresh h n ⟨esz, false, new_⟩ (.sl n 0 new_.length)
      | _ => none) else none
theorem o_append (esz bytes : Nat) (zero : List Value) (x y : Opd) : opSem C ow (.append esz bytes zero x y) ev h n = apS esz bytes zero (ev x) (ev y) h n (rowsOf h esz (ev y)) := by
  simp only [opSem]
  cases rowsOf h esz (ev y) with
  | none => rfl
  | some r => rfl
def selfB (b : Nat) (y : V) : Bool := opSem.selfOk b y
theorem selfB_sl (b : Nat) : selfB b (sl e l) = true := by
  rcases sl_or e l with ⟨_, h⟩ | ⟨_, h⟩ <;> rw [h] <;> rfl
theorem selfB_own (b b' s q : Nat) : selfB b (.sl b' s q) = (b != b') := rfl
theorem selfB_str (b : Nat) (s : List UInt8) : selfB b (S s) = true := rfl
theorem selfB_nil (b : Nat) : selfB b (.lit (.slice none 0 0)) = true := rfl
theorem selfB_imm (b m : Nat) (r : List (List V)) : selfB b (.imm m r) = true := rfl
def apO (k : Option Blk) (esz bytes : Nat) (zero : List Value) (b q : Nat) (sb : Bool) (new_ : List (List V)) : Option (V × Upd) := match k with
  | some k => if zero.length = esz ∧ 0 < esz ∧ new_.length * bytes ≤ okBound ∧ new_.length * esz ≤ okBound then
      (if k.op = false ∧ 0 < k.esz ∧ k.esz = esz ∧ q = k.rows.length ∧ (q + new_.length) * bytes ≤ okBound ∧ (q + new_.length) * esz ≤ okBound ∧ sb = true then
            some (.sl b 0 (q + new_.length), [(b, { k with rows := k.rows ++ new_ })]) else none) else none
  | none => none
theorem apS_own (esz bytes : Nat) (zero : List Value) (b q : Nat) (y : V) (new_ : List (List V)) : apS esz bytes zero (.sl b 0 q) y h n (some new_) = apO (h b) esz bytes zero b q (selfB b y) new_ := by
  simp only [apS, apO, selfB]
  cases h b with
  | none => simp
  | some k => rfl
theorem apO_ty (m bytes : Nat) (zero : List Value) (b q : Nat) (sb : Bool) (hz : Nat.beq zero.length m = true) (h0 : Nat.blt 0 m = true) (hb : Nat.ble m bytes = true) (hq : l.length = q) (hs : sb = true) :
    apO (some ⟨m, false, rws e l⟩) m bytes zero b q sb (rws e l2) = br (fits (l ++ l2).length bytes) (some (.sl b 0 (l ++ l2).length, [(b, ⟨m, false, rws e (l ++ l2)⟩)])) none := by
  have hz3 := Nat.eq_of_beq_eq_true hz
  have hb2 := Nat.le_of_ble_eq_true hb
  rw [bltD, decide_eq_true_eq] at h0
  subst hs hq
  simp only [apO, fits, rws, List.length_map, List.length_append, List.map_append]
  have e1 : (l.length + l2.length) * m ≤ (l.length + l2.length) * bytes := Nat.mul_le_mul_left _ hb2
  have e2 : l2.length * bytes ≤ (l.length + l2.length) * bytes := Nat.mul_le_mul_right _ (by omega)
  have e3 : l2.length * m ≤ l2.length * bytes := Nat.mul_le_mul_left _ hb2
  by_cases hf : (l.length + l2.length) * bytes ≤ okBound
  · rw [if_pos ⟨hz3, h0, by omega, by omega⟩, if_pos ⟨by trivial, h0, by trivial, by trivial, hf, by omega, by trivial⟩, decide_eq_true hf, br_true]
  · rw [decide_eq_false hf, br_false]
    split
    · rw [if_neg (fun hc => hf hc.2.2.2.2.1)]
    · rfl
theorem apS_nil (m bytes : Nat) (zero : List Value) (y : V) (hz : Nat.beq zero.length m = true) (h0 : Nat.blt 0 m = true) (hb : Nat.ble m bytes = true) :
    apS m bytes zero (.lit (.slice none 0 0)) y h n (some (rws e l2)) = br (fits l2.length bytes) (frO (h n) n ⟨m, false, rws e l2⟩ (.sl n 0 l2.length)) none := by
  have hz3 := Nat.eq_of_beq_eq_true hz
  have hb2 := Nat.le_of_ble_eq_true hb
  rw [bltD, decide_eq_true_eq] at h0
  simp only [apS, fits, fresh_eq]
  have hl : (rws e l2).length = l2.length := by simp [rws]
  rw [hl]
  have e3 : l2.length * m ≤ l2.length * bytes := Nat.mul_le_mul_left _ hb2
  by_cases hf : l2.length * bytes ≤ okBound
  · rw [if_pos ⟨hz3, h0, hf, by omega⟩, decide_eq_true hf, br_true]
  · rw [decide_eq_false hf, br_false, if_neg (fun hc => hf hc.2.2.1)]

def copyL (l : List α) (s : Nat) (k : Nat) (l2 : List α) : List α := l.take s ++ (l2.take k ++ l.drop (s + k))
def apNS (esz bytes : Nat) (zero : List Value) (x y : V) (h : Heap) (n : Nat) : Option (V × Upd) := match asI y with
  | some l => if 0 ≤ l ∧ l ≤ 1099511627776 ∧ l * bytes ≤ 1099511627776 ∧ zero.all litCell then apBody esz bytes zero x (fun _ => true) h n (List.replicate l.toNat (zero.map zc)) else none
  | none => none
theorem o_appendN (esz bytes : Nat) (zero : List Value) (x y : Opd) : opSem C ow (.appendN esz bytes zero x y) ev h n = apNS esz bytes zero (ev x) (ev y) h n := rfl
theorem apNS_own (m bytes : Nat) (zero : List Value) (b q : Nat) (k : IntKind) (a : Int) (hz2 : zero.all litCell = true) :
    apNS m bytes zero (.sl b 0 q) (.lit (.int k a)) h n = br (mkOK a a bytes && decide (a ≤ 1099511627776)) (apO (h b) m bytes zero b q true (repR n a.toNat (zero.map zc))) none := by
  simp only [apNS, asI, mkOK, hz2, repR, okBound]
  by_cases h1 : 0 ≤ a <;> by_cases h2 : a * bytes ≤ 1099511627776 <;> by_cases h3 : a ≤ 1099511627776 <;> simp [h1, h2, h3, br]
  simp only [apBody, apO]
  cases h b with
  | none => simp
  | some kk => rfl
def cpS (esz : Nat) (x y : V) (h : Heap) : Option (List (List V)) → Option (V × Upd)
  | some rows => match x with
    | .sl b s n => match h b with
      | some k => if k.op = false ∧ 0 < k.esz ∧ k.esz = esz ∧ s + n = k.rows.length ∧ opSem.selfOk b y then
          some (.lit (.int .i64 (min rows.length n)), [(b, { k with rows := k.rows.take s ++ (rows.take (min rows.length n) ++ k.rows.drop (s + min rows.length n)) })]) else none
      | none => none
    | _ => none
  | none => none
theorem o_copy (esz : Nat) (x y : Opd) : opSem C ow (.copy esz x y) ev h n = cpS esz (ev x) (ev y) h (rowsOf h esz (ev y)) := by
  simp only [opSem, cpS]
  cases rowsOf h esz (ev y) with
  | none => rfl
  | some r => cases ev x <;> rfl
def cpO (k : Option Blk) (esz b s q : Nat) (sb : Bool) (rows : List (List V)) : Option (V × Upd) := match k with
  | some k => if k.op = false ∧ 0 < k.esz ∧ k.esz = esz ∧ s + q = k.rows.length ∧ sb = true then
          some (.lit (.int .i64 (min rows.length q)), [(b, { k with rows := k.rows.take s ++ (rows.take (min rows.length q) ++ k.rows.drop (s + min rows.length q)) })]) else none
  | none => none
theorem cpS_own (esz b s q : Nat) (y : V) (rows : List (List V)) : cpS esz (.sl b s q) y h (some rows) = cpO (h b) esz b s q (selfB b y) rows := by
  simp only [cpS, cpO, selfB]
  cases h b <;> rfl
theorem cpO_eq (m b s q : Nat) (sb : Bool) (h0 : Nat.blt 0 m = true) (hs : sb = true) : cpO (some ⟨m, false, rws e l⟩) m b s q sb (rws e l2) =
    br (decide (s + q = l.length)) (some (I (min (l2.length : Int) (q : Int)), [(b, ⟨m, false, rws e (copyL l s (min l2.length q) l2)⟩)])) none := by
  rw [bltD, decide_eq_true_eq] at h0
  subst hs
  simp only [cpO]
  by_cases hq : s + q = l.length
  · rw [if_pos ⟨by trivial, h0, by trivial, by simp [rws, hq], by trivial⟩, decide_eq_true hq, br_true]
    simp [rws, copyL, List.map_take, List.map_drop]
  · rw [decide_eq_false hq, br_false, if_neg (fun hc => hq (by simpa [rws] using hc.2.2.2.1))]

/-! ### the rest -/

def ncS (x : V) (h : Heap) : Option (V × Upd) := match x with
  | .ptr b i o n => match h b with
    | some k => if k.rows.length = n ∧ i < n then some (.ptr b i o n, []) else none
    | none => none
  | .iptr r o => some (.iptr r o, [])
  | .fn f c => some (.fn f c, [])
  | _ => none
theorem o_nilCheck (x : Opd) : opSem C ow (.nilCheck x) ev h n = ncS (ev x) h := by
  simp only [opSem, ncS]
  cases ev x <;> rfl
def ncO (k : Option Blk) (b i o m : Nat) : Option (V × Upd) := match k with
  | some k => if k.rows.length = m ∧ i < m then some (.ptr b i o m, []) else none
  | none => none
theorem ncS_p (b i o m : Nat) : ncS (.ptr b i o m) h = ncO (h b) b i o m := rfl
theorem ncO_op (b o m : Nat) (row : List V) : ncO (some ⟨m, true, [row]⟩) b 0 o 1 = some (.ptr b 0 o 1, []) := rfl
theorem ncS_i (r : List V) (o : Nat) : ncS (.iptr r o) h = some (.iptr r o, []) := rfl
theorem ncS_f (f : FuncId) (c : List V) : ncS (.fn f c) h = some (.fn f c, []) := rfl

def mxS (x y : V) : Option (V × Upd) := match x, y with
  | .lit (.int k a), .lit (.int _ b) => some (.lit (.int k (if b > a then b else a)), [])
  | _, _ => none
theorem o_max2 (x y : Opd) : opSem C ow (.max2 x y) ev h n = mxS (ev x) (ev y) := by
  simp only [opSem, mxS]
  cases ev x <;> cases ev y <;> rfl
theorem mxS_i (k k' : IntKind) (a b : Int) : mxS (.lit (.int k a)) (.lit (.int k' b)) = some (.lit (.int k (mx a b)), []) := rfl
def mnS (x y : V) : Option (V × Upd) := match x, y with
  | .lit (.int k a), .lit (.int _ b) => some (.lit (.int k (if b < a then b else a)), [])
  | _, _ => none
theorem o_min2 (x y : Opd) : opSem C ow (.min2 x y) ev h n = mnS (ev x) (ev y) := by
  simp only [opSem, mnS]
  cases ev x <;> cases ev y <;> rfl
theorem mnS_i (k k' : IntKind) (a b : Int) : mnS (.lit (.int k a)) (.lit (.int k' b)) = some (.lit (.int k (mn a b)), []) := rfl

/-! ### calls -/

def cpost (h : Heap) (new : Nat) (ids bor : List Nat) : Option (V × List Blk) → Option (V × Upd)
  | some (r, bs) => callPost h new ids bor r bs
  | none => none
def cprep (C : CallS) (ow : FuncId → List Nat) (h : Heap) (new : Nat) (f : FuncId) : Option (List V × List Blk × List Nat × List Nat) → Option (V × Upd)
  | some (args', blks, ids, bor) => cpost h new ids bor (C f (canArgs (ow f) args') (canBlks (ow f) blks))
  | none => none
theorem callOp_eq (f : FuncId) (args : List V) : callOp C ow h n f args = cprep C ow h n f (callPrep ow h f args) := by
  unfold callOp cprep cpost
  cases callPrep ow h f args with
  | none => rfl
  | some p => obtain ⟨a, b, c, d⟩ := p; dsimp only; cases C f (canArgs (ow f) a) (canBlks (ow f) b) <;> rfl
theorem o_call (f : FuncId) (args : List Opd) : opSem C ow (.call f args) ev h n = cprep C ow h n f (callPrep ow h f (args.map ev)) := callOp_eq _ _
def dynS (C : CallS) (ow : FuncId → List Nat) (h : Heap) (n : Nat) (args : List V) : V → Option (V × Upd)
  | .fn k caps => cprep C ow h n k (callPrep ow h k (args ++ caps))
  | _ => none
theorem o_dyn (f : Opd) (args : List Opd) : opSem C ow (.dyn f args) ev h n = dynS C ow h n (args.map ev) (ev f) := by
  simp only [opSem, dynS]
  cases ev f <;> first | rfl | exact callOp_eq _ _
theorem dynS_fn (args : List V) (k : FuncId) (caps : List V) : dynS C ow h n args (.fn k caps) = cprep C ow h n k (callPrep ow h k (args ++ caps)) := rfl
theorem cprep_some (f : FuncId) (a : List V) (b : List Blk) (c d : List Nat) : cprep C ow h n f (some (a, b, c, d)) = cpost h n c d (C f (canArgs (ow f) a) (canBlks (ow f) b)) := rfl
theorem cprep_br (f : FuncId) (c : Bool) (x y : Option (List V × List Blk × List Nat × List Nat)) : cprep C ow h n f (br c x y) = br c (cprep C ow h n f x) (cprep C ow h n f y) := by cases c <;> rfl

def prep2 (args' : List V) (bor : List Nat) : Option (List Blk × List Nat) → Option (List V × List Blk × List Nat × List Nat)
  | some (blks, ids) => br (bor.any (fun b => decide (b ∈ ids))) none (some (args', blks, ids, bor))
  | none => none
def prep1 (h : Heap) : Option (List V × List Nat × List Nat) → Option (List V × List Blk × List Nat × List Nat)
  | some (args', ids0, bor) => prep2 args' bor (locBlks h 40 0 ids0)
  | none => none
theorem callPrep_eq (f : FuncId) (args : List V) : callPrep ow h f args = prep1 h (locArgs h (ow f) 0 [] args) := by
  unfold callPrep prep1 prep2
  cases locArgs h (ow f) 0 [] args with
  | none => rfl
  | some p =>
    obtain ⟨a, i, b⟩ := p
    dsimp only
    cases locBlks h 40 0 i with
    | none => rfl
    | some q =>
      obtain ⟨bl, ids⟩ := q
      dsimp only
      cases hb : b.any (fun b => decide (b ∈ ids)) <;> simp [br]
theorem prep1_some (a : List V) (i b : List Nat) : prep1 h (some (a, i, b)) = prep2 a b (locBlks h 40 0 i) := rfl
theorem prep2_some (a : List V) (b : List Nat) (bl : List Blk) (ids : List Nat) : prep2 a b (some (bl, ids)) = br (b.any (fun b => decide (b ∈ ids))) none (some (a, bl, ids, b)) := rfl

def la2 (v' : V) (bs : List Nat) : Option (List V × List Nat × List Nat) → Option (List V × List Nat × List Nat)
  | some (r', ids'', bs') => some (v' :: r', ids'', bs ++ bs')
  | none => none
def la1 (h : Heap) (owns : List Nat) (j : Nat) (r : List V) : Option (V × List Nat × List Nat) → Option (List V × List Nat × List Nat)
  | some (v', ids', bs) => la2 v' bs (locArgs h owns (j + 1) ids' r)
  | none => none
theorem locArgs_nil (owns : List Nat) (j : Nat) (ids : List Nat) : locArgs h owns j ids [] = some ([], ids, []) := rfl
theorem locArgs_cons (owns : List Nat) (j : Nat) (ids : List Nat) (v : V) (r : List V) : locArgs h owns j ids (v :: r) = la1 h owns j r (locArg h (owns.contains j) ids v) := by
  have : decide (j ∈ owns) = owns.contains j := by simp [List.contains_iff_mem, Bool.eq_iff_iff]
  simp only [locArgs, la1, la2, this]
  cases locArg h (owns.contains j) ids v with
  | none => rfl
  | some p => obtain ⟨a, b, c⟩ := p; dsimp only; cases locArgs h owns (j + 1) b r <;> rfl
theorem la1_some (owns : List Nat) (j : Nat) (r : List V) (v' : V) (ids' bs : List Nat) : la1 h owns j r (some (v', ids', bs)) = la2 v' bs (locArgs h owns (j + 1) ids' r) := rfl
theorem la2_some (v' : V) (bs : List Nat) (r' : List V) (i b : List Nat) : la2 v' bs (some (r', i, b)) = some (v' :: r', i, bs ++ b) := rfl

def lcP (k : Option Blk) (ids : List Nat) (b i o m : Nat) : Option (V × List Nat × List Nat) := match k with
  | some k => if k.rows.length = m then some (.ptr (posOf b (withId ids b)) i o m, withId ids b, []) else none
  | none => none
def lcO (k : Option Blk) (own : Bool) (ids : List Nat) (b s q : Nat) : Option (V × List Nat × List Nat) := match k with
  | some k => if s + q = k.rows.length then
        (if own then some (.sl (posOf b (withId ids b)) s q, withId ids b, []) else if k.op = false ∧ 0 < k.esz then some (.imm k.esz (k.rows.drop s), ids, [b]) else none) else none
  | none => none
theorem lc_lit (own : Bool) (ids : List Nat) (v : Value) : locCell h own ids (.lit v) = some (.lit v, ids, []) := rfl
theorem lc_imm (own : Bool) (ids : List Nat) (m : Nat) (r : List (List V)) : locCell h own ids (.imm m r) = some (.imm m r, ids, []) := rfl
theorem lc_iptr (own : Bool) (ids : List Nat) (r : List V) (o : Nat) : locCell h own ids (.iptr r o) = some (.iptr r o, ids, []) := rfl
theorem lc_fn (own : Bool) (ids : List Nat) (f : FuncId) : locCell h own ids (.fn f []) = some (.fn f [], ids, []) := rfl
theorem lc_undef (own : Bool) (ids : List Nat) : locCell h own ids .undef = some (.undef, ids, []) := rfl
theorem lc_ptr (own : Bool) (ids : List Nat) (b i o m : Nat) : locCell h own ids (.ptr b i o m) = lcP (h b) ids b i o m := rfl
theorem lc_own (own : Bool) (ids : List Nat) (b s q : Nat) : locCell h own ids (.sl b s q) = lcO (h b) own ids b s q := rfl
theorem lg_lit (own : Bool) (ids : List Nat) (v : Value) : locArg h own ids (.lit v) = some (.lit v, ids, []) := rfl
theorem lg_imm (own : Bool) (ids : List Nat) (m : Nat) (r : List (List V)) : locArg h own ids (.imm m r) = some (.imm m r, ids, []) := rfl
theorem lg_iptr (own : Bool) (ids : List Nat) (r : List V) (o : Nat) : locArg h own ids (.iptr r o) = some (.iptr r o, ids, []) := rfl
theorem lg_ptr (own : Bool) (ids : List Nat) (b i o m : Nat) : locArg h own ids (.ptr b i o m) = lcP (h b) ids b i o m := rfl
theorem lg_own (own : Bool) (ids : List Nat) (b s q : Nat) : locArg h own ids (.sl b s q) = lcO (h b) own ids b s q := rfl
def lcA (mk : List V → V) : Option (List V × List Nat × List Nat) → Option (V × List Nat × List Nat)
  | some (cs', ids', bs) => some (mk cs', ids', bs)
  | none => none
theorem lg_agg (own : Bool) (ids : List Nat) (cs : List V) : locArg h own ids (.agg cs) = lcA V.agg (locCells h own ids cs) := by
  simp only [locArg, lcA]
  cases locCells h own ids cs <;> rfl
theorem lg_fn (own : Bool) (ids : List Nat) (f : FuncId) (cs : List V) : locArg h own ids (.fn f cs) = lcA (V.fn f) (locCells h true ids cs) := by
  simp only [locArg, lcA]
  cases locCells h true ids cs <;> rfl
theorem lcA_some (mk : List V → V) (cs : List V) (i b : List Nat) : lcA mk (some (cs, i, b)) = some (mk cs, i, b) := rfl
def lcs1 (h : Heap) (own : Bool) (r : List V) : Option (V × List Nat × List Nat) → Option (List V × List Nat × List Nat)
  | some (v', ids', bs) => la2 v' bs (locCells h own ids' r)
  | none => none
theorem locCells_nil (own : Bool) (ids : List Nat) : locCells h own ids [] = some ([], ids, []) := rfl
theorem locCells_cons (own : Bool) (ids : List Nat) (v : V) (r : List V) : locCells h own ids (v :: r) = lcs1 h own r (locCell h own ids v) := by
  simp only [locCells, lcs1, la2]
  cases locCell h own ids v with
  | none => rfl
  | some p => obtain ⟨a, b, c⟩ := p; dsimp only; cases locCells h own b r <;> rfl
theorem lcs1_some (own : Bool) (r : List V) (v' : V) (ids' bs : List Nat) : lcs1 h own r (some (v', ids', bs)) = la2 v' bs (locCells h own ids' r) := rfl
theorem lcP_op (ids : List Nat) (b o m : Nat) (row : List V) : lcP (some ⟨m, true, [row]⟩) ids b 0 o 1 = some (.ptr (posOf b (withId ids b)) 0 o 1, withId ids b, []) := rfl
theorem lcO_t (m : Nat) (ids : List Nat) (b s q : Nat) (hq : s + q = l.length) : lcO (some ⟨m, false, rws e l⟩) true ids b s q = some (.sl (posOf b (withId ids b)) s q, withId ids b, []) := by
  simp [lcO, rws, hq]
theorem lcO_f (m : Nat) (ids : List Nat) (b q : Nat) (h0 : Nat.blt 0 m = true) (hq : l.length = q) : lcO (some ⟨m, false, rws e l⟩) false ids b 0 q = some (.imm m (rws e l), ids, [b]) := by
  rw [bltD, decide_eq_true_eq] at h0
  simp [lcO, rws, hq, h0]

def lb2 (k : Blk) : Option (List Blk × List Nat) → Option (List Blk × List Nat)
  | some (r, ids') => some (k :: r, ids')
  | none => none
def ld2 (v' : V) : Option (List V × List Nat) → Option (List V × List Nat)
  | some (r', i) => some (v' :: r', i)
  | none => none
def ld1 (h : Heap) (r : List V) : Option (V × List Nat × List Nat) → Option (List V × List Nat)
  | some (v', ids', _) => ld2 v' (locDs h ids' r)
  | none => none
theorem locDs_nil (ids : List Nat) : locDs h ids [] = some ([], ids) := rfl
theorem locDs_cons (ids : List Nat) (v : V) (r : List V) : locDs h ids (v :: r) = ld1 h r (locArg h true ids v) := by
  simp only [locDs, ld1, ld2]
  cases locArg h true ids v with
  | none => rfl
  | some p => obtain ⟨a, b, c⟩ := p; dsimp only; cases locDs h b r <;> rfl
theorem ld1_some (r : List V) (v' : V) (ids' bs : List Nat) : ld1 h r (some (v', ids', bs)) = ld2 v' (locDs h ids' r) := rfl
theorem ld2_some (v' : V) (r' : List V) (i : List Nat) : ld2 v' (some (r', i)) = some (v' :: r', i) := rfl
def lb1 (h : Heap) (fuel pos : Nat) (m : Nat) : Option (List V × List Nat) → Option (List Blk × List Nat)
  | some (row, ids1) => lb2 ⟨m, true, [row]⟩ (locBlks h fuel (pos + 1) ids1)
  | none => none
def lb0 (h : Heap) (fuel pos : Nat) (ids : List Nat) : Option Blk → Option (List Blk × List Nat)
  | some k => if k.op = false then lb2 k (locBlks h fuel (pos + 1) ids) else (match locRows h ids k.rows with
    | none => none
    | some (rows, ids1) => lb2 { k with rows := rows } (locBlks h fuel (pos + 1) ids1))
  | none => none
def lbN (h : Heap) (fuel pos : Nat) (ids : List Nat) : Option Nat → Option (List Blk × List Nat)
  | none => some ([], ids)
  | some b => lb0 h fuel pos ids (h b)
theorem locBlks_eq (fuel pos : Nat) (ids : List Nat) : locBlks h (fuel + 1) pos ids = lbN h fuel pos ids ids[pos]? := by
  simp only [locBlks, lbN, lb0]
  cases ids[pos]? with
  | none => rfl
  | some b =>
    dsimp only
    cases h b with
    | none => rfl
    | some k =>
      dsimp only
      split
      · cases locBlks h fuel (pos + 1) ids <;> rfl
      · cases locRows h ids k.rows with
        | none => rfl
        | some p => obtain ⟨rows, ids1⟩ := p; dsimp only; cases locBlks h fuel (pos + 1) ids1 <;> rfl
theorem lbN_none (fuel pos : Nat) (ids : List Nat) : lbN h fuel pos ids none = some ([], ids) := rfl
theorem lbN_some (fuel pos : Nat) (ids : List Nat) (b : Nat) : lbN h fuel pos ids (some b) = lb0 h fuel pos ids (h b) := rfl
theorem lb0_ty (fuel pos : Nat) (ids : List Nat) (m : Nat) (r : List (List V)) : lb0 h fuel pos ids (some ⟨m, false, r⟩) = lb2 ⟨m, false, r⟩ (locBlks h fuel (pos + 1) ids) := rfl
theorem lb0_op (fuel pos : Nat) (ids : List Nat) (m : Nat) (row : List V) : lb0 h fuel pos ids (some ⟨m, true, [row]⟩) = lb1 h fuel pos m (locDs h ids row) := by
  simp only [lb0, locRows, lb1]
  cases locDs h ids row with
  | none => rfl
  | some p => obtain ⟨a, b⟩ := p; rfl
theorem lb1_some (fuel pos m : Nat) (row : List V) (ids1 : List Nat) : lb1 h fuel pos m (some (row, ids1)) = lb2 ⟨m, true, [row]⟩ (locBlks h fuel (pos + 1) ids1) := rfl
theorem lb2_some (k : Blk) (r : List Blk) (ids : List Nat) : lb2 k (some (r, ids)) = some (k :: r, ids) := rfl

theorem nf_nn (n : Nat) : newsFor [] [] n = [] := rfl
theorem nf_nc (k : Blk) (r : List Blk) (n : Nat) : newsFor [] (k :: r) n = n :: newsFor [] r (n + 1000000) := rfl
theorem nf_cc (i : Nat) (ids : List Nat) (k : Blk) (r : List Blk) (n : Nat) : newsFor (i :: ids) (k :: r) n = newsFor ids r n := rfl
def cpw (new : Nat) (ids bor : List Nat) (r : V) (bs : List Blk) (ns : List Nat) : Option (V × Upd) := some (unRes (ids ++ ns) r, zipUpd (ids ++ ns) (bs.map (unBlk (ids ++ ns))) ++ br (bor.isEmpty || (flatR r && bs.all flatB)) [] (dropB bor))
theorem cpw_eq (new : Nat) (ids bor : List Nat) (r : V) (bs : List Blk) (ns : List Nat) : cpw new ids bor r bs ns = some (unRes (ids ++ ns) r, zipUpd (ids ++ ns) (bs.map (unBlk (ids ++ ns))) ++ br (bor.isEmpty || (flatR r && bs.all flatB)) [] (dropB bor)) := rfl
theorem cpost_some (new : Nat) (ids bor : List Nat) (r : V) (bs : List Blk) : cpost h new ids bor (some (r, bs)) =
    br (Nat.ble ids.length bs.length && (newsFor ids bs new).all (fun b => (h b).isNone)) (cpw new ids bor r bs (newsFor ids bs new)) none := by
  simp only [cpost, callPost, cpw, bleD]
  generalize (newsFor ids bs new).all (fun b => (h b).isNone) = c3
  generalize (bor.isEmpty || (flatR r && bs.all flatB)) = c4
  by_cases h1 : ids.length ≤ bs.length
  · rw [decide_eq_true h1]; cases c3 <;> cases c4 <;> simp [h1, br]
  · rw [decide_eq_false h1]; cases c3 <;> cases c4 <;> simp [h1, br]

theorem unRes_tup (ids : List Nat) (vs : List V) : unRes ids (.tup vs) = .tup (vs.map (unArg ids)) := rfl
theorem unRes_agg (ids : List Nat) (vs : List V) : unRes ids (.agg vs) = .agg (vs.map (unV ids)) := rfl
theorem unRes_lit (ids : List Nat) (v : Value) : unRes ids (.lit v) = .lit v := rfl
theorem unRes_imm (ids : List Nat) (m : Nat) (r : List (List V)) : unRes ids (.imm m r) = .imm m r := rfl
theorem unRes_undef (ids : List Nat) : unRes ids .undef = .undef := rfl
theorem unRes_ptr (ids : List Nat) (b i o m : Nat) : unRes ids (.ptr b i o m) = .ptr (ids.getD b 0) i o m := rfl
theorem unRes_own (ids : List Nat) (b s q : Nat) : unRes ids (.sl b s q) = .sl (ids.getD b 0) s q := rfl
theorem unArg_agg (ids : List Nat) (vs : List V) : unArg ids (.agg vs) = .agg (vs.map (unV ids)) := rfl
theorem unArg_lit (ids : List Nat) (v : Value) : unArg ids (.lit v) = .lit v := rfl
theorem unArg_imm (ids : List Nat) (m : Nat) (r : List (List V)) : unArg ids (.imm m r) = .imm m r := rfl
theorem unArg_ptr (ids : List Nat) (b i o m : Nat) : unArg ids (.ptr b i o m) = .ptr (ids.getD b 0) i o m := rfl
theorem unArg_own (ids : List Nat) (b s q : Nat) : unArg ids (.sl b s q) = .sl (ids.getD b 0) s q := rfl
theorem unV_lit (ids : List Nat) (v : Value) : unV ids (.lit v) = .lit v := rfl
theorem unV_fn (ids : List Nat) (f : FuncId) (cs : List V) : unV ids (.fn f cs) = .fn f cs := rfl
theorem unArg_fn (ids : List Nat) (f : FuncId) (cs : List V) : unArg ids (.fn f cs) = .fn f (cs.map (unV ids)) := rfl
theorem unV_imm (ids : List Nat) (m : Nat) (r : List (List V)) : unV ids (.imm m r) = .imm m r := rfl
theorem unV_ptr (ids : List Nat) (b i o m : Nat) : unV ids (.ptr b i o m) = .ptr (ids.getD b 0) i o m := rfl
theorem unV_own (ids : List Nat) (b s q : Nat) : unV ids (.sl b s q) = .sl (ids.getD b 0) s q := rfl
theorem unBlk_ty (ids : List Nat) (m : Nat) (r : List (List V)) : unBlk ids ⟨m, false, r⟩ = ⟨m, false, r⟩ := rfl
theorem unBlk_opr (ids : List Nat) (m : Nat) (row : List V) : unBlk ids ⟨m, true, [row]⟩ = ⟨m, true, [row.map (unArg ids)]⟩ := rfl
theorem fl_lit (v : Value) : flatR (.lit v) = true := rfl
theorem fl_undef : flatR .undef = true := rfl
theorem fl_imm (m : Nat) (r : List (List V)) : flatR (.imm m r) = false := rfl
theorem fl_agg (vs : List V) : flatR (.agg vs) = vs.all flatC := rfl
theorem fl_tup (vs : List V) : flatR (.tup vs) = vs.all flatA := rfl
theorem fl_ptr (b i o m : Nat) : flatR (.ptr b i o m) = true := rfl
theorem fl_own (b s q : Nat) : flatR (.sl b s q) = true := rfl
theorem flA_lit (v : Value) : flatA (.lit v) = true := rfl
theorem flA_imm (m : Nat) (r : List (List V)) : flatA (.imm m r) = false := rfl
theorem flA_agg (vs : List V) : flatA (.agg vs) = vs.all flatC := rfl
theorem flA_ptr (b i o m : Nat) : flatA (.ptr b i o m) = true := rfl
theorem flA_own (b s q : Nat) : flatA (.sl b s q) = true := rfl
theorem flC_lit (v : Value) : flatC (.lit v) = true := rfl
theorem flC_fn (f : FuncId) (cs : List V) : flatC (.fn f cs) = false := rfl
theorem flA_fn (f : FuncId) (cs : List V) : flatA (.fn f cs) = false := rfl
theorem fl_fn (f : FuncId) (cs : List V) : flatR (.fn f cs) = false := rfl
theorem flC_imm (m : Nat) (r : List (List V)) : flatC (.imm m r) = false := rfl
theorem flC_ptr (b i o m : Nat) : flatC (.ptr b i o m) = true := rfl
theorem flC_own (b s q : Nat) : flatC (.sl b s q) = true := rfl
theorem flB_ty (m : Nat) (r : List (List V)) : flatB ⟨m, false, r⟩ = false := rfl
theorem flB_op (m : Nat) (row : List V) : flatB ⟨m, true, [row]⟩ = row.all flatC := by simp [flatB]

/-! ### a function's end -/

def fin2 (raw : Bool) (m : Nat) : Option (List V) → Option (List Blk) → Option (V × List Blk)
  | some vs', some bs => br (Nat.ble m 1000) (some ((oneV vs').czR, br raw bs (bs.map Blk.cz))) none
  | _, _ => none
def fin1 (keep raw : Bool) (m : Nat) (h : Heap) : Option (List V) → Option (V × List Blk)
  | some vs => fin2 raw m (finAs h m (br keep (keepOf m vs) []) vs) (finBs h m (br keep (keepOf m vs) []) (List.range m ++ (br keep (keepOf m vs) [])))
  | none => none
theorem endK_of (nt : Nat) (body : ACode) (res : List ARes) (keep raw : Bool) (m : Nat) (st : St) (x : AExit) (hx : x = .ret ∨ x = .normal) : endK ⟨nt, body, res, keep, raw⟩ m x st = fin1 keep raw m st.heap (ressOf st res) := by
  have hk : ∀ vs : List V, (if keep = true then keepOf m vs else []) = br keep (keepOf m vs) [] := fun vs => by cases keep <;> rfl
  have : endK ⟨nt, body, res, keep, raw⟩ m x st = endK ⟨nt, body, res, keep, raw⟩ m .ret st := by rcases hx with rfl | rfl <;> rfl
  rw [this]
  simp only [endK, finish, fin1, fin2, fini, hk, bleD]
  cases ressOf st res with
  | none => rfl
  | some vs =>
    dsimp only
    cases finAs st.heap m (br keep (keepOf m vs) []) vs with
    | none => rfl
    | some vs' =>
      cases finBs st.heap m (br keep (keepOf m vs) []) (List.range m ++ (br keep (keepOf m vs) [])) with
      | none => rfl
      | some bs => by_cases h1 : m ≤ 1000 <;> cases raw <;> simp [h1, br]
theorem endK_ret (nt : Nat) (body : ACode) (res : List ARes) (keep raw : Bool) (m : Nat) (st : St) : endK ⟨nt, body, res, keep, raw⟩ m .ret st = fin1 keep raw m st.heap (ressOf st res) := endK_of _ _ _ _ _ _ _ _ (.inl rfl)
theorem endK_normal (nt : Nat) (body : ACode) (res : List ARes) (keep raw : Bool) (m : Nat) (st : St) : endK ⟨nt, body, res, keep, raw⟩ m .normal st = fin1 keep raw m st.heap (ressOf st res) := endK_of _ _ _ _ _ _ _ _ (.inr rfl)
theorem fin1_some (keep raw : Bool) (m : Nat) (vs : List V) : fin1 keep raw m h (some vs) = fin2 raw m (finAs h m (br keep (keepOf m vs) []) vs) (finBs h m (br keep (keepOf m vs) []) (List.range m ++ (br keep (keepOf m vs) []))) := rfl
theorem fin2_some (raw : Bool) (m : Nat) (vs : List V) (bs : List Blk) : fin2 raw m (some vs) (some bs) = br (Nat.ble m 1000) (some ((oneV vs).czR, br raw bs (bs.map Blk.cz))) none := rfl

def rs1 : Option V → Option (List V) → Option (List V)
  | some v, some vs => some (v :: vs)
  | _, _ => none
theorem ress_nil (st : St) : ressOf st [] = some [] := rfl
theorem ress_cons (st : St) (r : ARes) (rs : List ARes) : ressOf st (r :: rs) = rs1 (resOf st r) (ressOf st rs) := by
  simp only [ressOf, rs1]
  cases resOf st r <;> cases ressOf st rs <;> rfl
theorem rs1_some (v : V) (vs : List V) : rs1 (some v) (some vs) = some (v :: vs) := rfl
theorem res_tmp (st : St) (t : Nat) : resOf st (.tmp t) = some (st.get t) := rfl
theorem res_cell (st : St) (t : Nat) (g : Option Nat) : resOf st (.cell t g) = rowOf g st.heap (st.get t) := rfl

def fcs1 : Option V → Option (List V) → Option (List V)
  | some v, some vs => some (v :: vs)
  | _, _ => none
theorem finAs_nil (m : Nat) (kp : List Nat) : finAs h m kp [] = some [] := rfl
theorem finAs_cons (m : Nat) (kp : List Nat) (v : V) (r : List V) : finAs h m kp (v :: r) = rs1 (finA h m kp v) (finAs h m kp r) := by
  simp only [finAs, rs1]
  cases finA h m kp v <;> cases finAs h m kp r <;> rfl
theorem finCs_nil (m : Nat) (kp : List Nat) : finCs h m kp [] = some [] := rfl
theorem finCs_cons (m : Nat) (kp : List Nat) (v : V) (r : List V) : finCs h m kp (v :: r) = rs1 (finC h m kp v) (finCs h m kp r) := by
  simp only [finCs, rs1]
  cases finC h m kp v <;> cases finCs h m kp r <;> rfl
def fag : Option (List V) → Option V
  | some cs => some (.agg cs)
  | none => none
theorem finA_agg (m : Nat) (kp : List Nat) (cs : List V) : finA h m kp (.agg cs) = fag (finCs h m kp cs) := by
  simp only [finA, fag]
  cases finCs h m kp cs <;> rfl
theorem fag_some (cs : List V) : fag (some cs) = some (.agg cs) := rfl
theorem finA_lit (m : Nat) (kp : List Nat) (v : Value) : finA h m kp (.lit v) = some (.lit v) := rfl
theorem finA_imm (m : Nat) (kp : List Nat) (q : Nat) (r : List (List V)) : finA h m kp (.imm q r) = some (.imm q r) := rfl
theorem finA_undef (m : Nat) (kp : List Nat) : finA h m kp .undef = some .undef := rfl
theorem finA_fn (m : Nat) (kp : List Nat) (f : FuncId) : finA h m kp (.fn f []) = some (.fn f []) := rfl
theorem finC_lit (m : Nat) (kp : List Nat) (v : Value) : finC h m kp (.lit v) = some (.lit v) := rfl
theorem finC_imm (m : Nat) (kp : List Nat) (q : Nat) (r : List (List V)) : finC h m kp (.imm q r) = some (.imm q r) := rfl
theorem finC_fn (m : Nat) (kp : List Nat) (f : FuncId) : finC h m kp (.fn f []) = some (.fn f []) := rfl
theorem finC_undef (m : Nat) (kp : List Nat) : finC h m kp .undef = some .undef := rfl
def fst1 : Option (V × List Nat) → Option V
  | some (v, _) => some v
  | none => none
def fcO (h : Heap) (m : Nat) (kp : List Nat) (b s q : Nat) : Option V := br (Nat.blt b m) (some (.sl b s q)) (br (kp.contains b) (some (.sl (m + posOf b kp) s q)) (fst1 (snap h (.sl b s q))))
theorem finC_own (m : Nat) (kp : List Nat) (b s q : Nat) : finC h m kp (.sl b s q) = fcO h m kp b s q := by
  simp only [finC, fcO, bltD, fst1]
  by_cases h1 : b < m
  · simp [h1, br]
  · by_cases h2 : b ∈ kp
    · simp [h1, h2, br]
    · have : kp.contains b = false := by simpa using h2
      simp only [h1, h2, this, if_false, decide_false, br_false]
      cases snap h (.sl b s q) <;> rfl
theorem finA_own (m : Nat) (kp : List Nat) (b s q : Nat) : finA h m kp (.sl b s q) = fcO h m kp b s q := finC_own m kp b s q
theorem fcO_eq (m : Nat) (kp : List Nat) (b s q : Nat) : fcO h m kp b s q = br (Nat.blt b m) (some (.sl b s q)) (br (kp.contains b) (some (.sl (m + posOf b kp) s q)) (fst1 (snap h (.sl b s q)))) := rfl
theorem fst1_some (v : V) (bs : List Nat) : fst1 (some (v, bs)) = some v := rfl
def fcP (m : Nat) (kp : List Nat) (b i o q : Nat) : Option V := br (Nat.blt b m) (some (.ptr b i o q)) (br (kp.contains b) (some (.ptr (m + posOf b kp) i o q)) none)
theorem finC_ptr (m : Nat) (kp : List Nat) (b i o q : Nat) : finC h m kp (.ptr b i o q) = fcP m kp b i o q := by
  simp only [finC, fcP, bltD]
  by_cases h1 : b < m
  · simp [h1, br]
  · by_cases h2 : b ∈ kp
    · simp [h1, h2, br]
    · have : kp.contains b = false := by simpa using h2
      simp [h1, h2, this, br]
theorem finA_ptr (m : Nat) (kp : List Nat) (b i o q : Nat) : finA h m kp (.ptr b i o q) = fcP m kp b i o q := finC_ptr (h := h) m kp b i o q
theorem fcP_eq (m : Nat) (kp : List Nat) (b i o q : Nat) : fcP m kp b i o q = br (Nat.blt b m) (some (.ptr b i o q)) (br (kp.contains b) (some (.ptr (m + posOf b kp) i o q)) none) := rfl
def fb2 : Option Blk → Option (List Blk) → Option (List Blk)
  | some k, some r => some (k :: r)
  | _, _ => none
def fb1 (h : Heap) (m : Nat) (kp : List Nat) (r : List Nat) : Option Blk → Option (List Blk)
  | some k => fb2 (finB h m kp k) (finBs h m kp r)
  | none => none
theorem finBs_nil (m : Nat) (kp : List Nat) : finBs h m kp [] = some [] := rfl
theorem finBs_cons (m : Nat) (kp : List Nat) (b : Nat) (r : List Nat) : finBs h m kp (b :: r) = fb1 h m kp r (h b) := by
  simp only [finBs, fb1, fb2]
  cases h b with
  | none => rfl
  | some k => dsimp only; cases finB h m kp k <;> cases finBs h m kp r <;> rfl
theorem fb1_some (m : Nat) (kp : List Nat) (r : List Nat) (k : Blk) : fb1 h m kp r (some k) = fb2 (finB h m kp k) (finBs h m kp r) := rfl
theorem fb2_some (k : Blk) (r : List Blk) : fb2 (some k) (some r) = some (k :: r) := rfl
theorem finB_ty (m : Nat) (kp : List Nat) (q : Nat) (r : List (List V)) : finB h m kp ⟨q, false, r⟩ = some ⟨q, false, r⟩ := rfl
def fbO (q : Nat) : Option (List V) → Option Blk
  | some row => some ⟨q, true, [row]⟩
  | none => none
theorem finDs_nil (m : Nat) (kp : List Nat) : finDs h m kp [] = some [] := rfl
theorem finDs_cons (m : Nat) (kp : List Nat) (v : V) (r : List V) : finDs h m kp (v :: r) = rs1 (finD h m kp v) (finDs h m kp r) := by
  simp only [finDs, rs1]
  cases finD h m kp v <;> cases finDs h m kp r <;> rfl
def fnR (f : FuncId) : Option (List V) → Option V
  | some cs => some (.fn f cs)
  | none => none
theorem fnR_some (f : FuncId) (cs : List V) : fnR f (some cs) = some (.fn f cs) := rfl
theorem finD_fn0 (m : Nat) (kp : List Nat) (f : FuncId) : finD h m kp (.fn f []) = some (.fn f []) := rfl
theorem finD_fn (m : Nat) (kp : List Nat) (f : FuncId) (c : V) (cs : List V) : finD h m kp (.fn f (c :: cs)) = fnR f (finCs h m kp (c :: cs)) := by
  simp only [finD, fnR]
  cases finCs h m kp (c :: cs) <;> rfl
theorem finD_lit (m : Nat) (kp : List Nat) (v : Value) : finD h m kp (.lit v) = some (.lit v) := rfl
theorem finD_imm (m : Nat) (kp : List Nat) (q : Nat) (r : List (List V)) : finD h m kp (.imm q r) = some (.imm q r) := rfl
theorem finD_undef (m : Nat) (kp : List Nat) : finD h m kp .undef = some .undef := rfl
theorem finD_iptr (m : Nat) (kp : List Nat) (r : List V) (o : Nat) : finD h m kp (.iptr r o) = some (.iptr r o) := rfl
theorem finD_own (m : Nat) (kp : List Nat) (b s q : Nat) : finD h m kp (.sl b s q) = fcO h m kp b s q := finC_own m kp b s q
theorem finD_ptr (m : Nat) (kp : List Nat) (b i o q : Nat) : finD h m kp (.ptr b i o q) = fcP m kp b i o q := finC_ptr (h := h) m kp b i o q
theorem finB_op (m : Nat) (kp : List Nat) (q : Nat) (row : List V) : finB h m kp ⟨q, true, [row]⟩ = fbO q (finDs h m kp row) := by
  simp only [finB, finRows, fbO]
  cases finDs h m kp row <;> rfl
theorem fbO_some (q : Nat) (row : List V) : fbO q (some row) = some ⟨q, true, [row]⟩ := rfl

/-! ### the machine's own words -/

theorem get_cons (t u : Nat) (v : V) (r : List (Nat × V)) (m : List (Nat × Blk)) : St.get ⟨(u, v) :: r, m⟩ t = if u = t then v else St.get ⟨r, m⟩ t := by
  simp only [St.get, aget]
  split <;> rfl
theorem get_nil (t : Nat) (m : List (Nat × Blk)) : St.get ⟨[], m⟩ t = .undef := rfl
theorem heap_cons (b c : Nat) (k : Blk) (r : List (Nat × Blk)) (x : List (Nat × V)) : St.heap ⟨x, (c, k) :: r⟩ b = if c = b then some k else St.heap ⟨x, r⟩ b := rfl
theorem heap_nil (b : Nat) (x : List (Nat × V)) : St.heap ⟨x, []⟩ b = none := rfl
theorem put_some (x : List (Nat × V)) (m : List (Nat × Blk)) (d : Nat) (v : V) : St.put ⟨x, m⟩ (some d) v = ⟨(d, v) :: x, m⟩ := rfl
theorem put_none (st : St) (v : V) : st.put none v = st := rfl
theorem upd_eq (x : List (Nat × V)) (m : List (Nat × Blk)) (u : Upd) : St.upd ⟨x, m⟩ u = ⟨x, updL m u⟩ := rfl
theorem upd_nil (st : St) : st.upd [] = st := rfl
theorem updL_nil (m : List (Nat × Blk)) : updL m [] = m := rfl
theorem updL_cons (m : List (Nat × Blk)) (b : Nat) (k : Blk) (r : Upd) : updL m ((b, k) :: r) = updL (aset b k m) r := rfl
theorem aset_nil {β : Type} (k : Nat) (v : β) : aset k v [] = [(k, v)] := rfl
theorem aset_cons {β : Type} (k j : Nat) (v u : β) (r : List (Nat × β)) : aset k v ((j, u) :: r) = if j = k then (j, v) :: r else (j, u) :: aset k v r := rfl
theorem ev_t (st : St) (t : Nat) : st.ev (.t t) = st.get t := rfl
theorem ev_c (st : St) (v : Value) : st.ev (.c v) = .lit v := rfl
theorem ev_f (st : St) (f : FuncId) : st.ev (.f f) = .fn f [] := rfl
theorem trim_eq (live : List Nat) (x : List (Nat × V)) (m : List (Nat × Blk)) : trim live ⟨x, m⟩ = ⟨live.map fun t => (t, St.get ⟨x, m⟩ t), m⟩ := rfl
theorem number_nil {β : Type} (n : Nat) : number n ([] : List β) = [] := rfl
theorem number_cons {β : Type} (n : Nat) (x : β) (r : List β) : number n (x :: r) = (n, x) :: number (n + 1) r := rfl
theorem start_eq (a : List V) (b : List Blk) : start a b = ⟨number 0 a, number 0 b⟩ := rfl
theorem partsEv_nil : partsEv ev [] = [] := rfl
theorem partsEv_cons (a b : Nat) (x : Opd) (r : List (Nat × Nat × Opd)) : partsEv ev ((a, b, x) :: r) = (a, b, ev x) :: partsEv ev r := rfl
theorem fillS_nil (cs : List V) : fillS cs [] = some cs := rfl
theorem fillS_cons (cs : List V) (off size : Nat) (v : V) (r : List (Nat × Nat × V)) : fillS cs ((off, size, v) :: r) = br (Nat.beq v.cells.length size && Nat.ble (off + size) cs.length && v.cells.all V.cell) (fillS (cs.take off ++ (v.cells ++ cs.drop (off + size))) r) none := rfl
theorem fillT_nil (m : Nat) (r : List (List V)) : fillT m r [] = some r := rfl
theorem fillT_cons (m : Nat) (rows : List (List V)) (i : Nat) (v : V) (r : List (Nat × V)) : fillT m rows ((i, v) :: r) = br (Nat.beq v.cells.length m && (Nat.blt i rows.length && v.cells.all V.cell)) (fillT m (rows.set i v.cells) r) none := rfl
theorem cells_agg (cs : List V) : (V.agg cs).cells = cs := rfl
theorem cells_lit (v : Value) : (V.lit v).cells = [.lit v] := rfl
theorem cells_imm (m : Nat) (r : List (List V)) : (V.imm m r).cells = [.imm m r] := rfl
theorem cells_own (b s q : Nat) : (V.sl b s q).cells = [.sl b s q] := rfl
theorem cells_ptr (b i o m : Nat) : (V.ptr b i o m).cells = [.ptr b i o m] := rfl
theorem cells_iptr (r : List V) (o : Nat) : (V.iptr r o).cells = [.iptr r o] := rfl
theorem cells_fn (f : FuncId) (cs : List V) : (V.fn f cs).cells = [.fn f cs] := rfl
theorem cell_int (k : IntKind) (a : Int) : (V.lit (.int k a)).cell = true := rfl
theorem cell_bool (a : Bool) : (V.lit (.bool a)).cell = true := rfl
theorem cell_str (a : ByteArray) : (V.lit (.string a)).cell = true := rfl
theorem cell_nil (a : Option Addr) (n m : Nat) : (V.lit (.slice a n m)).cell = true := rfl
theorem cell_imm (m : Nat) (r : List (List V)) : (V.imm m r).cell = true := rfl
theorem cell_own (b s q : Nat) : (V.sl b s q).cell = true := rfl
theorem cell_ptr (b i o m : Nat) : (V.ptr b i o m).cell = true := rfl
theorem cell_iptr (r : List V) (o : Nat) : (V.iptr r o).cell = true := rfl
theorem cell_fn (f : FuncId) (cs : List V) : (V.fn f cs).cell = true := rfl
theorem lit_int (k : IntKind) (a : Int) : litCell (.int k a) = true := rfl
theorem lit_bool (a : Bool) : litCell (.bool a) = true := rfl
theorem lit_str (a : ByteArray) : litCell (.string a) = true := rfl
theorem lit_nil (a : Option Addr) (n m : Nat) : litCell (.slice a n m) = true := rfl
theorem lit_ptr (a : Option Addr) : litCell (.pointer a) = true := rfl
theorem dropB_nil : dropB [] = [] := rfl
theorem dropB_cons (b : Nat) (r : List Nat) : dropB (b :: r) = (b, dead) :: dropB r := rfl
theorem zip_nil (ids : List Nat) : zipUpd ids [] = [] := by cases ids <;> rfl
theorem zip_cons (i : Nat) (ids : List Nat) (k : Blk) (r : List Blk) : zipUpd (i :: ids) (k :: r) = (i, k) :: zipUpd ids r := rfl
theorem posOf_eq (b x : Nat) (r : List Nat) : posOf b (x :: r) = if x = b then 0 else posOf b r + 1 := rfl
theorem withId_nil (b : Nat) : withId [] b = [b] := rfl
theorem withId_eq (ids : List Nat) (b : Nat) : withId ids b = br (ids.contains b) ids (ids ++ [b]) := by
  unfold withId
  by_cases h : b ∈ ids <;> simp [h, br]
theorem range1 : List.range 1 = [0] := rfl
theorem range2 : List.range 2 = [0, 1] := rfl
theorem range3 : List.range 3 = [0, 1, 2] := rfl
theorem range4 : List.range 4 = [0, 1, 2, 3] := rfl
theorem oneV_one (v : V) : oneV [v] = v := rfl
theorem oneV_nil : oneV [] = .tup [] := rfl
theorem oneV_two (a b : V) (r : List V) : oneV (a :: b :: r) = .tup (a :: b :: r) := rfl
theorem canArgs_eq (o : List Nat) (a : List V) : canArgs o a = br (o.contains 1000) a (a.map V.czA) := by
  unfold canArgs; cases o.contains 1000 <;> rfl
theorem canBlks_eq (o : List Nat) (a : List Blk) : canBlks o a = br (o.contains 1000) a (a.map Blk.cz) := by
  unfold canBlks; cases o.contains 1000 <;> rfl
theorem getD_zero (a : Nat) (r : List Nat) : (a :: r).getD 0 0 = a := rfl
theorem getD_succ (a n : Nat) (r : List Nat) : (a :: r).getD (n + 1) 0 = r.getD n 0 := rfl

/-! ### ghosts -/

def closeS (st : St) (bs : List Nat) : St := { e := mapE (fzA st.heap bs) st.e, m := fzM st.heap bs st.m }
theorem gh_close (st : St) (bs : List Nat) : doGhost st (.close bs) = br (bs.all (fun b => Nat.ble 1000 b)) (some (closeS st bs)) none := by
  simp only [doGhost, closeS, bleD]
  cases bs.all (fun b => decide (1000 ≤ b)) <;> rfl
theorem closeS_eq (x : List (Nat × V)) (m : List (Nat × Blk)) (bs : List Nat) : closeS ⟨x, m⟩ bs = ⟨mapE (fzA (St.heap ⟨x, m⟩) bs) x, fzM (St.heap ⟨x, m⟩) bs m⟩ := rfl
theorem mapE_nil (g : V → V) : mapE g [] = [] := rfl
theorem mapE_cons (g : V → V) (t : Nat) (v : V) (r : List (Nat × V)) : mapE g ((t, v) :: r) = (t, g v) :: mapE g r := rfl
variable {bs : List Nat}
theorem fz_lit (v : Value) : fzA h bs (.lit v) = .lit v := rfl
theorem fz_imm (m : Nat) (r : List (List V)) : fzA h bs (.imm m r) = .imm m r := rfl
theorem fz_iptr (r : List V) (o : Nat) : fzA h bs (.iptr r o) = .iptr r o := rfl
theorem fz_undef : fzA h bs .undef = .undef := rfl
theorem fz_tup (vs : List V) : fzA h bs (.tup vs) = .undef := rfl
def fzO : Option (V × List Nat) → V
  | some (v, _) => v.cz
  | none => .undef
theorem fz_own (b s q : Nat) : fzA h bs (.sl b s q) = br (bs.contains b) (fzO (snap h (.sl b s q))) (.sl b s q) := by
  simp only [fzA, fzC, fzO]
  by_cases hb : b ∈ bs
  · simp [hb, br]; cases snap h (.sl b s q) <;> rfl
  · simp [hb, br]
theorem fz_ptr (b i o m : Nat) : fzA h bs (.ptr b i o m) = br (bs.contains b) .undef (.ptr b i o m) := by
  simp only [fzA, fzC]
  by_cases hb : b ∈ bs <;> simp [hb, br]
theorem fzO_some (v : V) (b : List Nat) : fzO (some (v, b)) = v.cz := rfl
theorem fz_agg (cs : List V) : fzA h bs (.agg cs) = br ((cs.map (fzC h bs)).all V.cell) (.agg (cs.map (fzC h bs))) .undef := by
  simp only [fzA]
  cases (cs.map (fzC h bs)).all V.cell <;> rfl
theorem fz_fn (f : FuncId) (cs : List V) : fzA h bs (.fn f cs) = br (cs.all okC && !(cs.flatMap refC).any (fun b => bs.contains b)) (.fn f cs) .undef := by
  simp only [fzA, fzC]
  have : (fun b => decide (b ∈ bs)) = fun b => bs.contains b := by funext b; simp [Bool.eq_iff_iff]
  rw [this]
  cases (cs.all okC && !(cs.flatMap refC).any (fun b => bs.contains b)) <;> rfl
theorem fzc_lit (v : Value) : fzC h bs (.lit v) = .lit v := rfl
theorem fzc_imm (m : Nat) (r : List (List V)) : fzC h bs (.imm m r) = .imm m r := rfl
theorem fzc_fn (f : FuncId) (cs : List V) : fzC h bs (.fn f cs) = br (cs.all okC && !(cs.flatMap refC).any (fun b => bs.contains b)) (.fn f cs) .undef := fz_fn (h := h) f cs
theorem okc_ptr (b i o m : Nat) : okC (.ptr b i o m) = true := rfl
theorem okc_own (b s q : Nat) : okC (.sl b s q) = true := rfl
theorem okc_lit (v : Value) : okC (.lit v) = true := rfl
theorem okc_imm (m : Nat) (r : List (List V)) : okC (.imm m r) = true := rfl
theorem okc_fn (f : FuncId) : okC (.fn f []) = true := rfl
theorem fzc_iptr (r : List V) (o : Nat) : fzC h bs (.iptr r o) = .iptr r o := rfl
theorem fzc_own (b s q : Nat) : fzC h bs (.sl b s q) = br (bs.contains b) (fzO (snap h (.sl b s q))) (.sl b s q) := fz_own b s q
theorem fzc_ptr (b i o m : Nat) : fzC h bs (.ptr b i o m) = br (bs.contains b) .undef (.ptr b i o m) := fz_ptr (h := h) b i o m
theorem fzM_nil : fzM h bs [] = [] := rfl
def fzK (h : Heap) (bs : List Nat) (k : Blk) : Blk := if k.op then (if (k.rows.map (·.map (fzC h bs))).all (·.all V.cell) then { k with rows := k.rows.map (·.map (fzC h bs)) } else dead) else k
theorem fzM_cons (b : Nat) (k : Blk) (r : List (Nat × Blk)) : fzM h bs ((b, k) :: r) = br (bs.contains b) (fzM h bs r) ((b, fzK h bs k) :: fzM h bs r) := by
  simp only [fzM, fzK]
  by_cases hb : b ∈ bs <;> simp [hb, br]
theorem fzK_ty (m : Nat) (r : List (List V)) : fzK h bs ⟨m, false, r⟩ = ⟨m, false, r⟩ := rfl
theorem fzK_op (m : Nat) (row : List V) : fzK h bs ⟨m, true, [row]⟩ = br ((row.map (fzC h bs)).all V.cell) ⟨m, true, [row.map (fzC h bs)]⟩ dead := by
  simp only [fzK, List.map_cons, List.map_nil, List.all_cons, List.all_nil, Bool.and_true, if_true]
  cases (row.map (fzC h bs)).all V.cell <;> rfl
/-! ### steps of a walk -/

section
variable {R : Type} {T : Tab} {ow : Owns} {k : AExit → St → Option R} {d : Option Nat} {n : Nat} {ss : List AStep} {live : List Nat} {K : List Fr} {st : St} {base i : Nat} {deps : List (List Nat)} {rs : List Rec} {fp : List Nat} {r : R}

theorem call_aft {h : Heap} {new : Nat} {ids bor : List Nat} {x : Option (V × List Blk)} {p : V × List Blk} (hx : x = some p) (hr : aft T ow k d n ss live K st (cpost h new ids bor (some p)) = some r) : aft T ow k d n ss live K st (cpost h new ids bor x) = some r := by
  rw [hx]; exact hr
theorem call_aftD {h : Heap} {new : Nat} {ids bor : List Nat} {x : Option (V × List Blk)} {p : V × List Blk} (hx : x = some p) (hr : aftD T ow k d base i ss deps live rs K st fp (cpost h new ids bor (some p)) = some r) : aftD T ow k d base i ss deps live rs K st fp (cpost h new ids bor x) = some r := by
  rw [hx]; exact hr
theorem nn_eq (b : Int) : nn b = decide (0 ≤ b) := rfl
theorem nz_eq (b : Int) : nz b = decide (b ≠ 0) := rfl
theorem inb_eq (i : Int) (n : Nat) : inb i n = (decide (0 ≤ i) && decide (i.toNat < n)) := rfl
end

end
/-! ### what operations look at -/

section
variable {ow : Owns} {ev : Opd → V} {h : Heap} {α : Type} {e : En α} {l : List α}
theorem fp_mv (x : Opd) : fpOf ow (.mv x) ev h = [] := rfl
theorem od_mv (x : Opd) : (AOp.mv x).opds = [x] := rfl
theorem fp_pick (c a b : Opd) : fpOf ow (.pick c a b) ev h = ((AOp.pick c a b).opds.map ev).flatMap refA := rfl
theorem od_pick (c a b : Opd) : (AOp.pick c a b).opds = [c, a, b] := rfl
theorem fp_alloc (z : List Value) : fpOf ow (.alloc z) ev h = ((AOp.alloc z).opds.map ev).flatMap refA := rfl
theorem od_alloc (z : List Value) : (AOp.alloc z).opds = [] := rfl
theorem fp_box (m : Nat) (x : Opd) : fpOf ow (.box m x) ev h = ((AOp.box m x).opds.map ev).flatMap refA := rfl
theorem od_box (m : Nat) (x : Opd) : (AOp.box m x).opds = [x] := rfl
theorem fp_build (z : List Value) (ps : List (Nat × Nat × Opd)) : fpOf ow (.build z ps) ev h = ((AOp.build z ps).opds.map ev).flatMap refA := rfl
theorem od_build (z : List Value) (ps : List (Nat × Nat × Opd)) : (AOp.build z ps).opds = ps.map (·.2.2) := rfl
theorem fp_buildSlice (m : Nat) (z : List Value) (l : Nat) (ps : List (Nat × Opd)) : fpOf ow (.buildSlice m z l ps) ev h = ((AOp.buildSlice m z l ps).opds.map ev).flatMap refA := rfl
theorem od_buildSlice (m : Nat) (z : List Value) (l : Nat) (ps : List (Nat × Opd)) : (AOp.buildSlice m z l ps).opds = ps.map (·.2) := rfl
theorem fp_load (g : Option Nat) (x : Opd) : fpOf ow (.load g x) ev h = ((AOp.load g x).opds.map ev).flatMap refA := rfl
theorem od_load (g : Option Nat) (x : Opd) : (AOp.load g x).opds = [x] := rfl
theorem fp_store (m : Nat) (x y : Opd) : fpOf ow (.store m x y) ev h = ((AOp.store m x y).opds.map ev).flatMap refA := rfl
theorem od_store (m : Nat) (x y : Opd) : (AOp.store m x y).opds = [x, y] := rfl
theorem fp_nilCheck (x : Opd) : fpOf ow (.nilCheck x) ev h = ((AOp.nilCheck x).opds.map ev).flatMap refA := rfl
theorem od_nilCheck (x : Opd) : (AOp.nilCheck x).opds = [x] := rfl
theorem fp_bin (op : BinOp) (x y : Opd) : fpOf ow (.bin op x y) ev h = ((AOp.bin op x y).opds.map ev).flatMap refA := rfl
theorem od_bin (op : BinOp) (x y : Opd) : (AOp.bin op x y).opds = [x, y] := rfl
theorem fp_eqAgg (b : Bool) (ks : List Bool) (x y : Opd) : fpOf ow (.eqAgg b ks x y) ev h = ((AOp.eqAgg b ks x y).opds.map ev).flatMap refA := rfl
theorem od_eqAgg (b : Bool) (ks : List Bool) (x y : Opd) : (AOp.eqAgg b ks x y).opds = [x, y] := rfl
theorem fp_beq (b : Bool) (x y : Opd) : fpOf ow (.beq b x y) ev h = ((AOp.beq b x y).opds.map ev).flatMap refA := rfl
theorem od_beq (b : Bool) (x y : Opd) : (AOp.beq b x y).opds = [x, y] := rfl
theorem fp_un (op : UnOp) (x : Opd) : fpOf ow (.un op x) ev h = ((AOp.un op x).opds.map ev).flatMap refA := rfl
theorem od_un (op : UnOp) (x : Opd) : (AOp.un op x).opds = [x] := rfl
theorem fp_toInt (k : IntKind) (x : Opd) : fpOf ow (.toInt k x) ev h = ((AOp.toInt k x).opds.map ev).flatMap refA := rfl
theorem od_toInt (k : IntKind) (x : Opd) : (AOp.toInt k x).opds = [x] := rfl
theorem fp_same (x : Opd) : fpOf ow (.same x) ev h = ((AOp.same x).opds.map ev).flatMap refA := rfl
theorem od_same (x : Opd) : (AOp.same x).opds = [x] := rfl
theorem fp_toBytes (x : Opd) : fpOf ow (.toBytes x) ev h = ((AOp.toBytes x).opds.map ev).flatMap refA := rfl
theorem od_toBytes (x : Opd) : (AOp.toBytes x).opds = [x] := rfl
theorem fp_toStr (x : Opd) : fpOf ow (.toStr x) ev h = ((AOp.toStr x).opds.map ev).flatMap refA := rfl
theorem od_toStr (x : Opd) : (AOp.toStr x).opds = [x] := rfl
theorem fp_makeFunc (f : FuncId) (cs : List Opd) : fpOf ow (.makeFunc f cs) ev h = [] := rfl
theorem od_makeFunc (f : FuncId) (cs : List Opd) : (AOp.makeFunc f cs).opds = cs := rfl
theorem fp_makeSlice (m b : Nat) (z : List Value) (x y : Opd) : fpOf ow (.makeSlice m b z x y) ev h = ((AOp.makeSlice m b z x y).opds.map ev).flatMap refA := rfl
theorem od_makeSlice (m b : Nat) (z : List Value) (x y : Opd) : (AOp.makeSlice m b z x y).opds = [x, y] := rfl
theorem fp_sliceStr (x : Opd) (lo hi : Option Opd) : fpOf ow (.sliceStr x lo hi) ev h = ((AOp.sliceStr x lo hi).opds.map ev).flatMap refA := rfl
theorem od_sliceStr (x : Opd) (lo hi : Option Opd) : (AOp.sliceStr x lo hi).opds = x :: (optL lo ++ optL hi) := rfl
theorem fp_slice (m : Nat) (x : Opd) (lo hi mx : Option Opd) : fpOf ow (.slice m x lo hi mx) ev h = ((AOp.slice m x lo hi mx).opds.map ev).flatMap refA := rfl
theorem od_slice (m : Nat) (x : Opd) (lo hi mx : Option Opd) : (AOp.slice m x lo hi mx).opds = x :: (optL lo ++ (optL hi ++ optL mx)) := rfl
theorem fp_off (m : Nat) (x : Opd) : fpOf ow (.off m x) ev h = [] := rfl
theorem od_off (m : Nat) (x : Opd) : (AOp.off m x).opds = [x] := rfl
theorem fp_field (m : Nat) (g : Option Nat) (x : Opd) : fpOf ow (.field m g x) ev h = ((AOp.field m g x).opds.map ev).flatMap refA := rfl
theorem od_field (m : Nat) (g : Option Nat) (x : Opd) : (AOp.field m g x).opds = [x] := rfl
theorem fp_idx (m : Nat) (x y : Opd) : fpOf ow (.idx m x y) ev h = ((AOp.idx m x y).opds.map ev).flatMap refA := rfl
theorem od_idx (m : Nat) (x y : Opd) : (AOp.idx m x y).opds = [x, y] := rfl
theorem fp_idxArr (m q : Nat) (x y : Opd) : fpOf ow (.idxArr m q x y) ev h = ((AOp.idxArr m q x y).opds.map ev).flatMap refA := rfl
theorem od_idxArr (m q : Nat) (x y : Opd) : (AOp.idxArr m q x y).opds = [x, y] := rfl
theorem fp_ixStr (x y : Opd) : fpOf ow (.ixStr x y) ev h = ((AOp.ixStr x y).opds.map ev).flatMap refA := rfl
theorem od_ixStr (x y : Opd) : (AOp.ixStr x y).opds = [x, y] := rfl
theorem fp_ixAgg (m q : Nat) (g : Option Nat) (x y : Opd) : fpOf ow (.ixAgg m q g x y) ev h = ((AOp.ixAgg m q g x y).opds.map ev).flatMap refA := rfl
theorem od_ixAgg (m q : Nat) (g : Option Nat) (x y : Opd) : (AOp.ixAgg m q g x y).opds = [x, y] := rfl
theorem fp_ext (x : Opd) (i : Nat) : fpOf ow (.ext x i) ev h = [] := rfl
theorem od_ext (x : Opd) (i : Nat) : (AOp.ext x i).opds = [x] := rfl
theorem fp_len (b : Bool) (x : Opd) : fpOf ow (.len b x) ev h = [] := rfl
theorem od_len (b : Bool) (x : Opd) : (AOp.len b x).opds = [x] := rfl
theorem fp_lenArr (m : Nat) (x : Opd) : fpOf ow (.lenArr m x) ev h = ((AOp.lenArr m x).opds.map ev).flatMap refA := rfl
theorem od_lenArr (m : Nat) (x : Opd) : (AOp.lenArr m x).opds = [x] := rfl
theorem fp_appendN (m b : Nat) (z : List Value) (x y : Opd) : fpOf ow (.appendN m b z x y) ev h = ((AOp.appendN m b z x y).opds.map ev).flatMap refA := rfl
theorem od_appendN (m b : Nat) (z : List Value) (x y : Opd) : (AOp.appendN m b z x y).opds = [x, y] := rfl
theorem fp_isNil (b : Bool) (x : Opd) : fpOf ow (.isNil b x) ev h = ((AOp.isNil b x).opds.map ev).flatMap refA := rfl
theorem od_isNil (b : Bool) (x : Opd) : (AOp.isNil b x).opds = [x] := rfl
theorem fp_append (m b : Nat) (z : List Value) (x y : Opd) : fpOf ow (.append m b z x y) ev h = ((AOp.append m b z x y).opds.map ev).flatMap refA := rfl
theorem od_append (m b : Nat) (z : List Value) (x y : Opd) : (AOp.append m b z x y).opds = [x, y] := rfl
theorem fp_copy (m : Nat) (x y : Opd) : fpOf ow (.copy m x y) ev h = ((AOp.copy m x y).opds.map ev).flatMap refA := rfl
theorem od_copy (m : Nat) (x y : Opd) : (AOp.copy m x y).opds = [x, y] := rfl
theorem fp_max2 (x y : Opd) : fpOf ow (.max2 x y) ev h = ((AOp.max2 x y).opds.map ev).flatMap refA := rfl
theorem od_max2 (x y : Opd) : (AOp.max2 x y).opds = [x, y] := rfl
theorem fp_min2 (x y : Opd) : fpOf ow (.min2 x y) ev h = ((AOp.min2 x y).opds.map ev).flatMap refA := rfl
theorem od_min2 (x y : Opd) : (AOp.min2 x y).opds = [x, y] := rfl
theorem fp_bytesOwn (x : Opd) : fpOf ow (.bytesOwn x) ev h = ((AOp.bytesOwn x).opds.map ev).flatMap refA := rfl
theorem od_bytesOwn (x : Opd) : (AOp.bytesOwn x).opds = [x] := rfl
theorem fp_arrOf (m : Nat) (x : Opd) : fpOf ow (.arrOf m x) ev h = ((AOp.arrOf m x).opds.map ev).flatMap refA := rfl
theorem od_arrOf (m : Nat) (x : Opd) : (AOp.arrOf m x).opds = [x] := rfl
theorem optL_s (x : Opd) : optL (some x) = [x] := rfl
theorem optL_n : optL none = [] := rfl
def fpC : Option (List V × List Blk × List Nat × List Nat) → List Nat
  | some (_, _, ids, bor) => ids ++ bor
  | none => []
theorem fpC_some (a : List V) (b : List Blk) (ids bor : List Nat) : fpC (some (a, b, ids, bor)) = ids ++ bor := rfl
theorem fp_call (f : FuncId) (args : List Opd) : fpOf ow (.call f args) ev h = fpC (callPrep ow h f (args.map ev)) := by
  show fpCall ow h f (args.map ev) = _
  unfold fpCall fpC
  cases callPrep ow h f (args.map ev) <;> rfl
def fpD (ow : Owns) (h : Heap) (args : List V) : V → List Nat
  | .fn k caps => fpC (callPrep ow h k (args ++ caps))
  | _ => []
theorem fp_dyn (f : Opd) (args : List Opd) : fpOf ow (.dyn f args) ev h = fpD ow h (args.map ev) (ev f) := by
  show (match ev f with
    | .fn k caps => fpCall ow h k (args.map ev ++ caps)
    | _ => []) = _
  cases ev f <;> first | rfl | (simp only [fpD, fpCall, fpC]; cases callPrep ow h _ _ <;> rfl)
theorem fpD_fn (args : List V) (k : FuncId) (caps : List V) : fpD ow h args (.fn k caps) = fpC (callPrep ow h k (args ++ caps)) := rfl
theorem rfA_agg (cs : List V) : refA (.agg cs) = cs.flatMap refC := rfl
theorem rfA_fn (f : FuncId) (cs : List V) : refA (.fn f cs) = cs.flatMap refC := rfl
theorem rfA_tup (cs : List V) : refA (.tup cs) = cs.flatMap fun | .agg cs => cs.flatMap refC | v => refC v := rfl
theorem rfA_lit (v : Value) : refA (.lit v) = [] := rfl
theorem rfA_imm (m : Nat) (r : List (List V)) : refA (.imm m r) = [] := rfl
theorem rfA_iptr (r : List V) (o : Nat) : refA (.iptr r o) = [] := rfl
theorem rfA_ptr (b i o m : Nat) : refA (.ptr b i o m) = [b] := rfl
theorem rfA_own (b s q : Nat) : refA (.sl b s q) = [b] := rfl
theorem rfA_undef : refA .undef = [] := rfl
theorem rfC_lit (v : Value) : refC (.lit v) = [] := rfl
theorem rfC_imm (m : Nat) (r : List (List V)) : refC (.imm m r) = [] := rfl
theorem rfC_iptr (r : List V) (o : Nat) : refC (.iptr r o) = [] := rfl
theorem rfC_ptr (b i o m : Nat) : refC (.ptr b i o m) = [b] := rfl
theorem rfC_own (b s q : Nat) : refC (.sl b s q) = [b] := rfl
theorem rfC_fn (f : FuncId) (cs : List V) : refC (.fn f cs) = [] := rfl
theorem rfC_undef : refC .undef = [] := rfl
theorem restrict_eq (fp : List Nat) (b : Nat) : restrict h fp b = br (fp.contains b) (h b) none := by
  unfold restrict
  by_cases hb : b ∈ fp <;> simp [hb, br]
theorem recs_eq (rs : List Rec) (i : Nat) (fp wr : List Nat) : recs rs i fp wr = br (fp.isEmpty && wr.isEmpty) rs (rs ++ [⟨i, fp, wr⟩]) := by
  have h : Rec.loud ⟨i, fp, wr⟩ = !(fp.isEmpty && wr.isEmpty) := rfl
  unfold recs
  cases h1 : Rec.loud ⟨i, fp, wr⟩ with
  | true =>
    rw [h1] at h
    have h2 : (fp.isEmpty && wr.isEmpty) = false := by
      cases hx : fp.isEmpty && wr.isEmpty with
      | false => rfl
      | true => rw [hx] at h; cases h
    rw [h2, br_false, List.filter_cons_of_pos h1]; rfl
  | false =>
    rw [h1] at h
    have h2 : (fp.isEmpty && wr.isEmpty) = true := by
      cases hx : fp.isEmpty && wr.isEmpty with
      | true => rfl
      | false => rw [hx] at h; cases h
    rw [h2, br_true, List.filter_cons_of_neg (by rw [h1]; decide)]; simp
theorem pairs_nil (deps : List (List Nat)) : pairsOK deps [] = true := rfl
theorem pairs_cons (deps : List (List Nat)) (p : Rec) (r : List Rec) : pairsOK deps (p :: r) = (okWith deps p r && pairsOK deps r) := rfl
theorem okW_nil (deps : List (List Nat)) (p : Rec) : okWith deps p [] = true := rfl
theorem okW_cons (deps : List (List Nat)) (i j : Nat) (f g w u : List Nat) (r : List Rec) : okWith deps ⟨i, f, w⟩ (⟨j, g, u⟩ :: r) = ((w.isEmpty && u.isEmpty || (deps.getD j []).contains i || !(w.any (fun b => decide (b ∈ g) || decide (b ∈ u)) || u.any (fun b => decide (b ∈ f)))) && okWith deps ⟨i, f, w⟩ r) := rfl
theorem getDl_zero {β : Type} (a d : β) (r : List β) : (a :: r).getD 0 d = a := rfl
theorem getDl_succ {β : Type} (a d : β) (n : Nat) (r : List β) : (a :: r).getD (n + 1) d = r.getD n d := rfl
theorem boxS_eq (m : Nat) (cs : List V) (n : Nat) : boxS m cs h n = br (Nat.beq cs.length m && cs.all V.cell) (frO (h n) n ⟨m, true, [cs]⟩ (.ptr n 0 0 1)) none := rfl
theorem wrap_i64 (x : Int) (h1 : -9223372036854775808 ≤ x) (h2 : x < 9223372036854775808) : IntKind.wrap .i64 x = x := by
  simp [IntKind.wrap, IntKind.bits, IntKind.signed]; omega
theorem wrap_u64 (x : Int) (h1 : 0 ≤ x) (h2 : x < 18446744073709551616) : IntKind.wrap .u64 x = x := by
  simp [IntKind.wrap, IntKind.bits, IntKind.signed]; omega
theorem wrap_u8 (x : Int) (h1 : 0 ≤ x) (h2 : x < 256) : IntKind.wrap .u8 x = x := by
  simp [IntKind.wrap, IntKind.bits, IntKind.signed]; omega
theorem ofNat_int (n : Nat) : (OfNat.ofNat n : Int) = (n : Int) := rfl
theorem wrap_lit (n : Nat) (h : Nat.ble n 9223372036854775807 = true) : IntKind.wrap .i64 (no_index (OfNat.ofNat n : Int)) = OfNat.ofNat n := by
  have h1 := Nat.le_of_ble_eq_true h
  rw [ofNat_int]; exact wrap_i64 _ (by omega) (by omega)
theorem wrap_litu (n : Nat) (h : Nat.ble n 18446744073709551615 = true) : IntKind.wrap .u64 (no_index (OfNat.ofNat n : Int)) = OfNat.ofNat n := by
  have h1 := Nat.le_of_ble_eq_true h
  rw [ofNat_int]; exact wrap_u64 _ (by omega) (by omega)
theorem wrap_lit8 (n : Nat) (h : Nat.ble n 255 = true) : IntKind.wrap .u8 (no_index (OfNat.ofNat n : Int)) = OfNat.ofNat n := by
  have h1 := Nat.le_of_ble_eq_true h
  rw [ofNat_int]; exact wrap_u8 _ (by omega) (by omega)
theorem natbeq (a b : Nat) : (a == b) = decide (a = b) := by
  by_cases h : a = b
  · subst h; simp
  · rw [decide_eq_false h]; simpa using h
theorem range0 : List.range 0 = [] := rfl
theorem keepOf_eq (m : Nat) (vs : List V) : keepOf m vs = keepL m [] (vs.flatMap refA) := rfl
theorem keepL_nil (m : Nat) (acc : List Nat) : keepL m acc [] = acc := rfl
theorem keepL_cons (m b : Nat) (acc r : List Nat) : keepL m acc (b :: r) = keepL m (br (Nat.ble m b) (withId acc b) acc) r := by
  simp only [keepL, bleD]
  by_cases h : m ≤ b <;> simp [h, br]
theorem toNat_lit (n : Nat) : Int.toNat (no_index (OfNat.ofNat n : Int)) = OfNat.ofNat n := rfl
end

end Go.AI
