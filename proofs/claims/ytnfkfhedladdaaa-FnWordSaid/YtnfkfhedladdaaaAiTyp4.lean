/- Arrays of whole numbers, as lists: the machine's words on their cells. -/
import Derived.Test.YtnfkfhedladdaaaAiTyp3
set_option linter.unusedVariables false
set_option linter.unusedSimpArgs false
namespace Go.AI

/-- The cells of an array of whole numbers. -/
def ar (k : IntKind) (l : List Int) : List V := l.map fun n => .lit (.int k n)
/-- Noughts. -/
def nZ (n : Nat) : List Int := List.replicate n 0
/-- An array of noughts. -/
def zar (k : IntKind) (n : Nat) : List Value := List.replicate n (.int k 0)
/-- Parts that are numbers written out. -/
def cpar (k : IntKind) : Nat → List Int → List (Nat × Nat × Opd)
  | _, [] => []
  | i, c :: r => (i, 1, .c (.int k c)) :: cpar k (i + 1) r

theorem ofInt_wrap (x : Int) : UInt8.ofInt (IntKind.u8.wrap x) = UInt8.ofInt x := by
  have h := u8_wrap_toNat (IntKind.u8.wrap x)
  have h2 := u8_wrap_toNat x
  have h3 : IntKind.u8.wrap (IntKind.u8.wrap x) = IntKind.u8.wrap x := by
    simp [IntKind.wrap, IntKind.bits, IntKind.signed]
  apply UInt8.toNat.inj
  rw [h3] at h
  omega
theorem set8_or64 (l : List UInt8) (i : Nat) (a b : Int) : setR (rws eU8 l) i [.lit (.int .u8 (or64 .u8 a b))] = rws eU8 (l.set i (UInt8.ofInt (or64 .u8 a b))) := by
  unfold or64; rw [setU8w, ofInt_wrap]
theorem cons8_or64 (l : List UInt8) (a b : Int) : consR [.lit (.int .u8 (or64 .u8 a b))] (rws eU8 l) = rws eU8 (UInt8.ofInt (or64 .u8 a b) :: l) := by
  unfold or64; rw [consU8w, ofInt_wrap]
theorem set8_and64 (l : List UInt8) (i : Nat) (a b : Int) : setR (rws eU8 l) i [.lit (.int .u8 (and64 .u8 a b))] = rws eU8 (l.set i (UInt8.ofInt (and64 .u8 a b))) := by
  unfold and64; rw [setU8w, ofInt_wrap]
theorem cons8_and64 (l : List UInt8) (a b : Int) : consR [.lit (.int .u8 (and64 .u8 a b))] (rws eU8 l) = rws eU8 (UInt8.ofInt (and64 .u8 a b) :: l) := by
  unfold and64; rw [consU8w, ofInt_wrap]
theorem set8_xor64 (l : List UInt8) (i : Nat) (a b : Int) : setR (rws eU8 l) i [.lit (.int .u8 (xor64 .u8 a b))] = rws eU8 (l.set i (UInt8.ofInt (xor64 .u8 a b))) := by
  unfold xor64; rw [setU8w, ofInt_wrap]
theorem cons8_xor64 (l : List UInt8) (a b : Int) : consR [.lit (.int .u8 (xor64 .u8 a b))] (rws eU8 l) = rws eU8 (UInt8.ofInt (xor64 .u8 a b) :: l) := by
  unfold xor64; rw [consU8w, ofInt_wrap]
theorem set8_shl64 (l : List UInt8) (i : Nat) (a b : Int) : setR (rws eU8 l) i [.lit (.int .u8 (shl64 .u8 a b))] = rws eU8 (l.set i (UInt8.ofInt (shl64 .u8 a b))) := by
  unfold shl64; rw [setU8w, ofInt_wrap]
theorem cons8_shl64 (l : List UInt8) (a b : Int) : consR [.lit (.int .u8 (shl64 .u8 a b))] (rws eU8 l) = rws eU8 (UInt8.ofInt (shl64 .u8 a b) :: l) := by
  unfold shl64; rw [consU8w, ofInt_wrap]
theorem fzK_dead {h : Heap} {bs : List Nat} : fzK h bs dead = dead := rfl
theorem copyL_len {α : Type} {l r : List α} {s q : Nat} (hq : l.length = q) : (copyL l s (min r.length (q - s)) r).length = q := by
  subst hq
  simp only [copyL, List.length_append, List.length_take, List.length_drop]
  omega
theorem copyL_len0 {α : Type} {l r : List α} {q : Nat} (hq : l.length = q) : (copyL l 0 (min r.length q) r).length = q := by
  subst hq
  simp only [copyL, List.length_append, List.length_take, List.length_drop]
  omega

section
variable {C : CallS} {ow : Owns} {ev : Opd → V} {h : Heap} {n : Nat} {k : IntKind} {l l2 : List Int}

theorem ar_len : (ar k l).length = l.length := by simp [ar]
theorem ar_nil : ar k [] = [] := rfl
theorem ar_cons (a : Int) : ar k (a :: l) = .lit (.int k a) :: ar k l := rfl
theorem ar_cz : (ar k l).map V.cz = ar k l := by
  induction l with
  | nil => rfl
  | cons a l ih => rw [ar_cons, List.map_cons, ih]; rfl
theorem ar_unV (ids : List Nat) : (ar k l).map (unV ids) = ar k l := by
  induction l with
  | nil => rfl
  | cons a l ih => rw [ar_cons, List.map_cons, ih]; rfl
theorem ar_unArg (ids : List Nat) : (ar k l).map (unArg ids) = ar k l := by
  induction l with
  | nil => rfl
  | cons a l ih => rw [ar_cons, List.map_cons, ih]; rfl
theorem ar_fzC (bs : List Nat) : (ar k l).map (fzC h bs) = ar k l := by
  induction l with
  | nil => rfl
  | cons a l ih => rw [ar_cons, List.map_cons, ih]; rfl
theorem ar_cell : (ar k l).all V.cell = true := by
  induction l with
  | nil => rfl
  | cons a l ih => rw [ar_cons, List.all_cons, ih]; rfl
theorem ar_flatC : (ar k l).all flatC = true := by
  induction l with
  | nil => rfl
  | cons a l ih => rw [ar_cons, List.all_cons, ih]; rfl
theorem ar_refC : (ar k l).flatMap refC = [] := by
  induction l with
  | nil => rfl
  | cons a l ih => rw [ar_cons, List.flatMap_cons, ih]; rfl
theorem ar_finCs (m : Nat) (kp : List Nat) : finCs h m kp (ar k l) = some (ar k l) := by
  induction l with
  | nil => rfl
  | cons a l ih => rw [ar_cons, finCs_cons, ih]; rfl
theorem ar_finDs (m : Nat) (kp : List Nat) : finDs h m kp (ar k l) = some (ar k l) := by
  induction l with
  | nil => rfl
  | cons a l ih => rw [ar_cons, finDs_cons, ih]; rfl
theorem ar_locD (ids : List Nat) : locDs h ids (ar k l) = some (ar k l, ids) := by
  induction l with
  | nil => rfl
  | cons a l ih => rw [ar_cons, locDs_cons, lg_lit, ld1_some, ih]; rfl
theorem ar_loc (own : Bool) (ids : List Nat) : locCells h own ids (ar k l) = some (ar k l, ids, []) := by
  induction l with
  | nil => rfl
  | cons a l ih => rw [ar_cons, locCells_cons, lc_lit, lcs1_some, ih]; rfl
theorem agg_cells : (V.agg (ar k l)).cells = ar k l := rfl

theorem part_ar (i : Nat) : part none (ar k l) i = (l[i]?).bind fun x => some (.lit (.int k x)) := by
  simp only [part, ar, List.getElem?_map]
  cases l[i]? <;> rfl
def partX (m : Nat) (k : IntKind) (l : List Int) : Option V := part (some m) (ar k l) 0
theorem part_ars (m : Nat) : part (some m) (ar k l) 0 = br (Nat.beq l.length m) (some (.agg (ar k l))) (partX m k l) := by
  rw [beqD]
  by_cases hm : l.length = m
  · subst hm
    simp only [part, ar_len, decide_true, br_true]
    rw [if_pos (by omega), List.drop_zero, List.take_of_length_le (by rw [ar_len]; omega)]
  · rw [decide_eq_false hm, br_false]; rfl
theorem ldS_br (c : Bool) (x y : Option V) : ldS (br c x y) = br c (ldS x) (ldS y) := by cases c <;> rfl

theorem o_allocA (k : IntKind) (m q : Nat) : opSem C ow (.alloc (zar k m)) ev h q = frO (h q) q ⟨m, true, [ar k (nZ m)]⟩ (.ptr q 0 0 1) := by
  rw [o_alloc]
  have h1 : (zar k m).all litCell = true := by simp [zar, litCell]
  have h2 : (zar k m).map V.lit = ar k (nZ m) := by simp [zar, ar, nZ]
  rw [h1, br_true, h2]
  simp [zar]
theorem o_buildA0 (k : IntKind) (m q : Nat) : opSem C ow (.build (zar k m) []) ev h q = some (.agg (ar k (nZ m)), []) := by
  rw [o_build]
  have h1 : (zar k m).all litCell = true := by simp [zar, litCell]
  have h2 : (zar k m).map V.lit = ar k (nZ m) := by simp [zar, ar, nZ]
  rw [h1, br_true, h2]; rfl

theorem partsEv_cpar (f : Nat → V) : ∀ (cs : List Int) (i : Nat), partsEv (Opd.ev f) (cpar k i cs) = (cs.zipIdx i).map fun p => (p.2, 1, .lit (.int k p.1))
  | [], i => rfl
  | c :: cs, i => by
    show (i, 1, _) :: partsEv _ (cpar k (i + 1) cs) = _
    rw [partsEv_cpar f cs (i + 1)]; rfl
theorem fill_cpar : ∀ (cs : List Int) (pre : List Int), fillC (ar k (pre ++ List.replicate cs.length 0)) ((cs.zipIdx pre.length).map fun p => (p.2, 1, .lit (.int k p.1))) = some (ar k (pre ++ cs))
  | [], pre => by simp [fillC]
  | c :: cs, pre => by
    have ih := fill_cpar cs (pre ++ [c])
    simp only [List.zipIdx_cons, List.map_cons, fillC]
    rw [if_pos ⟨rfl, by rw [ar_len, List.length_append, List.length_replicate, List.length_cons]; omega, rfl⟩]
    have e1 : (ar k (pre ++ List.replicate (c :: cs).length 0)).take pre.length = ar k pre := by simp [ar]
    have e2 : (ar k (pre ++ List.replicate (c :: cs).length 0)).drop (pre.length + 1) = ar k (List.replicate cs.length 0) := by
      simp [ar, List.drop_append]
    rw [e1, e2]
    have e3 : ar k pre ++ ((V.lit (.int k c)).cells ++ ar k (List.replicate cs.length 0)) = ar k ((pre ++ [c]) ++ List.replicate cs.length 0) := by simp [ar, V.cells]
    have e4 : pre ++ c :: cs = (pre ++ [c]) ++ cs := by simp
    rw [e3, e4, ← ih]
    simp
theorem o_buildA (st : St) (k : IntKind) (m q : Nat) (cs : List Int) (hm : Nat.beq cs.length m = true) : opSem C ow (.build (zar k m) (cpar k 0 cs)) st.ev h q = some (.agg (ar k cs), []) := by
  show opSem C ow (.build (zar k m) (cpar k 0 cs)) (Opd.ev st.get) h q = some (.agg (ar k cs), [])
  have hm := Nat.eq_of_beq_eq_true hm
  subst hm
  have h1 : (zar k cs.length).all litCell = true := by simp [zar, litCell]
  have h2 : (zar k cs.length).map V.lit = ar k (List.replicate cs.length 0) := by simp [zar, ar]
  rw [o_build, h1, br_true, h2, partsEv_cpar, ← fillC_eq]
  have := fill_cpar (k := k) cs []
  simp only [List.nil_append, List.length_nil] at this
  rw [this]; rfl
theorem od_cpar : ∀ (cs : List Int) (i : Nat) (f : Nat → V), (((cpar k i cs).map (·.2.2)).map (Opd.ev f)).flatMap refA = []
  | [], _, _ => rfl
  | c :: cs, i, f => by
    show refA (.lit _) ++ (((cpar k (i + 1) cs).map (·.2.2)).map (Opd.ev f)).flatMap refA = []
    rw [od_cpar cs (i + 1) f]; rfl
theorem fp_buildA (st : St) (k : IntKind) (m : Nat) (cs : List Int) : fpOf ow (.build (zar k m) (cpar k 0 cs)) st.ev h = [] := by
  show fpOf ow (.build (zar k m) (cpar k 0 cs)) (Opd.ev st.get) h = []
  rw [fp_build, od_build, od_cpar]

theorem stO_ar (m b o : Nat) (x : Int) : stO (some ⟨m, true, [ar k l]⟩) b 1 0 o 1 (.lit (.int k x)) h = br (decide (o < l.length)) (some (.undef, [(b, ⟨m, true, [ar k (l.set o x)]⟩)])) none := by
  rw [stO_op]
  simp only [cells_lit, List.length_cons, List.length_nil, ar_len, List.all_cons, cell_int, List.all_nil, Bool.and_true]
  have e0 : Nat.beq (0 + 1) 1 = true := rfl
  rw [e0, Bool.true_and, bleD]
  by_cases ho : o < l.length
  · rw [decide_eq_true (show o + 1 ≤ l.length by omega), decide_eq_true ho, br_true, br_true]
    have : (ar k l).take o ++ ([V.lit (.int k x)] ++ (ar k l).drop (o + 1)) = ar k (l.set o x) := by
      rw [List.set_eq_take_append_cons_drop, if_pos ho]; simp [ar]
    rw [this]
  · rw [decide_eq_false (show ¬ o + 1 ≤ l.length by omega), decide_eq_false ho, br_false, br_false]
def stOX (m b q : Nat) (x : V) (row : List V) (h : Heap) : Option (V × Upd) := stO (some ⟨m, true, [row]⟩) b q 0 0 1 x h
theorem stO_arw (m b q : Nat) : stO (some ⟨m, true, [ar k l]⟩) b q 0 0 1 (.agg (ar k l2)) h = br (Nat.beq l2.length q && Nat.beq l.length q) (some (.undef, [(b, ⟨m, true, [ar k l2]⟩)])) (stOX m b q (.agg (ar k l2)) (ar k l) h) := by
  rw [beqD, beqD]
  by_cases h1 : l2.length = q
  · by_cases h2 : l.length = q
    · rw [decide_eq_true h1, decide_eq_true h2, Bool.and_true, br_true, stO_op]
      simp only [agg_cells, ar_len, ar_cell, Bool.and_true]
      rw [h1, h2, beqD, bleD, decide_eq_true rfl, decide_eq_true (show 0 + q ≤ q by omega), Bool.and_true, br_true]
      rw [List.take_zero, List.nil_append, List.drop_eq_nil_of_le (by rw [ar_len]; omega), List.append_nil]
    · rw [decide_eq_false h2, Bool.and_false, br_false]; rfl
  · rw [decide_eq_false h1, Bool.false_and, br_false]; rfl
theorem rs1_br (c : Bool) (x y : Option V) (z : Option (List V)) : rs1 (br c x y) z = br c (rs1 x z) (rs1 y z) := by cases c <;> rfl
theorem rs1_br2 (c : Bool) (v : V) (x y : Option (List V)) : rs1 (some v) (br c x y) = br c (rs1 (some v) x) (rs1 (some v) y) := by cases c <;> rfl
theorem fin1_br (keep raw : Bool) (m : Nat) (c : Bool) (x y : Option (List V)) : fin1 keep raw m h (br c x y) = br c (fin1 keep raw m h x) (fin1 keep raw m h y) := by cases c <;> rfl
end
end Go.AI
