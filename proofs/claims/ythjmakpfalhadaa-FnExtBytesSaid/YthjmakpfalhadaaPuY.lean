/- Reading elements back. -/
import Derived.Test.YthjmakpfalhadaaPuX
set_option linter.unusedVariables false
namespace Go.AI.Fn

def be (w x y z : UInt8) : Int := (((w.toNat : Int) * 256 + x.toNat) * 256 + y.toNat) * 256 + z.toNat
def dec : List UInt8 → List Ext
  | a :: b :: c :: d :: e :: f :: g :: h :: r => ⟨be a b c d, be e f g h⟩ :: dec r
  | _ => []
theorem dec_short {l : List UInt8} (h : l.length < 8) : dec l = [] := by
  match l, h with
  | [], _ => rfl
  | [_], _ => rfl
  | [_, _], _ => rfl
  | [_, _, _], _ => rfl
  | [_, _, _, _], _ => rfl
  | [_, _, _, _, _], _ => rfl
  | [_, _, _, _, _, _], _ => rfl
  | [_, _, _, _, _, _, _], _ => rfl
  | _ :: _ :: _ :: _ :: _ :: _ :: _ :: _ :: r, h => simp at h; omega
theorem long {l : List UInt8} (h : 8 ≤ l.length) : ∃ a b c d e f g k r, l = a :: b :: c :: d :: e :: f :: g :: k :: r := by
  match l, h with
  | a :: b :: c :: d :: e :: f :: g :: k :: r, _ => exact ⟨a, b, c, d, e, f, g, k, r, rfl⟩
theorem dec_len (l : List UInt8) : (dec l).length = l.length / 8 := by
  generalize hn : l.length = n
  induction n using Nat.strongRecOn generalizing l with
  | _ n ih =>
    by_cases h : l.length < 8
    · rw [dec_short h, List.length_nil]; omega
    · obtain ⟨a, b, c, d, e, f, g, k, r, rfl⟩ := long (l := l) (by omega)
      simp only [List.length_cons] at hn
      simp only [dec, List.length_cons, ih r.length (by omega) r rfl]; omega

theorem or_byte {n : Int} (x : UInt8) (h0 : 0 ≤ n) (h1 : n < 16777216) : or64 .i64 (shl64 .i64 n 8) (IntKind.wrap .i64 (x.toNat : Int)) = n * 256 + x.toNat := by
  have hx := u8_lt x
  have e1 : shl64 .i64 n 8 = n * 256 := by
    have : n * 2 ^ (min (8 : Int).toNat (IntKind.bits .i64)) = n * 256 := by
      have : (2 : Int) ^ (min (8 : Int).toNat (IntKind.bits .i64)) = 256 := by decide
      rw [this]
    unfold shl64
    rw [this, wrap_i64 _ (by omega) (by omega)]
  rw [e1, wrap_i64 (x.toNat : Int) (by omega) (by omega)]
  unfold or64
  obtain ⟨m, rfl⟩ := Int.eq_ofNat_of_zero_le h0
  have e2 : (BitVec.ofInt (IntKind.bits .i64) ((m : Int) * 256) ||| BitVec.ofInt (IntKind.bits .i64) (x.toNat : Int)).toNat = m * 256 + x.toNat := by
    rw [BitVec.toNat_or, BitVec.toNat_ofInt, BitVec.toNat_ofInt]
    have b1 : (((m : Int) * 256) % ((2 ^ (IntKind.bits .i64) : Nat) : Int)).toNat = m <<< 8 := by
      rw [show ((2 ^ (IntKind.bits .i64) : Nat) : Int) = 18446744073709551616 by decide, Nat.shiftLeft_eq]; omega
    have b2 : ((x.toNat : Int) % ((2 ^ (IntKind.bits .i64) : Nat) : Int)).toNat = x.toNat := by
      rw [show ((2 ^ (IntKind.bits .i64) : Nat) : Int) = 18446744073709551616 by decide]; omega
    rw [b1, b2, ← Nat.shiftLeft_add_eq_or_of_lt (show x.toNat < 2 ^ 8 by omega), Nat.shiftLeft_eq]
  rw [e2, wrap_i64 _ (by omega) (by omega)]
  omega

theorem i_number_eq (w x y z : UInt8) : i_number [w, x, y, z] = some (be w x y z) := by
  have hw := u8_lt w
  have hx := u8_lt x
  have hy := u8_lt y
  have hz := u8_lt z
  unfold i_number
  have st : ∀ (n t : Int) (b : UInt8), 0 ≤ n → n < 16777216 → 0 ≤ t → t < 4 → [w, x, y, z][t.toNat]? = some b → i_number_1_s [w, x, y, z] (([w, x, y, z].length : Nat) : Int) (n, t) = some (.inl (n * 256 + b.toNat, t + 1)) := by
    intro n t b h0 h1 h2 h3 h4
    simp only [i_number_1_s]
    rw [brd (by simp only [List.length_cons, List.length_nil]; omega), show atL [w, x, y, z] t = some b by simp [atL, h2, h4]]
    simp only [Option.bind_some]
    rw [or_byte b h0 h1, wrap_i64 (t + 1) (by omega) (by omega)]
  rw [Loop_inl (st 0 0 w (by omega) (by omega) (by omega) (by omega) rfl), Loop_inl (st _ _ x (by omega) (by omega) (by omega) (by omega) rfl), Loop_inl (st _ _ y (by omega) (by omega) (by omega) (by omega) rfl), Loop_inl (st _ _ z (by omega) (by omega) (by omega) (by omega) rfl)]
  rw [Loop_inr (e := (be w x y z, 4, false)) ?_]
  · rfl
  · simp only [i_number_1_s]
    rw [brn (by simp only [List.length_cons, List.length_nil]; omega)]
    simp [be]

theorem s_four_eq (w x y z : UInt8) : s_l02Four [w, x, y, z] = some (be w x y z) := by
  have hw := u8_lt w
  have hx := u8_lt x
  have hy := u8_lt y
  have hz := u8_lt z
  unfold s_l02Four
  have st : ∀ (n t : Int) (b : UInt8), 0 ≤ n → n < 16777216 → 0 ≤ t → t < 4 → [w, x, y, z][t.toNat]? = some b → s_l02Four_1_s [w, x, y, z] (n, t) = some (.inl (n * 256 + b.toNat, t + 1)) := by
    intro n t b h0 h1 h2 h3 h4
    have hb := u8_lt b
    simp only [s_l02Four_1_s]
    rw [brd (by omega), show atL [w, x, y, z] t = some b by simp [atL, h2, h4]]
    simp only [Option.bind_some]
    rw [wrap_i64 (n * 256) (by omega) (by omega), wrap_i64 (b.toNat : Int) (by omega) (by omega), wrap_i64 (n * 256 + (b.toNat : Int)) (by omega) (by omega), wrap_i64 (t + 1) (by omega) (by omega)]
  rw [Loop_inl (st 0 0 w (by omega) (by omega) (by omega) (by omega) rfl), Loop_inl (st _ _ x (by omega) (by omega) (by omega) (by omega) rfl), Loop_inl (st _ _ y (by omega) (by omega) (by omega) (by omega) rfl), Loop_inl (st _ _ z (by omega) (by omega) (by omega) (by omega) rfl)]
  rw [Loop_inr (e := (be w x y z, 4, false)) ?_]
  · rfl
  · simp only [s_l02Four_1_s]
    rw [brn (by omega)]
    simp [be]

theorem i_readExts_eq {b : List UInt8} (hb : b.length ≤ 8388608) : i_readExts b = some (dec b, decide (b.length % 8 = 0) && (dec b).all okEb) := by
  unfold i_readExts
  have key := Loop_inv (step := i_readExts_1_s b)
    (fun s => 0 ≤ s.2 ∧ s.2 ≤ b.length ∧ (s.1.length : Int) * 8 = s.2 ∧ s.1 ++ dec (b.drop s.2.toNat) = dec b) (fun s => (b.length - s.2).toNat)
    (fun e => e.1 = dec b) ?_ ([], 0) ⟨by first | omega | (dsimp only; omega), by first | omega | (dsimp only; omega), by simp, rfl⟩
  · obtain ⟨e, he, h⟩ := key
    rw [he]
    simp only [Option.bind_some, h]
    rw [tmod_nn _ _ (by omega)]
    by_cases c : b.length % 8 = 0
    · rw [bre (by omega), i_are_eq (by rw [dec_len]; omega)]
      simp [c]
    · rw [brne (by omega)]
      simp [c]
  · rintro ⟨l, i⟩ ⟨h0, h1, h3, h2⟩
    dsimp only at h0 h1 h2 h3
    simp only [i_readExts_1_s]
    rw [wrap_i64 (i + 8) (by omega) (by omega)]
    by_cases c : i + 8 ≤ (b.length : Int)
    · left
      obtain ⟨p, q, r, s, t, u, v, w, z, hz⟩ := long (l := b.drop i.toNat) (by rw [List.length_drop]; omega)
      rw [brd c, wrap_i64 (i + 4) (by omega) (by omega), subL_of h0 (by omega) (by omega), subL_of (by omega) (by omega) (by omega)]
      have e1 : (b.drop i.toNat).take ((i + 4).toNat - i.toNat) = [p, q, r, s] := by rw [hz, show (i + 4).toNat - i.toNat = 4 by omega]; rfl
      have e2 : (b.drop (i + 4).toNat).take ((i + 8).toNat - (i + 4).toNat) = [t, u, v, w] := by
        rw [show (i + 4).toNat = i.toNat + 4 by omega, ← List.drop_drop, hz, show (i + 8).toNat - (i.toNat + 4) = 4 by omega]; rfl
      have e3 : b.drop (i + 8).toNat = z := by rw [show (i + 8).toNat = i.toNat + 8 by omega, ← List.drop_drop, hz]; rfl
      rw [e1, e2]
      simp only [Option.bind_some, i_number_eq]
      rw [br_of (fits_of (by simp only [List.length_append, List.length_cons, List.length_nil]; omega))]
      refine ⟨_, rfl, ⟨by first | omega | (dsimp only; omega), by first | omega | (dsimp only; omega), ?_, ?_⟩, by first | omega | (dsimp only; omega)⟩
      · simp only [List.length_append, List.length_cons, List.length_nil]; omega
      · dsimp only
        rw [e3, ← h2, hz]
        simp [dec]
    · right
      rw [brn c]
      refine ⟨_, rfl, ?_⟩
      rw [dec_short (by rw [List.length_drop]; omega)] at h2
      simpa using h2

theorem s_read_eq {b : List UInt8} (hb : b.length ≤ 8388608) : s_l02Read b = some (if b.length % 8 = 0 ∧ (dec b).all okEb then (dec b, true) else ([], false)) := by
  unfold s_l02Read
  rw [tmod_nn _ _ (by omega)]
  by_cases c0 : b.length % 8 = 0
  · rw [brbe (by omega)]
    have key := Loop_inv (step := s_l02Read_1_s b)
      (fun s => 0 ≤ s.2 ∧ s.2 ≤ b.length ∧ (s.1.length : Int) * 8 = s.2 ∧ s.1 ++ dec (b.drop s.2.toNat) = dec b) (fun s => (b.length - s.2).toNat)
      (fun e => e.1 = dec b) ?_ ([], 0) ⟨by first | omega | (dsimp only; omega), by first | omega | (dsimp only; omega), by simp, rfl⟩
    · obtain ⟨e, he, h⟩ := key
      rw [he]
      simp only [Option.bind_some, h]
      rw [s_list_eq (by rw [dec_len]; omega)]
      cases hh : (dec b).all okEb <;> simp [c0, br]
    · rintro ⟨l, i⟩ ⟨h0, h1, h3, h2⟩
      dsimp only at h0 h1 h2 h3
      simp only [s_l02Read_1_s]
      by_cases c : i < (b.length : Int)
      · left
        have c8 : i + 8 ≤ (b.length : Int) := by omega
        obtain ⟨p, q, r, s, t, u, v, w, z, hz⟩ := long (l := b.drop i.toNat) (by rw [List.length_drop]; omega)
        rw [brd c, wrap_i64 (i + 4) (by omega) (by omega), wrap_i64 (i + 8) (by omega) (by omega), subL_of h0 (by omega) (by omega), subL_of (by omega) (by omega) (by omega)]
        have e1 : (b.drop i.toNat).take ((i + 4).toNat - i.toNat) = [p, q, r, s] := by rw [hz, show (i + 4).toNat - i.toNat = 4 by omega]; rfl
        have e2 : (b.drop (i + 4).toNat).take ((i + 8).toNat - (i + 4).toNat) = [t, u, v, w] := by
          rw [show (i + 4).toNat = i.toNat + 4 by omega, ← List.drop_drop, hz, show (i + 8).toNat - (i.toNat + 4) = 4 by omega]; rfl
        have e3 : b.drop (i + 8).toNat = z := by rw [show (i + 8).toNat = i.toNat + 8 by omega, ← List.drop_drop, hz]; rfl
        rw [e1, e2]
        simp only [Option.bind_some, s_four_eq]
        rw [br_of (fits_of (by simp only [List.length_append, List.length_cons, List.length_nil]; omega))]
        refine ⟨_, rfl, ⟨by first | omega | (dsimp only; omega), by first | omega | (dsimp only; omega), ?_, ?_⟩, by first | omega | (dsimp only; omega)⟩
        · simp only [List.length_append, List.length_cons, List.length_nil]; omega
        · dsimp only
          rw [e3, ← h2, hz]
          simp [dec]
      · right
        rw [brn c]
        refine ⟨_, rfl, ?_⟩
        rw [dec_short (by rw [List.length_drop]; omega)] at h2
        simpa using h2
  · rw [brb (by omega)]
    simp [c0]

def readE (b : List UInt8) : List Ext × Int :=
  if b.length > 65536 then ([], 2) else if b.length % 8 = 0 ∧ (dec b).all okEb then (if (dec b).length > 4096 then ([], 6) else (dec b, 0)) else ([], 3)
theorem i_ReadExts_eq (b : List UInt8) : i_ReadExts b = some (readE b) := by
  unfold i_ReadExts readE
  by_cases c : b.length > 65536
  · rw [brd (by omega), if_pos c]
  · rw [brn (by omega), if_neg c, i_readExts_eq (by omega)]
    by_cases c3 : (dec b).length > 4096
    · have d : (4096 : Int) < ((dec b).length : Int) := by omega
      by_cases c1 : b.length % 8 = 0 <;> cases c2 : (dec b).all okEb <;> simp [c1, c3, br, d]
    · have d : ¬ (4096 : Int) < ((dec b).length : Int) := by omega
      by_cases c1 : b.length % 8 = 0 <;> cases c2 : (dec b).all okEb <;> simp [c1, c3, br, d]
theorem s_ReadExts_eq (b : List UInt8) : s_ReadExts b = some (readE b) := by
  unfold s_ReadExts readE
  by_cases c : b.length > 65536
  · rw [brd (by omega), if_pos c]
  · rw [brn (by omega), if_neg c, s_read_eq (by omega)]
    by_cases c3 : (dec b).length > 4096
    · have d : (4096 : Int) < ((dec b).length : Int) := by omega
      by_cases c1 : b.length % 8 = 0 <;> cases c2 : (dec b).all okEb <;> simp [c1, c3, br, d]
    · have d : ¬ (4096 : Int) < ((dec b).length : Int) := by omega
      by_cases c1 : b.length % 8 = 0 <;> cases c2 : (dec b).all okEb <;> simp [c1, c3, br, d]

theorem shr_eq (n : Int) (k : Nat) (hk : k ≤ 64) (h0 : 0 ≤ n) : shr64 .i64 n (k : Int) = n / 2 ^ k := by
  unfold shr64
  have : min ((k : Int).toNat) (IntKind.bits .i64) = k := by simp [IntKind.bits]; omega
  rw [this, Int.fdiv_eq_ediv_of_nonneg _ (by exact Int.pow_nonneg (by decide))]
theorem ofInt_toNat (n : Int) : ((UInt8.ofInt n).toNat : Int) = n % 256 := by
  rw [u8_wrap_toNat]; simp [IntKind.wrap, IntKind.bits, IntKind.signed]
theorem be_four {n : Int} (h : okF n) : be (UInt8.ofInt (shr64 .i64 n 24)) (UInt8.ofInt (shr64 .i64 n 16)) (UInt8.ofInt (shr64 .i64 n 8)) (UInt8.ofInt n) = n := by
  obtain ⟨h0, h1⟩ := h
  have e1 : shr64 .i64 n 24 = n / 16777216 := shr_eq n 24 (by omega) h0
  have e2 : shr64 .i64 n 16 = n / 65536 := shr_eq n 16 (by omega) h0
  have e3 : shr64 .i64 n 8 = n / 256 := shr_eq n 8 (by omega) h0
  rw [e1, e2, e3]
  unfold be
  rw [ofInt_toNat, ofInt_toNat, ofInt_toNat, ofInt_toNat]
  omega
theorem ofInt_of (b : UInt8) {n : Int} (h : n % 256 = b.toNat) : UInt8.ofInt n = b := by
  apply UInt8.toNat_inj.1
  have := ofInt_toNat n
  omega
theorem four_be (w x y z : UInt8) : four (be w x y z) = [w, x, y, z] := by
  have hw := u8_lt w
  have hx := u8_lt x
  have hy := u8_lt y
  have hz := u8_lt z
  have h0 : 0 ≤ be w x y z := by unfold be; omega
  have e1 : shr64 .i64 (be w x y z) 24 = be w x y z / 16777216 := shr_eq _ 24 (by omega) h0
  have e2 : shr64 .i64 (be w x y z) 16 = be w x y z / 65536 := shr_eq _ 16 (by omega) h0
  have e3 : shr64 .i64 (be w x y z) 8 = be w x y z / 256 := shr_eq _ 8 (by omega) h0
  unfold four
  rw [e1, e2, e3, ofInt_of w (by unfold be; omega), ofInt_of x (by unfold be; omega), ofInt_of y (by unfold be; omega), ofInt_of z (by unfold be; omega)]

theorem dec_e8 {l : List Ext} (h : ∀ x ∈ l, okE x) : dec (l.flatMap e8) = l := by
  induction l with
  | nil => rfl
  | cons x l ih =>
    have hx := h x (List.mem_cons_self ..)
    rw [List.flatMap_cons, e8]
    show (⟨be _ _ _ _, be _ _ _ _⟩ : Ext) :: dec (l.flatMap e8) = x :: l
    rw [be_four hx.1, be_four hx.2, ih fun y hy => h y (List.mem_cons_of_mem _ hy)]
theorem e8_dec (b : List UInt8) (h : b.length % 8 = 0) : (dec b).flatMap e8 = b := by
  match b with
  | p :: q :: r :: s :: t :: u :: v :: w :: z =>
    have hz : z.length % 8 = 0 := by simp only [List.length_cons] at h; omega
    simp only [dec, List.flatMap_cons, e8, four_be]
    rw [e8_dec z hz]; rfl
  | [] => rfl
  | [_] => simp at h
  | [_, _] => simp at h
  | [_, _, _] => simp at h
  | [_, _, _, _] => simp at h
  | [_, _, _, _, _] => simp at h
  | [_, _, _, _, _, _] => simp at h
  | [_, _, _, _, _, _, _] => simp at h
end Go.AI.Fn
