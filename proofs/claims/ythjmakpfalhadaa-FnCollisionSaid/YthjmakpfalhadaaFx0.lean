/- Walks through the program, with open values. -/
import Derived.Test.YthjmakpfalhadaaStr
import Derived.Test.YthjmakpfalhadaaTb2
set_option linter.unusedVariables false
set_option linter.unusedSimpArgs false
set_option maxRecDepth 100000
set_option maxHeartbeats 1000000
namespace Go.AI.Fn
noncomputable def s_l00Source (code : (List UInt8)) : Option (l00Src) :=
  some (l00Src.mk code (0 : Int) (((code.length : Nat) : Int).tmod (1000 : Int)))
theorem s_l00Source_c {code : (List UInt8)} {r : l00Src} (h : s_l00Source code = some r) : Call tab ow 93 [sl eU8 code] [] = some (.ptr 0 0 0 1, [⟨3, true, [[sl eU8 r.code, I r.at_, I r.seed]]⟩]) := by
  rw [run_s_l00Source]
  unfold s_l00Source at h
  simp +decide only [b_s_l00Source, go_sem, reduceIte, Nat.reduceAdd]
  obtain rfl := Option.some.inj h
  first | rfl | (simp only [List.length_set, go_sem]; done)
noncomputable def s_l00Src_byte (m : l00Src) : Option (Int × l00Src) :=
  br (decide ((IntKind.wrap .i64 (m.at_ + (1 : Int))) ≤ ((m.code.length : Nat) : Int))) (
    (atL m.code (IntKind.wrap .i64 ((IntKind.wrap .i64 (m.at_ + (1 : Int))) - (1 : Int)))).bind fun x =>
    (atL m.code (IntKind.wrap .i64 ((IntKind.wrap .i64 (m.at_ + (1 : Int))) - (1 : Int)))).bind fun x2 =>
    some ((IntKind.wrap .i64 (x2.toNat : Int)), (l00Src.mk m.code (IntKind.wrap .i64 (m.at_ + (1 : Int))) ((IntKind.wrap .i64 ((IntKind.wrap .i64 ((IntKind.wrap .i64 (m.seed * (31 : Int))) + (IntKind.wrap .i64 (x.toNat : Int)))) + (7 : Int))).tmod (2147483648 : Int))))) (
    br (decide ((IntKind.wrap .i64 (m.at_ + (1 : Int))) > (3000 : Int))) (
      some ((0 : Int), (l00Src.mk m.code (IntKind.wrap .i64 (m.at_ + (1 : Int))) m.seed))) (
      some (((IntKind.wrap .i64 (((IntKind.wrap .i64 ((IntKind.wrap .i64 (m.seed * (1103515245 : Int))) + (12345 : Int))).tmod (2147483648 : Int)).tdiv (65536 : Int))).tmod (256 : Int)), (l00Src.mk m.code (IntKind.wrap .i64 (m.at_ + (1 : Int))) ((IntKind.wrap .i64 ((IntKind.wrap .i64 (m.seed * (1103515245 : Int))) + (12345 : Int))).tmod (2147483648 : Int))))))
theorem s_l00Src_byte_c {m : l00Src} {r : Int × l00Src} (h : s_l00Src_byte m = some r) : Call tab ow 264 [.ptr 0 0 0 1] [⟨3, true, [[sl eU8 m.code, I m.at_, I m.seed]]⟩] = some (I r.1, [⟨3, true, [[sl eU8 r.2.code, I r.2.at_, I r.2.seed]]⟩]) := by
  rw [run_s_l00Src_byte]
  unfold s_l00Src_byte at h
  simp +decide only [b_s_l00Src_byte, go_sem, reduceIte, Nat.reduceAdd]
  rcases brc h with ⟨hb, h⟩ | ⟨hb, h⟩
  · refine br_t hb ?_
    obtain ⟨x, h1, h⟩ := bd h
    refine bind_some h1 ?_
    obtain ⟨x2, h1, h⟩ := bd h
    refine bind_some h1 ?_
    obtain rfl := Option.some.inj h
    first | rfl | (simp only [List.length_set, go_sem]; done)
  · refine br_f hb ?_
    rcases brc h with ⟨hb, h⟩ | ⟨hb, h⟩
    · refine br_t hb ?_
      obtain rfl := Option.some.inj h
      first | rfl | (simp only [List.length_set, go_sem]; done)
    · refine br_f hb ?_
      obtain rfl := Option.some.inj h
      first | rfl | (simp only [List.length_set, go_sem]; done)
noncomputable def s_l00Src_next (n : Int) (m : l00Src) : Option (Int × l00Src) :=
  br (decide (n ≤ (1 : Int))) (
    some ((0 : Int), m)) (
    br (decide (n ≤ (256 : Int))) (
      (s_l00Src_byte m).bind fun r_ =>
      br (decide (n ≠ 0)) (
        some ((r_.1.tmod n), r_.2)) (
        none)) (
      (s_l00Src_byte m).bind fun r_2 =>
      (s_l00Src_byte r_2.2).bind fun r_3 =>
      (s_l00Src_byte r_3.2).bind fun r_4 =>
      br (decide (n ≠ 0)) (
        some (((IntKind.wrap .i64 ((IntKind.wrap .i64 ((IntKind.wrap .i64 (r_2.1 * (65536 : Int))) + (IntKind.wrap .i64 (r_3.1 * (256 : Int))))) + r_4.1)).tmod n), r_4.2)) (
        none)))
theorem s_l00Src_next_c {n : Int} {m : l00Src} {r : Int × l00Src} (h : s_l00Src_next n m = some r) : Call tab ow 200 [.ptr 0 0 0 1, I n] [⟨3, true, [[sl eU8 m.code, I m.at_, I m.seed]]⟩] = some (I r.1, [⟨3, true, [[sl eU8 r.2.code, I r.2.at_, I r.2.seed]]⟩]) := by
  rw [run_s_l00Src_next]
  unfold s_l00Src_next at h
  simp +decide only [b_s_l00Src_next, go_sem, reduceIte, Nat.reduceAdd]
  rcases brc h with ⟨hb, h⟩ | ⟨hb, h⟩
  · refine br_t hb ?_
    obtain rfl := Option.some.inj h
    first | rfl | (simp only [List.length_set, go_sem]; done)
  · refine br_f hb ?_
    rcases brc h with ⟨hb, h⟩ | ⟨hb, h⟩
    · refine br_t hb ?_
      obtain ⟨r_, h1, h⟩ := bd h
      refine call_aft (s_l00Src_byte_c h1) ?_
      simp +decide only [go_sem, reduceIte, Nat.reduceAdd]
      obtain ⟨hb, h⟩ := brg h
      refine br_t hb ?_
      obtain rfl := Option.some.inj h
      first | rfl | (simp only [List.length_set, go_sem]; done)
    · refine br_f hb ?_
      obtain ⟨r_2, h1, h⟩ := bd h
      refine call_aft (s_l00Src_byte_c h1) ?_
      simp +decide only [go_sem, reduceIte, Nat.reduceAdd]
      obtain ⟨r_3, h1, h⟩ := bd h
      refine call_aft (s_l00Src_byte_c h1) ?_
      simp +decide only [go_sem, reduceIte, Nat.reduceAdd]
      obtain ⟨r_4, h1, h⟩ := bd h
      refine call_aft (s_l00Src_byte_c h1) ?_
      simp +decide only [go_sem, reduceIte, Nat.reduceAdd]
      obtain ⟨hb, h⟩ := brg h
      refine br_t hb ?_
      obtain rfl := Option.some.inj h
      first | rfl | (simp only [List.length_set, go_sem]; done)
noncomputable def i_in (n : Int) (low : Int) (high : Int) : Option (Bool) :=
  br (decide (low ≤ n)) (
    some (decide (n ≤ high))) (
    some false)
theorem i_in_c {n : Int} {low : Int} {high : Int} {r : Bool} (h : i_in n low high = some r) : Call tab ow 111 [I n, I low, I high] [] = some (B r, []) := by
  rw [run_i_in]
  unfold i_in at h
  simp +decide only [b_i_in, go_sem, reduceIte, Nat.reduceAdd]
  rcases brc h with ⟨hb, h⟩ | ⟨hb, h⟩
  · refine br_t hb ?_
    obtain rfl := Option.some.inj h
    first | rfl | (simp only [List.length_set, go_sem]; done)
  · refine br_f hb ?_
    obtain rfl := Option.some.inj h
    first | rfl | (simp only [List.length_set, go_sem]; done)
noncomputable def i_isPower (n : Int) (most : Int) : Option (Bool) :=
  (i_in n (1 : Int) most).bind fun r_ =>
  br r_ (
    some ((and64 .i64 n (IntKind.wrap .i64 (n - (1 : Int)))) == (0 : Int))) (
    some false)
theorem i_isPower_c {n : Int} {most : Int} {r : Bool} (h : i_isPower n most = some r) : Call tab ow 117 [I n, I most] [] = some (B r, []) := by
  rw [run_i_isPower]
  unfold i_isPower at h
  simp +decide only [b_i_isPower, go_sem, reduceIte, Nat.reduceAdd]
  obtain ⟨r_, h1, h⟩ := bd h
  refine call_aft (i_in_c h1) ?_
  simp +decide only [go_sem, reduceIte, Nat.reduceAdd]
  rcases brc h with ⟨hb, h⟩ | ⟨hb, h⟩
  · refine br_t hb ?_
    obtain rfl := Option.some.inj h
    first | rfl | (simp only [List.length_set, go_sem]; done)
  · refine br_f hb ?_
    obtain rfl := Option.some.inj h
    first | rfl | (simp only [List.length_set, go_sem]; done)
noncomputable def w_at (more : (List UInt8)) (i : Int) (n : Int) : Option (Int) :=
  br (decide (n ≤ (1 : Int))) (
    some (0 : Int)) (
    br (((more.length : Nat) : Int) == (0 : Int)) (
      br (decide (n ≠ 0)) (
        some ((IntKind.wrap .i64 (i * (7 : Int))).tmod n)) (
        none)) (
      br (decide (((more.length : Nat) : Int) ≠ 0)) (
        (atL more (i.tmod ((more.length : Nat) : Int))).bind fun x =>
        br (decide (((more.length : Nat) : Int) ≠ 0)) (
          (atL more ((IntKind.wrap .i64 (i + (1 : Int))).tmod ((more.length : Nat) : Int))).bind fun x2 =>
          br (decide (((more.length : Nat) : Int) ≠ 0)) (
            br (decide (n ≠ 0)) (
              some ((IntKind.wrap .i64 ((IntKind.wrap .i64 ((IntKind.wrap .i64 ((IntKind.wrap .i64 (x.toNat : Int)) * (31 : Int))) + (IntKind.wrap .i64 (x2.toNat : Int)))) + (IntKind.wrap .i64 (i.tdiv ((more.length : Nat) : Int))))).tmod n)) (
              none)) (
            none)) (
          none)) (
        none)))
theorem w_at_c {more : (List UInt8)} {i : Int} {n : Int} {r : Int} (h : w_at more i n = some r) : Call tab ow 21 [sl eU8 more, I i, I n] [] = some (I r, []) := by
  rw [run_w_at]
  unfold w_at at h
  simp +decide only [b_w_at, go_sem, reduceIte, Nat.reduceAdd]
  rcases brc h with ⟨hb, h⟩ | ⟨hb, h⟩
  · refine br_t hb ?_
    obtain rfl := Option.some.inj h
    first | rfl | (simp only [List.length_set, go_sem]; done)
  · refine br_f hb ?_
    rcases brc h with ⟨hb, h⟩ | ⟨hb, h⟩
    · refine br_t hb ?_
      obtain ⟨hb, h⟩ := brg h
      refine br_t hb ?_
      obtain rfl := Option.some.inj h
      first | rfl | (simp only [List.length_set, go_sem]; done)
    · refine br_f hb ?_
      obtain ⟨hb, h⟩ := brg h
      refine br_t hb ?_
      obtain ⟨x, h1, h⟩ := bd h
      refine bind_some h1 ?_
      obtain ⟨hb, h⟩ := brg h
      refine br_t hb ?_
      obtain ⟨x2, h1, h⟩ := bd h
      refine bind_some h1 ?_
      obtain ⟨hb, h⟩ := brg h
      refine br_t hb ?_
      obtain ⟨hb, h⟩ := brg h
      refine br_t hb ?_
      obtain rfl := Option.some.inj h
      first | rfl | (simp only [List.length_set, go_sem]; done)
noncomputable def math_bits_Len64 (x : Int) : Option (Int) :=
  br (decide (x ≥ (4294967296 : Int))) (
    br (decide ((shr64 .u64 x (32 : Int)) ≥ (65536 : Int))) (
      br (decide ((shr64 .u64 (shr64 .u64 x (32 : Int)) (16 : Int)) ≥ (256 : Int))) (
        (atL (([0, 1, 2, 2, 3, 3, 3, 3, 4, 4, 4, 4, 4, 4, 4, 4, 5, 5, 5, 5, 5, 5, 5, 5, 5, 5, 5, 5, 5, 5, 5, 5, 6, 6, 6, 6, 6, 6, 6, 6, 6, 6, 6, 6, 6, 6, 6, 6, 6, 6, 6, 6, 6, 6, 6, 6, 6, 6, 6, 6, 6, 6, 6, 6, 7, 7, 7, 7, 7, 7, 7, 7, 7, 7, 7, 7, 7, 7, 7, 7, 7, 7, 7, 7, 7, 7, 7, 7, 7, 7, 7, 7, 7, 7, 7, 7, 7, 7, 7, 7, 7, 7, 7, 7, 7, 7, 7, 7, 7, 7, 7, 7, 7, 7, 7, 7, 7, 7, 7, 7, 7, 7, 7, 7, 7, 7, 7, 7, 8, 8, 8, 8, 8, 8, 8, 8, 8, 8, 8, 8, 8, 8, 8, 8, 8, 8, 8, 8, 8, 8, 8, 8, 8, 8, 8, 8, 8, 8, 8, 8, 8, 8, 8, 8, 8, 8, 8, 8, 8, 8, 8, 8, 8, 8, 8, 8, 8, 8, 8, 8, 8, 8, 8, 8, 8, 8, 8, 8, 8, 8, 8, 8, 8, 8, 8, 8, 8, 8, 8, 8, 8, 8, 8, 8, 8, 8, 8, 8, 8, 8, 8, 8, 8, 8, 8, 8, 8, 8, 8, 8, 8, 8, 8, 8, 8, 8, 8, 8, 8, 8, 8, 8, 8, 8, 8, 8, 8, 8, 8, 8, 8, 8, 8, 8, 8, 8, 8, 8, 8, 8, 8, 8, 8, 8, 8, 8] : List UInt8)) (IntKind.wrap .u8 (shr64 .u64 (shr64 .u64 (shr64 .u64 x (32 : Int)) (16 : Int)) (8 : Int)))).bind fun c =>
        some (IntKind.wrap .i64 ((56 : Int) + (IntKind.wrap .i64 (c.toNat : Int))))) (
        (atL (([0, 1, 2, 2, 3, 3, 3, 3, 4, 4, 4, 4, 4, 4, 4, 4, 5, 5, 5, 5, 5, 5, 5, 5, 5, 5, 5, 5, 5, 5, 5, 5, 6, 6, 6, 6, 6, 6, 6, 6, 6, 6, 6, 6, 6, 6, 6, 6, 6, 6, 6, 6, 6, 6, 6, 6, 6, 6, 6, 6, 6, 6, 6, 6, 7, 7, 7, 7, 7, 7, 7, 7, 7, 7, 7, 7, 7, 7, 7, 7, 7, 7, 7, 7, 7, 7, 7, 7, 7, 7, 7, 7, 7, 7, 7, 7, 7, 7, 7, 7, 7, 7, 7, 7, 7, 7, 7, 7, 7, 7, 7, 7, 7, 7, 7, 7, 7, 7, 7, 7, 7, 7, 7, 7, 7, 7, 7, 7, 8, 8, 8, 8, 8, 8, 8, 8, 8, 8, 8, 8, 8, 8, 8, 8, 8, 8, 8, 8, 8, 8, 8, 8, 8, 8, 8, 8, 8, 8, 8, 8, 8, 8, 8, 8, 8, 8, 8, 8, 8, 8, 8, 8, 8, 8, 8, 8, 8, 8, 8, 8, 8, 8, 8, 8, 8, 8, 8, 8, 8, 8, 8, 8, 8, 8, 8, 8, 8, 8, 8, 8, 8, 8, 8, 8, 8, 8, 8, 8, 8, 8, 8, 8, 8, 8, 8, 8, 8, 8, 8, 8, 8, 8, 8, 8, 8, 8, 8, 8, 8, 8, 8, 8, 8, 8, 8, 8, 8, 8, 8, 8, 8, 8, 8, 8, 8, 8, 8, 8, 8, 8, 8, 8, 8, 8, 8, 8] : List UInt8)) (IntKind.wrap .u8 (shr64 .u64 (shr64 .u64 x (32 : Int)) (16 : Int)))).bind fun c2 =>
        some (IntKind.wrap .i64 ((48 : Int) + (IntKind.wrap .i64 (c2.toNat : Int)))))) (
      br (decide ((shr64 .u64 x (32 : Int)) ≥ (256 : Int))) (
        (atL (([0, 1, 2, 2, 3, 3, 3, 3, 4, 4, 4, 4, 4, 4, 4, 4, 5, 5, 5, 5, 5, 5, 5, 5, 5, 5, 5, 5, 5, 5, 5, 5, 6, 6, 6, 6, 6, 6, 6, 6, 6, 6, 6, 6, 6, 6, 6, 6, 6, 6, 6, 6, 6, 6, 6, 6, 6, 6, 6, 6, 6, 6, 6, 6, 7, 7, 7, 7, 7, 7, 7, 7, 7, 7, 7, 7, 7, 7, 7, 7, 7, 7, 7, 7, 7, 7, 7, 7, 7, 7, 7, 7, 7, 7, 7, 7, 7, 7, 7, 7, 7, 7, 7, 7, 7, 7, 7, 7, 7, 7, 7, 7, 7, 7, 7, 7, 7, 7, 7, 7, 7, 7, 7, 7, 7, 7, 7, 7, 8, 8, 8, 8, 8, 8, 8, 8, 8, 8, 8, 8, 8, 8, 8, 8, 8, 8, 8, 8, 8, 8, 8, 8, 8, 8, 8, 8, 8, 8, 8, 8, 8, 8, 8, 8, 8, 8, 8, 8, 8, 8, 8, 8, 8, 8, 8, 8, 8, 8, 8, 8, 8, 8, 8, 8, 8, 8, 8, 8, 8, 8, 8, 8, 8, 8, 8, 8, 8, 8, 8, 8, 8, 8, 8, 8, 8, 8, 8, 8, 8, 8, 8, 8, 8, 8, 8, 8, 8, 8, 8, 8, 8, 8, 8, 8, 8, 8, 8, 8, 8, 8, 8, 8, 8, 8, 8, 8, 8, 8, 8, 8, 8, 8, 8, 8, 8, 8, 8, 8, 8, 8, 8, 8, 8, 8, 8, 8] : List UInt8)) (IntKind.wrap .u8 (shr64 .u64 (shr64 .u64 x (32 : Int)) (8 : Int)))).bind fun c3 =>
        some (IntKind.wrap .i64 ((40 : Int) + (IntKind.wrap .i64 (c3.toNat : Int))))) (
        (atL (([0, 1, 2, 2, 3, 3, 3, 3, 4, 4, 4, 4, 4, 4, 4, 4, 5, 5, 5, 5, 5, 5, 5, 5, 5, 5, 5, 5, 5, 5, 5, 5, 6, 6, 6, 6, 6, 6, 6, 6, 6, 6, 6, 6, 6, 6, 6, 6, 6, 6, 6, 6, 6, 6, 6, 6, 6, 6, 6, 6, 6, 6, 6, 6, 7, 7, 7, 7, 7, 7, 7, 7, 7, 7, 7, 7, 7, 7, 7, 7, 7, 7, 7, 7, 7, 7, 7, 7, 7, 7, 7, 7, 7, 7, 7, 7, 7, 7, 7, 7, 7, 7, 7, 7, 7, 7, 7, 7, 7, 7, 7, 7, 7, 7, 7, 7, 7, 7, 7, 7, 7, 7, 7, 7, 7, 7, 7, 7, 8, 8, 8, 8, 8, 8, 8, 8, 8, 8, 8, 8, 8, 8, 8, 8, 8, 8, 8, 8, 8, 8, 8, 8, 8, 8, 8, 8, 8, 8, 8, 8, 8, 8, 8, 8, 8, 8, 8, 8, 8, 8, 8, 8, 8, 8, 8, 8, 8, 8, 8, 8, 8, 8, 8, 8, 8, 8, 8, 8, 8, 8, 8, 8, 8, 8, 8, 8, 8, 8, 8, 8, 8, 8, 8, 8, 8, 8, 8, 8, 8, 8, 8, 8, 8, 8, 8, 8, 8, 8, 8, 8, 8, 8, 8, 8, 8, 8, 8, 8, 8, 8, 8, 8, 8, 8, 8, 8, 8, 8, 8, 8, 8, 8, 8, 8, 8, 8, 8, 8, 8, 8, 8, 8, 8, 8, 8, 8] : List UInt8)) (IntKind.wrap .u8 (shr64 .u64 x (32 : Int)))).bind fun c4 =>
        some (IntKind.wrap .i64 ((32 : Int) + (IntKind.wrap .i64 (c4.toNat : Int))))))) (
    br (decide (x ≥ (65536 : Int))) (
      br (decide ((shr64 .u64 x (16 : Int)) ≥ (256 : Int))) (
        (atL (([0, 1, 2, 2, 3, 3, 3, 3, 4, 4, 4, 4, 4, 4, 4, 4, 5, 5, 5, 5, 5, 5, 5, 5, 5, 5, 5, 5, 5, 5, 5, 5, 6, 6, 6, 6, 6, 6, 6, 6, 6, 6, 6, 6, 6, 6, 6, 6, 6, 6, 6, 6, 6, 6, 6, 6, 6, 6, 6, 6, 6, 6, 6, 6, 7, 7, 7, 7, 7, 7, 7, 7, 7, 7, 7, 7, 7, 7, 7, 7, 7, 7, 7, 7, 7, 7, 7, 7, 7, 7, 7, 7, 7, 7, 7, 7, 7, 7, 7, 7, 7, 7, 7, 7, 7, 7, 7, 7, 7, 7, 7, 7, 7, 7, 7, 7, 7, 7, 7, 7, 7, 7, 7, 7, 7, 7, 7, 7, 8, 8, 8, 8, 8, 8, 8, 8, 8, 8, 8, 8, 8, 8, 8, 8, 8, 8, 8, 8, 8, 8, 8, 8, 8, 8, 8, 8, 8, 8, 8, 8, 8, 8, 8, 8, 8, 8, 8, 8, 8, 8, 8, 8, 8, 8, 8, 8, 8, 8, 8, 8, 8, 8, 8, 8, 8, 8, 8, 8, 8, 8, 8, 8, 8, 8, 8, 8, 8, 8, 8, 8, 8, 8, 8, 8, 8, 8, 8, 8, 8, 8, 8, 8, 8, 8, 8, 8, 8, 8, 8, 8, 8, 8, 8, 8, 8, 8, 8, 8, 8, 8, 8, 8, 8, 8, 8, 8, 8, 8, 8, 8, 8, 8, 8, 8, 8, 8, 8, 8, 8, 8, 8, 8, 8, 8, 8, 8] : List UInt8)) (IntKind.wrap .u8 (shr64 .u64 (shr64 .u64 x (16 : Int)) (8 : Int)))).bind fun c5 =>
        some (IntKind.wrap .i64 ((24 : Int) + (IntKind.wrap .i64 (c5.toNat : Int))))) (
        (atL (([0, 1, 2, 2, 3, 3, 3, 3, 4, 4, 4, 4, 4, 4, 4, 4, 5, 5, 5, 5, 5, 5, 5, 5, 5, 5, 5, 5, 5, 5, 5, 5, 6, 6, 6, 6, 6, 6, 6, 6, 6, 6, 6, 6, 6, 6, 6, 6, 6, 6, 6, 6, 6, 6, 6, 6, 6, 6, 6, 6, 6, 6, 6, 6, 7, 7, 7, 7, 7, 7, 7, 7, 7, 7, 7, 7, 7, 7, 7, 7, 7, 7, 7, 7, 7, 7, 7, 7, 7, 7, 7, 7, 7, 7, 7, 7, 7, 7, 7, 7, 7, 7, 7, 7, 7, 7, 7, 7, 7, 7, 7, 7, 7, 7, 7, 7, 7, 7, 7, 7, 7, 7, 7, 7, 7, 7, 7, 7, 8, 8, 8, 8, 8, 8, 8, 8, 8, 8, 8, 8, 8, 8, 8, 8, 8, 8, 8, 8, 8, 8, 8, 8, 8, 8, 8, 8, 8, 8, 8, 8, 8, 8, 8, 8, 8, 8, 8, 8, 8, 8, 8, 8, 8, 8, 8, 8, 8, 8, 8, 8, 8, 8, 8, 8, 8, 8, 8, 8, 8, 8, 8, 8, 8, 8, 8, 8, 8, 8, 8, 8, 8, 8, 8, 8, 8, 8, 8, 8, 8, 8, 8, 8, 8, 8, 8, 8, 8, 8, 8, 8, 8, 8, 8, 8, 8, 8, 8, 8, 8, 8, 8, 8, 8, 8, 8, 8, 8, 8, 8, 8, 8, 8, 8, 8, 8, 8, 8, 8, 8, 8, 8, 8, 8, 8, 8, 8] : List UInt8)) (IntKind.wrap .u8 (shr64 .u64 x (16 : Int)))).bind fun c6 =>
        some (IntKind.wrap .i64 ((16 : Int) + (IntKind.wrap .i64 (c6.toNat : Int)))))) (
      br (decide (x ≥ (256 : Int))) (
        (atL (([0, 1, 2, 2, 3, 3, 3, 3, 4, 4, 4, 4, 4, 4, 4, 4, 5, 5, 5, 5, 5, 5, 5, 5, 5, 5, 5, 5, 5, 5, 5, 5, 6, 6, 6, 6, 6, 6, 6, 6, 6, 6, 6, 6, 6, 6, 6, 6, 6, 6, 6, 6, 6, 6, 6, 6, 6, 6, 6, 6, 6, 6, 6, 6, 7, 7, 7, 7, 7, 7, 7, 7, 7, 7, 7, 7, 7, 7, 7, 7, 7, 7, 7, 7, 7, 7, 7, 7, 7, 7, 7, 7, 7, 7, 7, 7, 7, 7, 7, 7, 7, 7, 7, 7, 7, 7, 7, 7, 7, 7, 7, 7, 7, 7, 7, 7, 7, 7, 7, 7, 7, 7, 7, 7, 7, 7, 7, 7, 8, 8, 8, 8, 8, 8, 8, 8, 8, 8, 8, 8, 8, 8, 8, 8, 8, 8, 8, 8, 8, 8, 8, 8, 8, 8, 8, 8, 8, 8, 8, 8, 8, 8, 8, 8, 8, 8, 8, 8, 8, 8, 8, 8, 8, 8, 8, 8, 8, 8, 8, 8, 8, 8, 8, 8, 8, 8, 8, 8, 8, 8, 8, 8, 8, 8, 8, 8, 8, 8, 8, 8, 8, 8, 8, 8, 8, 8, 8, 8, 8, 8, 8, 8, 8, 8, 8, 8, 8, 8, 8, 8, 8, 8, 8, 8, 8, 8, 8, 8, 8, 8, 8, 8, 8, 8, 8, 8, 8, 8, 8, 8, 8, 8, 8, 8, 8, 8, 8, 8, 8, 8, 8, 8, 8, 8, 8, 8] : List UInt8)) (IntKind.wrap .u8 (shr64 .u64 x (8 : Int)))).bind fun c7 =>
        some (IntKind.wrap .i64 ((8 : Int) + (IntKind.wrap .i64 (c7.toNat : Int))))) (
        (atL (([0, 1, 2, 2, 3, 3, 3, 3, 4, 4, 4, 4, 4, 4, 4, 4, 5, 5, 5, 5, 5, 5, 5, 5, 5, 5, 5, 5, 5, 5, 5, 5, 6, 6, 6, 6, 6, 6, 6, 6, 6, 6, 6, 6, 6, 6, 6, 6, 6, 6, 6, 6, 6, 6, 6, 6, 6, 6, 6, 6, 6, 6, 6, 6, 7, 7, 7, 7, 7, 7, 7, 7, 7, 7, 7, 7, 7, 7, 7, 7, 7, 7, 7, 7, 7, 7, 7, 7, 7, 7, 7, 7, 7, 7, 7, 7, 7, 7, 7, 7, 7, 7, 7, 7, 7, 7, 7, 7, 7, 7, 7, 7, 7, 7, 7, 7, 7, 7, 7, 7, 7, 7, 7, 7, 7, 7, 7, 7, 8, 8, 8, 8, 8, 8, 8, 8, 8, 8, 8, 8, 8, 8, 8, 8, 8, 8, 8, 8, 8, 8, 8, 8, 8, 8, 8, 8, 8, 8, 8, 8, 8, 8, 8, 8, 8, 8, 8, 8, 8, 8, 8, 8, 8, 8, 8, 8, 8, 8, 8, 8, 8, 8, 8, 8, 8, 8, 8, 8, 8, 8, 8, 8, 8, 8, 8, 8, 8, 8, 8, 8, 8, 8, 8, 8, 8, 8, 8, 8, 8, 8, 8, 8, 8, 8, 8, 8, 8, 8, 8, 8, 8, 8, 8, 8, 8, 8, 8, 8, 8, 8, 8, 8, 8, 8, 8, 8, 8, 8, 8, 8, 8, 8, 8, 8, 8, 8, 8, 8, 8, 8, 8, 8, 8, 8, 8, 8] : List UInt8)) (IntKind.wrap .u8 x)).bind fun c8 =>
        some (IntKind.wrap .i64 ((0 : Int) + (IntKind.wrap .i64 (c8.toNat : Int)))))))
theorem math_bits_Len64_c {x : Int} {r : Int} (h : math_bits_Len64 x = some r) : Call tab ow 289 [.lit (.int .u64 x)] [] = some (I r, []) := by
  rw [run_math_bits_Len64]
  unfold math_bits_Len64 at h
  simp +decide only [b_math_bits_Len64, go_sem, reduceIte, Nat.reduceAdd]
  rcases brc h with ⟨hb, h⟩ | ⟨hb, h⟩
  · refine br_t hb ?_
    rcases brc h with ⟨hb, h⟩ | ⟨hb, h⟩
    · refine br_t hb ?_
      rcases brc h with ⟨hb, h⟩ | ⟨hb, h⟩
      · refine br_t hb ?_
        obtain ⟨c, h1, h⟩ := bd h
        refine bind_some h1 ?_
        obtain rfl := Option.some.inj h
        first | rfl | (simp only [List.length_set, go_sem]; done)
      · refine br_f hb ?_
        obtain ⟨c2, h1, h⟩ := bd h
        refine bind_some h1 ?_
        obtain rfl := Option.some.inj h
        first | rfl | (simp only [List.length_set, go_sem]; done)
    · refine br_f hb ?_
      rcases brc h with ⟨hb, h⟩ | ⟨hb, h⟩
      · refine br_t hb ?_
        obtain ⟨c3, h1, h⟩ := bd h
        refine bind_some h1 ?_
        obtain rfl := Option.some.inj h
        first | rfl | (simp only [List.length_set, go_sem]; done)
      · refine br_f hb ?_
        obtain ⟨c4, h1, h⟩ := bd h
        refine bind_some h1 ?_
        obtain rfl := Option.some.inj h
        first | rfl | (simp only [List.length_set, go_sem]; done)
  · refine br_f hb ?_
    rcases brc h with ⟨hb, h⟩ | ⟨hb, h⟩
    · refine br_t hb ?_
      rcases brc h with ⟨hb, h⟩ | ⟨hb, h⟩
      · refine br_t hb ?_
        obtain ⟨c5, h1, h⟩ := bd h
        refine bind_some h1 ?_
        obtain rfl := Option.some.inj h
        first | rfl | (simp only [List.length_set, go_sem]; done)
      · refine br_f hb ?_
        obtain ⟨c6, h1, h⟩ := bd h
        refine bind_some h1 ?_
        obtain rfl := Option.some.inj h
        first | rfl | (simp only [List.length_set, go_sem]; done)
    · refine br_f hb ?_
      rcases brc h with ⟨hb, h⟩ | ⟨hb, h⟩
      · refine br_t hb ?_
        obtain ⟨c7, h1, h⟩ := bd h
        refine bind_some h1 ?_
        obtain rfl := Option.some.inj h
        first | rfl | (simp only [List.length_set, go_sem]; done)
      · refine br_f hb ?_
        obtain ⟨c8, h1, h⟩ := bd h
        refine bind_some h1 ?_
        obtain rfl := Option.some.inj h
        first | rfl | (simp only [List.length_set, go_sem]; done)
noncomputable def math_bits_Len (x : Int) : Option (Int) :=
  (math_bits_Len64 x).bind fun r_ =>
  some r_
theorem math_bits_Len_c {x : Int} {r : Int} (h : math_bits_Len x = some r) : Call tab ow 267 [.lit (.int .u64 x)] [] = some (I r, []) := by
  rw [run_math_bits_Len]
  unfold math_bits_Len at h
  simp +decide only [b_math_bits_Len, go_sem, reduceIte, Nat.reduceAdd]
  obtain ⟨r_, h1, h⟩ := bd h
  refine call_aft (math_bits_Len64_c h1) ?_
  simp +decide only [go_sem, reduceIte, Nat.reduceAdd]
  obtain rfl := Option.some.inj h
  first | rfl | (simp only [List.length_set, go_sem]; done)
noncomputable def i_logOf (n : Int) : Option (Int) :=
  (math_bits_Len (IntKind.wrap .u64 n)).bind fun r_ =>
  some (IntKind.wrap .i64 (r_ - (1 : Int)))
theorem i_logOf_c {n : Int} {r : Int} (h : i_logOf n = some r) : Call tab ow 214 [I n] [] = some (I r, []) := by
  rw [run_i_logOf]
  unfold i_logOf at h
  simp +decide only [b_i_logOf, go_sem, reduceIte, Nat.reduceAdd]
  obtain ⟨r_, h1, h⟩ := bd h
  refine call_aft (math_bits_Len_c h1) ?_
  simp +decide only [go_sem, reduceIte, Nat.reduceAdd]
  obtain rfl := Option.some.inj h
  first | rfl | (simp only [List.length_set, go_sem]; done)
noncomputable def s_l01In (n : Int) (low : Int) (high : Int) : Option (Bool) :=
  br (decide (low ≤ n)) (
    some (decide (n ≤ high))) (
    some false)
theorem s_l01In_c {n : Int} {low : Int} {high : Int} {r : Bool} (h : s_l01In n low high = some r) : Call tab ow 140 [I n, I low, I high] [] = some (B r, []) := by
  rw [run_s_l01In]
  unfold s_l01In at h
  simp +decide only [b_s_l01In, go_sem, reduceIte, Nat.reduceAdd]
  rcases brc h with ⟨hb, h⟩ | ⟨hb, h⟩
  · refine br_t hb ?_
    obtain rfl := Option.some.inj h
    first | rfl | (simp only [List.length_set, go_sem]; done)
  · refine br_f hb ?_
    obtain rfl := Option.some.inj h
    first | rfl | (simp only [List.length_set, go_sem]; done)
noncomputable def s_l04Power_1_s (n2 : Int) (most2 : Int) : Int → Option ((Int) ⊕ (Unit ⊕ (Int × Bool)))
  | k =>
    br (decide (k ≤ most2)) (
      br (n2 == k) (
        some (.inr (.inl ()))) (
        some (.inl (IntKind.wrap .i64 (k * (2 : Int)))))) (
      some (.inr (.inr (k, decide (k ≤ most2)))))
theorem s_l04Power_1_l {n2 : Int} {most2 : Int} {k : Int} {e : Unit ⊕ (Int × Bool)} (h : Loop (s_l04Power_1_s n2 most2) k = some e) : LoopX tab ow (.close []) b_s_l04Power_2 ⟨[(0, I n2), (1, I most2), (5, I k)], []⟩ = some ((alt (fun e => ((.ret, ⟨[(4, B true)], []⟩) : AExit × St)) (fun e => (.exit 0, ⟨[(0, I n2), (1, I most2), (5, I e.1), (8, B e.2)], []⟩))) e) := by
  refine loop_runG (S := Int) (eS := fun s => ⟨[(0, I n2), (1, I most2), (5, I s)], []⟩) (eE := fun e => (alt (fun e => ((.ret, ⟨[(4, B true)], []⟩) : AExit × St)) (fun e => (.exit 0, ⟨[(0, I n2), (1, I most2), (5, I e.1), (8, B e.2)], []⟩))) e) (fun e => ?_) (fun k o h => ?_) h
  · rcases e with e | e <;> simp [alt]
  · skip
    simp only [s_l04Power_1_s] at h
    show Rn tab ow _ _ ⟨[(0, I n2), (1, I most2), (5, I k)], []⟩ = _
    simp +decide only [b_s_l04Power_2, go_sem, reduceIte, Nat.reduceAdd]
    rcases brc h with ⟨hb, h⟩ | ⟨hb, h⟩
    · refine br_t hb ?_
      rcases brc h with ⟨hb, h⟩ | ⟨hb, h⟩
      · refine br_t hb ?_
        obtain rfl := Option.some.inj h
        first | rfl | (simp only [List.length_set, go_sem]; done)
      · refine br_f hb ?_
        obtain rfl := Option.some.inj h
        first | rfl | (simp only [List.length_set, go_sem]; done)
    · refine br_f hb ?_
      obtain rfl := Option.some.inj h
      first | rfl | (simp only [List.length_set, go_sem]; done)
noncomputable def s_l04Power (n : Int) (most : Int) : Option (Bool) :=
  (Loop (s_l04Power_1_s n most) (1 : Int)).bind (alt (fun e_2 =>
    some true) (fun e_3 =>
    some false))
theorem s_l04Power_c {n : Int} {most : Int} {r : Bool} (h : s_l04Power n most = some r) : Call tab ow 245 [I n, I most] [] = some (B r, []) := by
  rw [run_s_l04Power]
  unfold s_l04Power at h
  simp +decide only [b_s_l04Power, go_sem, reduceIte, Nat.reduceAdd]
  obtain ⟨e_, h1, h⟩ := bd h
  refine goR_of (s_l04Power_1_l h1) ?_
  rcases e_ with e_2 | e_3
  · simp +decide only [go_sem, reduceIte, Nat.reduceAdd]
    obtain rfl := Option.some.inj h
    first | rfl | (simp only [List.length_set, go_sem]; done)
  · simp +decide only [go_sem, reduceIte, Nat.reduceAdd]
    obtain rfl := Option.some.inj h
    first | rfl | (simp only [List.length_set, go_sem]; done)
noncomputable def s_l00Src_pick (list : (List (List UInt8))) (m : l00Src) : Option ((List UInt8) × l00Src) :=
  br (((list.length : Nat) : Int) == (0 : Int)) (
    some ((([] : List UInt8)), m)) (
    (s_l00Src_next ((list.length : Nat) : Int) m).bind fun r_ =>
    (atL list r_.1).bind fun x =>
    some (x, r_.2))
theorem s_l00Src_pick_c {list : (List (List UInt8))} {m : l00Src} {r : (List UInt8) × l00Src} (h : s_l00Src_pick list m = some r) : Call tab ow 229 [.ptr 0 0 0 1, sl eS list] [⟨3, true, [[sl eU8 m.code, I m.at_, I m.seed]]⟩] = some (S r.1, [⟨3, true, [[sl eU8 r.2.code, I r.2.at_, I r.2.seed]]⟩]) := by
  rw [run_s_l00Src_pick]
  unfold s_l00Src_pick at h
  simp +decide only [b_s_l00Src_pick, go_sem, reduceIte, Nat.reduceAdd]
  rcases brc h with ⟨hb, h⟩ | ⟨hb, h⟩
  · refine br_t hb ?_
    obtain rfl := Option.some.inj h
    first | rfl | (simp only [List.length_set, go_sem]; done)
  · refine br_f hb ?_
    obtain ⟨r_, h1, h⟩ := bd h
    refine call_aft (s_l00Src_next_c h1) ?_
    simp +decide only [go_sem, reduceIte, Nat.reduceAdd]
    obtain ⟨x, h1, h⟩ := bd h
    refine bind_some h1 ?_
    obtain rfl := Option.some.inj h
    first | rfl | (simp only [List.length_set, go_sem]; done)
noncomputable def s_l03Lanes_1_s (m : List Int) (t2 : List UInt8) : (List Int) × Int → Option (((List Int) × Int) ⊕ (((List Int) × Int × Bool)))
  | (m2, i) =>
    br (decide (i < ((t2.length : Nat) : Int))) (
      br (decide (0 ≤ (IntKind.wrap .i64 (i.tdiv (8 : Int)))) && decide ((IntKind.wrap .i64 (i.tdiv (8 : Int))).toNat < 25)) (
        (m2[(IntKind.wrap .i64 (i.tdiv (8 : Int))).toNat]?).bind fun x =>
        (atL t2 i).bind fun c =>
        br (decide (0 ≤ (IntKind.wrap .u64 (IntKind.wrap .i64 ((8 : Int) * (i.tmod (8 : Int))))))) (
          br (decide (0 ≤ (IntKind.wrap .i64 (i.tdiv (8 : Int)))) && decide ((IntKind.wrap .i64 (i.tdiv (8 : Int))).toNat < 25)) (
            br (decide ((IntKind.wrap .i64 (i.tdiv (8 : Int))).toNat < m2.length)) (
              some (.inl ((m2.set ((IntKind.wrap .i64 (i.tdiv (8 : Int))).toNat) (or64 .u64 x (shl64 .u64 (IntKind.wrap .u64 (c.toNat : Int)) (IntKind.wrap .u64 (IntKind.wrap .i64 ((8 : Int) * (i.tmod (8 : Int)))))))), (IntKind.wrap .i64 (i + (1 : Int)))))) (
              none)) (
            none)) (
          none)) (
        none)) (
      some (.inr (m2, i, decide (i < ((t2.length : Nat) : Int)))))
theorem s_l03Lanes_1_l {m : List Int} {t2 : List UInt8} {m2 : List Int} {i : Int} {e : ((List Int) × Int × Bool)} (h : Loop (s_l03Lanes_1_s m t2) (m2, i) = some e) : LoopX tab ow (.close []) b_s_l03Lanes_3 ⟨[(0, S t2), (2, .ptr 1000 0 0 1), (3, .ptr 2001 0 0 1), (4, I i)], [(1000, ⟨25, true, [ar .u64 m]⟩), (2001, ⟨25, true, [ar .u64 m2]⟩)]⟩ = some ((.exit 0, ⟨[(0, S t2), (2, .ptr 1000 0 0 1), (3, .ptr 2001 0 0 1), (4, I e.2.1), (9, B e.2.2)], [(1000, ⟨25, true, [ar .u64 m]⟩), (2001, ⟨25, true, [ar .u64 e.1]⟩)]⟩)) := by
  refine loop_runG (S := (List Int) × Int) (eS := fun s => ⟨[(0, S t2), (2, .ptr 1000 0 0 1), (3, .ptr 2001 0 0 1), (4, I s.2)], [(1000, ⟨25, true, [ar .u64 m]⟩), (2001, ⟨25, true, [ar .u64 s.1]⟩)]⟩) (eE := fun e => (.exit 0, ⟨[(0, S t2), (2, .ptr 1000 0 0 1), (3, .ptr 2001 0 0 1), (4, I e.2.1), (9, B e.2.2)], [(1000, ⟨25, true, [ar .u64 m]⟩), (2001, ⟨25, true, [ar .u64 e.1]⟩)]⟩)) (fun e => ?_) (fun s o h => ?_) h
  · simp [alt]
  · obtain ⟨m2, i⟩ := s
    simp only [s_l03Lanes_1_s] at h
    show Rn tab ow _ _ ⟨[(0, S t2), (2, .ptr 1000 0 0 1), (3, .ptr 2001 0 0 1), (4, I i)], [(1000, ⟨25, true, [ar .u64 m]⟩), (2001, ⟨25, true, [ar .u64 m2]⟩)]⟩ = _
    simp +decide only [b_s_l03Lanes_3, go_sem, reduceIte, Nat.reduceAdd]
    rcases brc h with ⟨hb, h⟩ | ⟨hb, h⟩
    · refine br_t hb ?_
      obtain ⟨hb, h⟩ := brg h
      refine br_t hb ?_
      obtain ⟨x, h1, h⟩ := bd h
      refine bind_some h1 ?_
      obtain ⟨c, h1, h⟩ := bd h
      refine bind_some h1 ?_
      obtain ⟨hb, h⟩ := brg h
      refine br_t hb ?_
      obtain ⟨hb, h⟩ := brg h
      refine br_t hb ?_
      obtain ⟨hb, h⟩ := brg h
      refine br_t hb ?_
      obtain rfl := Option.some.inj h
      first | rfl | (simp only [List.length_set, go_sem]; done)
    · refine br_f hb ?_
      obtain rfl := Option.some.inj h
      first | rfl | (simp only [List.length_set, go_sem]; done)
noncomputable def s_l03Lanes (t : (List UInt8)) : Option ((List Int)) :=
  (Loop (s_l03Lanes_1_s (nZ 25) t) ((nZ 25), (0 : Int))).bind fun e_ =>
  br (decide (e_.1.length = 25)) (
    br (decide (e_.1.length = 25)) (
      br (decide (e_.1.length = 25)) (
        some e_.1) (
        none)) (
      none)) (
    none)
theorem s_l03Lanes_c {t : (List UInt8)} {r : (List Int)} (h : s_l03Lanes t = some r) : Call tab ow 274 [S t] [] = some (.agg (ar .u64 r), []) := by
  rw [run_s_l03Lanes]
  unfold s_l03Lanes at h
  simp +decide only [b_s_l03Lanes, go_sem, reduceIte, Nat.reduceAdd]
  obtain ⟨e_, h1, h⟩ := bd h
  refine goR_of (s_l03Lanes_1_l h1) ?_
  simp +decide only [go_sem, reduceIte, Nat.reduceAdd]
  obtain ⟨hb, h⟩ := brg h
  refine br_t hb ?_
  obtain ⟨hb, h⟩ := brg h
  refine br_t hb ?_
  obtain ⟨hb, h⟩ := brg h
  refine br_t hb ?_
  obtain rfl := Option.some.inj h
  first | rfl | (simp only [List.length_set, go_sem]; done)
noncomputable def s_l03Rounds : Option ((List Int)) :=
  some ([1, 32898, 9223372036854808714, 9223372039002292224, 32907, 2147483649, 9223372039002292353, 9223372036854808585, 138, 136, 2147516425, 2147483658, 2147516555, 9223372036854775947, 9223372036854808713, 9223372036854808579, 9223372036854808578, 9223372036854775936, 32778, 9223372039002259466, 9223372039002292353, 9223372036854808704, 2147483649, 9223372039002292232] : List Int)
theorem s_l03Rounds_c {r : (List Int)} (h : s_l03Rounds = some r) : Call tab ow 290 [] [] = some (.agg (ar .u64 r), []) := by
  rw [run_s_l03Rounds]
  unfold s_l03Rounds at h
  simp +decide only [b_s_l03Rounds, go_sem, reduceIte, Nat.reduceAdd]
  obtain rfl := Option.some.inj h
  first | rfl | (simp only [List.length_set, go_sem]; done)
noncomputable def s_l03Shifts : Option ((List Int)) :=
  some ([0, 1, 62, 28, 27, 36, 44, 6, 55, 20, 3, 10, 43, 25, 39, 41, 45, 15, 21, 8, 18, 2, 61, 56, 14] : List Int)
theorem s_l03Shifts_c {r : (List Int)} (h : s_l03Shifts = some r) : Call tab ow 291 [] [] = some (.agg (ar .u64 r), []) := by
  rw [run_s_l03Shifts]
  unfold s_l03Shifts at h
  simp +decide only [b_s_l03Shifts, go_sem, reduceIte, Nat.reduceAdd]
  obtain rfl := Option.some.inj h
  first | rfl | (simp only [List.length_set, go_sem]; done)
noncomputable def s_l03Turn (x : Int) (n : Int) : Option (Int) :=
  br (n == (0 : Int)) (
    some x) (
    br (decide (0 ≤ n)) (
      br (decide (0 ≤ (IntKind.wrap .u64 ((64 : Int) - n)))) (
        some (or64 .u64 (shl64 .u64 x n) (shr64 .u64 x (IntKind.wrap .u64 ((64 : Int) - n))))) (
        none)) (
      none))
theorem s_l03Turn_c {x : Int} {n : Int} {r : Int} (h : s_l03Turn x n = some r) : Call tab ow 292 [.lit (.int .u64 x), .lit (.int .u64 n)] [] = some (.lit (.int .u64 r), []) := by
  rw [run_s_l03Turn]
  unfold s_l03Turn at h
  simp +decide only [b_s_l03Turn, go_sem, reduceIte, Nat.reduceAdd]
  rcases brc h with ⟨hb, h⟩ | ⟨hb, h⟩
  · refine br_t hb ?_
    obtain rfl := Option.some.inj h
    first | rfl | (simp only [List.length_set, go_sem]; done)
  · refine br_f hb ?_
    obtain ⟨hb, h⟩ := brg h
    refine br_t hb ?_
    obtain ⟨hb, h⟩ := brg h
    refine br_t hb ?_
    obtain rfl := Option.some.inj h
    first | rfl | (simp only [List.length_set, go_sem]; done)
end Go.AI.Fn

set_option linter.unusedVariables false
set_option linter.unusedSimpArgs false
set_option maxRecDepth 100000
set_option maxHeartbeats 1000000
namespace Go.AI.Fn
noncomputable def s_l03Permute_2_s (m5 : List Int) (m6 : List Int) (m7 : List Int) (m8 : List Int) (t2 : Int) : (List Int) × Int → Option (((List Int) × Int) ⊕ (((List Int) × Int × Bool)))
  | (m9, t3) =>
    br (decide (t3 < (5 : Int))) (
      br (decide (0 ≤ t3) && decide (t3.toNat < 25)) (
        (m5[t3.toNat]?).bind fun x =>
        br (decide (0 ≤ (IntKind.wrap .i64 (t3 + (5 : Int)))) && decide ((IntKind.wrap .i64 (t3 + (5 : Int))).toNat < 25)) (
          (m5[(IntKind.wrap .i64 (t3 + (5 : Int))).toNat]?).bind fun x2 =>
          br (decide (0 ≤ (IntKind.wrap .i64 (t3 + (10 : Int)))) && decide ((IntKind.wrap .i64 (t3 + (10 : Int))).toNat < 25)) (
            (m5[(IntKind.wrap .i64 (t3 + (10 : Int))).toNat]?).bind fun x3 =>
            br (decide (0 ≤ (IntKind.wrap .i64 (t3 + (15 : Int)))) && decide ((IntKind.wrap .i64 (t3 + (15 : Int))).toNat < 25)) (
              (m5[(IntKind.wrap .i64 (t3 + (15 : Int))).toNat]?).bind fun x4 =>
              br (decide (0 ≤ (IntKind.wrap .i64 (t3 + (20 : Int)))) && decide ((IntKind.wrap .i64 (t3 + (20 : Int))).toNat < 25)) (
                (m5[(IntKind.wrap .i64 (t3 + (20 : Int))).toNat]?).bind fun x5 =>
                br (decide (0 ≤ t3) && decide (t3.toNat < 5)) (
                  br (decide (t3.toNat < m9.length)) (
                    some (.inl ((m9.set t3.toNat (xor64 .u64 (xor64 .u64 (xor64 .u64 (xor64 .u64 x x2) x3) x4) x5)), (IntKind.wrap .i64 (t3 + (1 : Int)))))) (
                    none)) (
                  none)) (
                none)) (
              none)) (
            none)) (
          none)) (
        none)) (
      some (.inr (m9, t3, decide (t3 < (5 : Int)))))
theorem s_l03Permute_2_l {m5 : List Int} {m6 : List Int} {m7 : List Int} {m8 : List Int} {t2 : Int} {m9 : List Int} {t3 : Int} {e : ((List Int) × Int × Bool)} (h : Loop (s_l03Permute_2_s m5 m6 m7 m8 t2) (m9, t3) = some e) : LoopX tab ow (.close []) b_s_l03Permute_8 ⟨[(1, .ptr 1000 0 0 1), (2, .ptr 1001 0 0 1), (3, .ptr 2001 0 0 1), (4, .ptr 3001 0 0 1), (5, I t2), (6, .ptr 7001 0 0 1), (7, I t3)], [(1000, ⟨25, true, [ar .u64 m5]⟩), (1001, ⟨25, true, [ar .u64 m6]⟩), (2001, ⟨24, true, [ar .u64 m7]⟩), (3001, ⟨25, true, [ar .u64 m8]⟩), (7001, ⟨5, true, [ar .u64 m9]⟩)]⟩ = some ((.exit 2, ⟨[(1, .ptr 1000 0 0 1), (2, .ptr 1001 0 0 1), (3, .ptr 2001 0 0 1), (4, .ptr 3001 0 0 1), (5, I t2), (6, .ptr 7001 0 0 1), (7, I e.2.1), (22, B e.2.2)], [(1000, ⟨25, true, [ar .u64 m5]⟩), (1001, ⟨25, true, [ar .u64 m6]⟩), (2001, ⟨24, true, [ar .u64 m7]⟩), (3001, ⟨25, true, [ar .u64 m8]⟩), (7001, ⟨5, true, [ar .u64 e.1]⟩)]⟩)) := by
  refine loop_runG (S := (List Int) × Int) (eS := fun s => ⟨[(1, .ptr 1000 0 0 1), (2, .ptr 1001 0 0 1), (3, .ptr 2001 0 0 1), (4, .ptr 3001 0 0 1), (5, I t2), (6, .ptr 7001 0 0 1), (7, I s.2)], [(1000, ⟨25, true, [ar .u64 m5]⟩), (1001, ⟨25, true, [ar .u64 m6]⟩), (2001, ⟨24, true, [ar .u64 m7]⟩), (3001, ⟨25, true, [ar .u64 m8]⟩), (7001, ⟨5, true, [ar .u64 s.1]⟩)]⟩) (eE := fun e => (.exit 2, ⟨[(1, .ptr 1000 0 0 1), (2, .ptr 1001 0 0 1), (3, .ptr 2001 0 0 1), (4, .ptr 3001 0 0 1), (5, I t2), (6, .ptr 7001 0 0 1), (7, I e.2.1), (22, B e.2.2)], [(1000, ⟨25, true, [ar .u64 m5]⟩), (1001, ⟨25, true, [ar .u64 m6]⟩), (2001, ⟨24, true, [ar .u64 m7]⟩), (3001, ⟨25, true, [ar .u64 m8]⟩), (7001, ⟨5, true, [ar .u64 e.1]⟩)]⟩)) (fun e => ?_) (fun s o h => ?_) h
  · simp [alt]
  · obtain ⟨m9, t3⟩ := s
    simp only [s_l03Permute_2_s] at h
    show Rn tab ow _ _ ⟨[(1, .ptr 1000 0 0 1), (2, .ptr 1001 0 0 1), (3, .ptr 2001 0 0 1), (4, .ptr 3001 0 0 1), (5, I t2), (6, .ptr 7001 0 0 1), (7, I t3)], [(1000, ⟨25, true, [ar .u64 m5]⟩), (1001, ⟨25, true, [ar .u64 m6]⟩), (2001, ⟨24, true, [ar .u64 m7]⟩), (3001, ⟨25, true, [ar .u64 m8]⟩), (7001, ⟨5, true, [ar .u64 m9]⟩)]⟩ = _
    simp +decide only [b_s_l03Permute_8, go_sem, reduceIte, Nat.reduceAdd]
    rcases brc h with ⟨hb, h⟩ | ⟨hb, h⟩
    · refine br_t hb ?_
      obtain ⟨hb, h⟩ := brg h
      refine br_t hb ?_
      obtain ⟨x, h1, h⟩ := bd h
      refine bind_some h1 ?_
      obtain ⟨hb, h⟩ := brg h
      refine br_t hb ?_
      obtain ⟨x2, h1, h⟩ := bd h
      refine bind_some h1 ?_
      obtain ⟨hb, h⟩ := brg h
      refine br_t hb ?_
      obtain ⟨x3, h1, h⟩ := bd h
      refine bind_some h1 ?_
      obtain ⟨hb, h⟩ := brg h
      refine br_t hb ?_
      obtain ⟨x4, h1, h⟩ := bd h
      refine bind_some h1 ?_
      obtain ⟨hb, h⟩ := brg h
      refine br_t hb ?_
      obtain ⟨x5, h1, h⟩ := bd h
      refine bind_some h1 ?_
      obtain ⟨hb, h⟩ := brg h
      refine br_t hb ?_
      obtain ⟨hb, h⟩ := brg h
      refine br_t hb ?_
      obtain rfl := Option.some.inj h
      first | rfl | (simp only [List.length_set, go_sem]; done)
    · refine br_f hb ?_
      obtain rfl := Option.some.inj h
      first | rfl | (simp only [List.length_set, go_sem]; done)
noncomputable def s_l03Permute_3_s (m11 : List Int) (m12 : List Int) (m13 : List Int) (m14 : List Int) (t4 : Int) : (List Int) × Int → Option (((List Int) × Int) ⊕ (((List Int) × Int × Bool)))
  | (m10, t5) =>
    br (decide (t5 < (25 : Int))) (
      br (decide (0 ≤ t5) && decide (t5.toNat < 25)) (
        (m10[t5.toNat]?).bind fun x6 =>
        br (decide (0 ≤ ((IntKind.wrap .i64 (t5 + (4 : Int))).tmod (5 : Int))) && decide (((IntKind.wrap .i64 (t5 + (4 : Int))).tmod (5 : Int)).toNat < 5)) (
          (m14[((IntKind.wrap .i64 (t5 + (4 : Int))).tmod (5 : Int)).toNat]?).bind fun x7 =>
          br (decide (0 ≤ ((IntKind.wrap .i64 (t5 + (1 : Int))).tmod (5 : Int))) && decide (((IntKind.wrap .i64 (t5 + (1 : Int))).tmod (5 : Int)).toNat < 5)) (
            (m14[((IntKind.wrap .i64 (t5 + (1 : Int))).tmod (5 : Int)).toNat]?).bind fun x8 =>
            (s_l03Turn x8 (1 : Int)).bind fun r_3 =>
            br (decide (0 ≤ t5) && decide (t5.toNat < 25)) (
              br (decide (t5.toNat < m10.length)) (
                some (.inl ((m10.set t5.toNat (xor64 .u64 x6 (xor64 .u64 x7 r_3))), (IntKind.wrap .i64 (t5 + (1 : Int)))))) (
                none)) (
              none)) (
            none)) (
          none)) (
        none)) (
      some (.inr (m10, t5, decide (t5 < (25 : Int)))))
theorem s_l03Permute_3_l {m11 : List Int} {m12 : List Int} {m13 : List Int} {m14 : List Int} {t4 : Int} {m10 : List Int} {t5 : Int} {e : ((List Int) × Int × Bool)} (h : Loop (s_l03Permute_3_s m11 m12 m13 m14 t4) (m10, t5) = some e) : LoopX tab ow (.close [15013]) b_s_l03Permute_12 ⟨[(1, .ptr 1000 0 0 1), (2, .ptr 1001 0 0 1), (3, .ptr 2001 0 0 1), (4, .ptr 3001 0 0 1), (5, I t4), (6, .ptr 7001 0 0 1), (8, I t5)], [(1000, ⟨25, true, [ar .u64 m10]⟩), (1001, ⟨25, true, [ar .u64 m11]⟩), (2001, ⟨24, true, [ar .u64 m12]⟩), (3001, ⟨25, true, [ar .u64 m13]⟩), (7001, ⟨5, true, [ar .u64 m14]⟩)]⟩ = some ((.exit 4, ⟨[(1, .ptr 1000 0 0 1), (2, .ptr 1001 0 0 1), (3, .ptr 2001 0 0 1), (4, .ptr 3001 0 0 1), (5, I t4), (6, .ptr 7001 0 0 1), (8, I e.2.1), (51, B e.2.2)], [(1000, ⟨25, true, [ar .u64 e.1]⟩), (1001, ⟨25, true, [ar .u64 m11]⟩), (2001, ⟨24, true, [ar .u64 m12]⟩), (3001, ⟨25, true, [ar .u64 m13]⟩), (7001, ⟨5, true, [ar .u64 m14]⟩)]⟩)) := by
  refine loop_runG (S := (List Int) × Int) (eS := fun s => ⟨[(1, .ptr 1000 0 0 1), (2, .ptr 1001 0 0 1), (3, .ptr 2001 0 0 1), (4, .ptr 3001 0 0 1), (5, I t4), (6, .ptr 7001 0 0 1), (8, I s.2)], [(1000, ⟨25, true, [ar .u64 s.1]⟩), (1001, ⟨25, true, [ar .u64 m11]⟩), (2001, ⟨24, true, [ar .u64 m12]⟩), (3001, ⟨25, true, [ar .u64 m13]⟩), (7001, ⟨5, true, [ar .u64 m14]⟩)]⟩) (eE := fun e => (.exit 4, ⟨[(1, .ptr 1000 0 0 1), (2, .ptr 1001 0 0 1), (3, .ptr 2001 0 0 1), (4, .ptr 3001 0 0 1), (5, I t4), (6, .ptr 7001 0 0 1), (8, I e.2.1), (51, B e.2.2)], [(1000, ⟨25, true, [ar .u64 e.1]⟩), (1001, ⟨25, true, [ar .u64 m11]⟩), (2001, ⟨24, true, [ar .u64 m12]⟩), (3001, ⟨25, true, [ar .u64 m13]⟩), (7001, ⟨5, true, [ar .u64 m14]⟩)]⟩)) (fun e => ?_) (fun s o h => ?_) h
  · simp [alt]
  · obtain ⟨m10, t5⟩ := s
    simp only [s_l03Permute_3_s] at h
    show Rn tab ow _ _ ⟨[(1, .ptr 1000 0 0 1), (2, .ptr 1001 0 0 1), (3, .ptr 2001 0 0 1), (4, .ptr 3001 0 0 1), (5, I t4), (6, .ptr 7001 0 0 1), (8, I t5)], [(1000, ⟨25, true, [ar .u64 m10]⟩), (1001, ⟨25, true, [ar .u64 m11]⟩), (2001, ⟨24, true, [ar .u64 m12]⟩), (3001, ⟨25, true, [ar .u64 m13]⟩), (7001, ⟨5, true, [ar .u64 m14]⟩)]⟩ = _
    simp +decide only [b_s_l03Permute_12, go_sem, reduceIte, Nat.reduceAdd]
    rcases brc h with ⟨hb, h⟩ | ⟨hb, h⟩
    · refine br_t hb ?_
      obtain ⟨hb, h⟩ := brg h
      refine br_t hb ?_
      obtain ⟨x6, h1, h⟩ := bd h
      refine bind_some h1 ?_
      obtain ⟨hb, h⟩ := brg h
      refine br_t hb ?_
      obtain ⟨x7, h1, h⟩ := bd h
      refine bind_some h1 ?_
      obtain ⟨hb, h⟩ := brg h
      refine br_t hb ?_
      obtain ⟨x8, h1, h⟩ := bd h
      refine bind_some h1 ?_
      obtain ⟨r_3, h1, h⟩ := bd h
      refine call_aftD (s_l03Turn_c h1) ?_
      simp +decide only [go_sem, reduceIte, Nat.reduceAdd]
      obtain ⟨hb, h⟩ := brg h
      refine br_t hb ?_
      obtain ⟨hb, h⟩ := brg h
      refine br_t hb ?_
      obtain rfl := Option.some.inj h
      first | rfl | (simp only [List.length_set, go_sem]; done)
    · refine br_f hb ?_
      obtain rfl := Option.some.inj h
      first | rfl | (simp only [List.length_set, go_sem]; done)
noncomputable def s_l03Permute_5_s (m21 : List Int) (m22 : List Int) (m23 : List Int) (m24 : List Int) (m25 : List Int) (t8 : Int) (t9 : Int) : (List Int) × Int → Option (((List Int) × Int) ⊕ (((List Int) × Int × Bool)))
  | (m26, t10) =>
    br (decide (t10 < (5 : Int))) (
      br (decide (0 ≤ (IntKind.wrap .i64 (t9 + (IntKind.wrap .i64 ((5 : Int) * t10))))) && decide ((IntKind.wrap .i64 (t9 + (IntKind.wrap .i64 ((5 : Int) * t10)))).toNat < 25)) (
        (m21[(IntKind.wrap .i64 (t9 + (IntKind.wrap .i64 ((5 : Int) * t10)))).toNat]?).bind fun x9 =>
        br (decide (0 ≤ (IntKind.wrap .i64 (t9 + (IntKind.wrap .i64 ((5 : Int) * t10))))) && decide ((IntKind.wrap .i64 (t9 + (IntKind.wrap .i64 ((5 : Int) * t10)))).toNat < 25)) (
          (m24[(IntKind.wrap .i64 (t9 + (IntKind.wrap .i64 ((5 : Int) * t10)))).toNat]?).bind fun x10 =>
          (s_l03Turn x9 x10).bind fun r_4 =>
          br (decide (0 ≤ (IntKind.wrap .i64 (t10 + (IntKind.wrap .i64 ((5 : Int) * ((IntKind.wrap .i64 ((IntKind.wrap .i64 ((2 : Int) * t9)) + (IntKind.wrap .i64 ((3 : Int) * t10)))).tmod (5 : Int))))))) && decide ((IntKind.wrap .i64 (t10 + (IntKind.wrap .i64 ((5 : Int) * ((IntKind.wrap .i64 ((IntKind.wrap .i64 ((2 : Int) * t9)) + (IntKind.wrap .i64 ((3 : Int) * t10)))).tmod (5 : Int)))))).toNat < 25)) (
            br (decide ((IntKind.wrap .i64 (t10 + (IntKind.wrap .i64 ((5 : Int) * ((IntKind.wrap .i64 ((IntKind.wrap .i64 ((2 : Int) * t9)) + (IntKind.wrap .i64 ((3 : Int) * t10)))).tmod (5 : Int)))))).toNat < m26.length)) (
              some (.inl ((m26.set ((IntKind.wrap .i64 (t10 + (IntKind.wrap .i64 ((5 : Int) * ((IntKind.wrap .i64 ((IntKind.wrap .i64 ((2 : Int) * t9)) + (IntKind.wrap .i64 ((3 : Int) * t10)))).tmod (5 : Int)))))).toNat) r_4), (IntKind.wrap .i64 (t10 + (1 : Int)))))) (
              none)) (
            none)) (
          none)) (
        none)) (
      some (.inr (m26, t10, decide (t10 < (5 : Int)))))
theorem s_l03Permute_5_l {m21 : List Int} {m22 : List Int} {m23 : List Int} {m24 : List Int} {m25 : List Int} {t8 : Int} {t9 : Int} {m26 : List Int} {t10 : Int} {e : ((List Int) × Int × Bool)} (h : Loop (s_l03Permute_5_s m21 m22 m23 m24 m25 t8 t9) (m26, t10) = some e) : LoopX tab ow (.close [23021]) b_s_l03Permute_20 ⟨[(1, .ptr 1000 0 0 1), (2, .ptr 1001 0 0 1), (3, .ptr 2001 0 0 1), (4, .ptr 3001 0 0 1), (5, I t8), (9, .ptr 16001 0 0 1), (10, I t9), (11, I t10)], [(1000, ⟨25, true, [ar .u64 m21]⟩), (1001, ⟨25, true, [ar .u64 m22]⟩), (2001, ⟨24, true, [ar .u64 m23]⟩), (3001, ⟨25, true, [ar .u64 m24]⟩), (7001, ⟨5, true, [ar .u64 m25]⟩), (16001, ⟨25, true, [ar .u64 m26]⟩)]⟩ = some ((.exit 8, ⟨[(1, .ptr 1000 0 0 1), (2, .ptr 1001 0 0 1), (3, .ptr 2001 0 0 1), (4, .ptr 3001 0 0 1), (5, I t8), (9, .ptr 16001 0 0 1), (10, I t9), (11, I e.2.1), (77, B e.2.2)], [(1000, ⟨25, true, [ar .u64 m21]⟩), (1001, ⟨25, true, [ar .u64 m22]⟩), (2001, ⟨24, true, [ar .u64 m23]⟩), (3001, ⟨25, true, [ar .u64 m24]⟩), (7001, ⟨5, true, [ar .u64 m25]⟩), (16001, ⟨25, true, [ar .u64 e.1]⟩)]⟩)) := by
  refine loop_runG (S := (List Int) × Int) (eS := fun s => ⟨[(1, .ptr 1000 0 0 1), (2, .ptr 1001 0 0 1), (3, .ptr 2001 0 0 1), (4, .ptr 3001 0 0 1), (5, I t8), (9, .ptr 16001 0 0 1), (10, I t9), (11, I s.2)], [(1000, ⟨25, true, [ar .u64 m21]⟩), (1001, ⟨25, true, [ar .u64 m22]⟩), (2001, ⟨24, true, [ar .u64 m23]⟩), (3001, ⟨25, true, [ar .u64 m24]⟩), (7001, ⟨5, true, [ar .u64 m25]⟩), (16001, ⟨25, true, [ar .u64 s.1]⟩)]⟩) (eE := fun e => (.exit 8, ⟨[(1, .ptr 1000 0 0 1), (2, .ptr 1001 0 0 1), (3, .ptr 2001 0 0 1), (4, .ptr 3001 0 0 1), (5, I t8), (9, .ptr 16001 0 0 1), (10, I t9), (11, I e.2.1), (77, B e.2.2)], [(1000, ⟨25, true, [ar .u64 m21]⟩), (1001, ⟨25, true, [ar .u64 m22]⟩), (2001, ⟨24, true, [ar .u64 m23]⟩), (3001, ⟨25, true, [ar .u64 m24]⟩), (7001, ⟨5, true, [ar .u64 m25]⟩), (16001, ⟨25, true, [ar .u64 e.1]⟩)]⟩)) (fun e => ?_) (fun s o h => ?_) h
  · simp [alt]
  · obtain ⟨m26, t10⟩ := s
    simp only [s_l03Permute_5_s] at h
    show Rn tab ow _ _ ⟨[(1, .ptr 1000 0 0 1), (2, .ptr 1001 0 0 1), (3, .ptr 2001 0 0 1), (4, .ptr 3001 0 0 1), (5, I t8), (9, .ptr 16001 0 0 1), (10, I t9), (11, I t10)], [(1000, ⟨25, true, [ar .u64 m21]⟩), (1001, ⟨25, true, [ar .u64 m22]⟩), (2001, ⟨24, true, [ar .u64 m23]⟩), (3001, ⟨25, true, [ar .u64 m24]⟩), (7001, ⟨5, true, [ar .u64 m25]⟩), (16001, ⟨25, true, [ar .u64 m26]⟩)]⟩ = _
    simp +decide only [b_s_l03Permute_20, go_sem, reduceIte, Nat.reduceAdd]
    rcases brc h with ⟨hb, h⟩ | ⟨hb, h⟩
    · refine br_t hb ?_
      obtain ⟨hb, h⟩ := brg h
      refine br_t hb ?_
      obtain ⟨x9, h1, h⟩ := bd h
      refine bind_some h1 ?_
      obtain ⟨hb, h⟩ := brg h
      refine br_t hb ?_
      obtain ⟨x10, h1, h⟩ := bd h
      refine bind_some h1 ?_
      obtain ⟨r_4, h1, h⟩ := bd h
      refine call_aftD (s_l03Turn_c h1) ?_
      simp +decide only [go_sem, reduceIte, Nat.reduceAdd]
      obtain ⟨hb, h⟩ := brg h
      refine br_t hb ?_
      obtain ⟨hb, h⟩ := brg h
      refine br_t hb ?_
      obtain rfl := Option.some.inj h
      first | rfl | (simp only [List.length_set, go_sem]; done)
    · refine br_f hb ?_
      obtain rfl := Option.some.inj h
      first | rfl | (simp only [List.length_set, go_sem]; done)
noncomputable def s_l03Permute_4_s (m15 : List Int) (m16 : List Int) (m17 : List Int) (m18 : List Int) (m19 : List Int) (t6 : Int) : (List Int) × Int → Option (((List Int) × Int) ⊕ (((List Int) × Int × Bool)))
  | (m20, t7) =>
    br (decide (t7 < (5 : Int))) (
      (Loop (s_l03Permute_5_s m15 m16 m17 m18 m19 t6 t7) (m20, (0 : Int))).bind fun e_3 =>
      some (.inl (e_3.1, (IntKind.wrap .i64 (t7 + (1 : Int)))))) (
      some (.inr (m20, t7, decide (t7 < (5 : Int)))))
theorem s_l03Permute_4_l {m15 : List Int} {m16 : List Int} {m17 : List Int} {m18 : List Int} {m19 : List Int} {t6 : Int} {m20 : List Int} {t7 : Int} {e : ((List Int) × Int × Bool)} (h : Loop (s_l03Permute_4_s m15 m16 m17 m18 m19 t6) (m20, t7) = some e) : LoopX tab ow (.close [23021]) b_s_l03Permute_17 ⟨[(1, .ptr 1000 0 0 1), (2, .ptr 1001 0 0 1), (3, .ptr 2001 0 0 1), (4, .ptr 3001 0 0 1), (5, I t6), (9, .ptr 16001 0 0 1), (10, I t7)], [(1000, ⟨25, true, [ar .u64 m15]⟩), (1001, ⟨25, true, [ar .u64 m16]⟩), (2001, ⟨24, true, [ar .u64 m17]⟩), (3001, ⟨25, true, [ar .u64 m18]⟩), (7001, ⟨5, true, [ar .u64 m19]⟩), (16001, ⟨25, true, [ar .u64 m20]⟩)]⟩ = some ((.exit 6, ⟨[(1, .ptr 1000 0 0 1), (2, .ptr 1001 0 0 1), (3, .ptr 2001 0 0 1), (4, .ptr 3001 0 0 1), (5, I t6), (9, .ptr 16001 0 0 1), (10, I e.2.1), (73, B e.2.2)], [(1000, ⟨25, true, [ar .u64 m15]⟩), (1001, ⟨25, true, [ar .u64 m16]⟩), (2001, ⟨24, true, [ar .u64 m17]⟩), (3001, ⟨25, true, [ar .u64 m18]⟩), (7001, ⟨5, true, [ar .u64 m19]⟩), (16001, ⟨25, true, [ar .u64 e.1]⟩)]⟩)) := by
  refine loop_runG (S := (List Int) × Int) (eS := fun s => ⟨[(1, .ptr 1000 0 0 1), (2, .ptr 1001 0 0 1), (3, .ptr 2001 0 0 1), (4, .ptr 3001 0 0 1), (5, I t6), (9, .ptr 16001 0 0 1), (10, I s.2)], [(1000, ⟨25, true, [ar .u64 m15]⟩), (1001, ⟨25, true, [ar .u64 m16]⟩), (2001, ⟨24, true, [ar .u64 m17]⟩), (3001, ⟨25, true, [ar .u64 m18]⟩), (7001, ⟨5, true, [ar .u64 m19]⟩), (16001, ⟨25, true, [ar .u64 s.1]⟩)]⟩) (eE := fun e => (.exit 6, ⟨[(1, .ptr 1000 0 0 1), (2, .ptr 1001 0 0 1), (3, .ptr 2001 0 0 1), (4, .ptr 3001 0 0 1), (5, I t6), (9, .ptr 16001 0 0 1), (10, I e.2.1), (73, B e.2.2)], [(1000, ⟨25, true, [ar .u64 m15]⟩), (1001, ⟨25, true, [ar .u64 m16]⟩), (2001, ⟨24, true, [ar .u64 m17]⟩), (3001, ⟨25, true, [ar .u64 m18]⟩), (7001, ⟨5, true, [ar .u64 m19]⟩), (16001, ⟨25, true, [ar .u64 e.1]⟩)]⟩)) (fun e => ?_) (fun s o h => ?_) h
  · simp [alt]
  · obtain ⟨m20, t7⟩ := s
    simp only [s_l03Permute_4_s] at h
    show Rn tab ow _ _ ⟨[(1, .ptr 1000 0 0 1), (2, .ptr 1001 0 0 1), (3, .ptr 2001 0 0 1), (4, .ptr 3001 0 0 1), (5, I t6), (9, .ptr 16001 0 0 1), (10, I t7)], [(1000, ⟨25, true, [ar .u64 m15]⟩), (1001, ⟨25, true, [ar .u64 m16]⟩), (2001, ⟨24, true, [ar .u64 m17]⟩), (3001, ⟨25, true, [ar .u64 m18]⟩), (7001, ⟨5, true, [ar .u64 m19]⟩), (16001, ⟨25, true, [ar .u64 m20]⟩)]⟩ = _
    simp +decide only [b_s_l03Permute_17, go_sem, reduceIte, Nat.reduceAdd]
    rcases brc h with ⟨hb, h⟩ | ⟨hb, h⟩
    · refine br_t hb ?_
      obtain ⟨e_3, h1, h⟩ := bd h
      refine goR_of (s_l03Permute_5_l h1) ?_
      simp +decide only [go_sem, reduceIte, Nat.reduceAdd]
      obtain rfl := Option.some.inj h
      first | rfl | (simp only [List.length_set, go_sem]; done)
    · refine br_f hb ?_
      obtain rfl := Option.some.inj h
      first | rfl | (simp only [List.length_set, go_sem]; done)
noncomputable def s_l03Permute_7_s (m34 : List Int) (m35 : List Int) (m36 : List Int) (m37 : List Int) (m38 : List Int) (t13 : Int) (t14 : Int) : (List Int) × Int → Option (((List Int) × Int) ⊕ (((List Int) × Int × Bool)))
  | (m33, t15) =>
    br (decide (t15 < (5 : Int))) (
      br (decide (0 ≤ (IntKind.wrap .i64 (t14 + (IntKind.wrap .i64 ((5 : Int) * t15))))) && decide ((IntKind.wrap .i64 (t14 + (IntKind.wrap .i64 ((5 : Int) * t15)))).toNat < 25)) (
        (m38[(IntKind.wrap .i64 (t14 + (IntKind.wrap .i64 ((5 : Int) * t15)))).toNat]?).bind fun x11 =>
        br (decide (0 ≤ (IntKind.wrap .i64 (((IntKind.wrap .i64 (t14 + (1 : Int))).tmod (5 : Int)) + (IntKind.wrap .i64 ((5 : Int) * t15))))) && decide ((IntKind.wrap .i64 (((IntKind.wrap .i64 (t14 + (1 : Int))).tmod (5 : Int)) + (IntKind.wrap .i64 ((5 : Int) * t15)))).toNat < 25)) (
          (m38[(IntKind.wrap .i64 (((IntKind.wrap .i64 (t14 + (1 : Int))).tmod (5 : Int)) + (IntKind.wrap .i64 ((5 : Int) * t15)))).toNat]?).bind fun x12 =>
          br (decide (0 ≤ (IntKind.wrap .i64 (((IntKind.wrap .i64 (t14 + (2 : Int))).tmod (5 : Int)) + (IntKind.wrap .i64 ((5 : Int) * t15))))) && decide ((IntKind.wrap .i64 (((IntKind.wrap .i64 (t14 + (2 : Int))).tmod (5 : Int)) + (IntKind.wrap .i64 ((5 : Int) * t15)))).toNat < 25)) (
            (m38[(IntKind.wrap .i64 (((IntKind.wrap .i64 (t14 + (2 : Int))).tmod (5 : Int)) + (IntKind.wrap .i64 ((5 : Int) * t15)))).toNat]?).bind fun x13 =>
            br (decide (0 ≤ (IntKind.wrap .i64 (t14 + (IntKind.wrap .i64 ((5 : Int) * t15))))) && decide ((IntKind.wrap .i64 (t14 + (IntKind.wrap .i64 ((5 : Int) * t15)))).toNat < 25)) (
              br (decide ((IntKind.wrap .i64 (t14 + (IntKind.wrap .i64 ((5 : Int) * t15)))).toNat < m33.length)) (
                some (.inl ((m33.set ((IntKind.wrap .i64 (t14 + (IntKind.wrap .i64 ((5 : Int) * t15)))).toNat) (xor64 .u64 x11 (and64 .u64 (not64 .u64 x12) x13))), (IntKind.wrap .i64 (t15 + (1 : Int)))))) (
                none)) (
              none)) (
            none)) (
          none)) (
        none)) (
      some (.inr (m33, t15, decide (t15 < (5 : Int)))))
theorem s_l03Permute_7_l {m34 : List Int} {m35 : List Int} {m36 : List Int} {m37 : List Int} {m38 : List Int} {t13 : Int} {t14 : Int} {m33 : List Int} {t15 : Int} {e : ((List Int) × Int × Bool)} (h : Loop (s_l03Permute_7_s m34 m35 m36 m37 m38 t13 t14) (m33, t15) = some e) : LoopX tab ow (.close []) b_s_l03Permute_27 ⟨[(1, .ptr 1000 0 0 1), (2, .ptr 1001 0 0 1), (3, .ptr 2001 0 0 1), (4, .ptr 3001 0 0 1), (5, I t13), (9, .ptr 16001 0 0 1), (12, I t14), (13, I t15)], [(1000, ⟨25, true, [ar .u64 m33]⟩), (1001, ⟨25, true, [ar .u64 m34]⟩), (2001, ⟨24, true, [ar .u64 m35]⟩), (3001, ⟨25, true, [ar .u64 m36]⟩), (7001, ⟨5, true, [ar .u64 m37]⟩), (16001, ⟨25, true, [ar .u64 m38]⟩)]⟩ = some ((.exit 12, ⟨[(1, .ptr 1000 0 0 1), (2, .ptr 1001 0 0 1), (3, .ptr 2001 0 0 1), (4, .ptr 3001 0 0 1), (5, I t13), (9, .ptr 16001 0 0 1), (12, I t14), (13, I e.2.1), (108, B e.2.2)], [(1000, ⟨25, true, [ar .u64 e.1]⟩), (1001, ⟨25, true, [ar .u64 m34]⟩), (2001, ⟨24, true, [ar .u64 m35]⟩), (3001, ⟨25, true, [ar .u64 m36]⟩), (7001, ⟨5, true, [ar .u64 m37]⟩), (16001, ⟨25, true, [ar .u64 m38]⟩)]⟩)) := by
  refine loop_runG (S := (List Int) × Int) (eS := fun s => ⟨[(1, .ptr 1000 0 0 1), (2, .ptr 1001 0 0 1), (3, .ptr 2001 0 0 1), (4, .ptr 3001 0 0 1), (5, I t13), (9, .ptr 16001 0 0 1), (12, I t14), (13, I s.2)], [(1000, ⟨25, true, [ar .u64 s.1]⟩), (1001, ⟨25, true, [ar .u64 m34]⟩), (2001, ⟨24, true, [ar .u64 m35]⟩), (3001, ⟨25, true, [ar .u64 m36]⟩), (7001, ⟨5, true, [ar .u64 m37]⟩), (16001, ⟨25, true, [ar .u64 m38]⟩)]⟩) (eE := fun e => (.exit 12, ⟨[(1, .ptr 1000 0 0 1), (2, .ptr 1001 0 0 1), (3, .ptr 2001 0 0 1), (4, .ptr 3001 0 0 1), (5, I t13), (9, .ptr 16001 0 0 1), (12, I t14), (13, I e.2.1), (108, B e.2.2)], [(1000, ⟨25, true, [ar .u64 e.1]⟩), (1001, ⟨25, true, [ar .u64 m34]⟩), (2001, ⟨24, true, [ar .u64 m35]⟩), (3001, ⟨25, true, [ar .u64 m36]⟩), (7001, ⟨5, true, [ar .u64 m37]⟩), (16001, ⟨25, true, [ar .u64 m38]⟩)]⟩)) (fun e => ?_) (fun s o h => ?_) h
  · simp [alt]
  · obtain ⟨m33, t15⟩ := s
    simp only [s_l03Permute_7_s] at h
    show Rn tab ow _ _ ⟨[(1, .ptr 1000 0 0 1), (2, .ptr 1001 0 0 1), (3, .ptr 2001 0 0 1), (4, .ptr 3001 0 0 1), (5, I t13), (9, .ptr 16001 0 0 1), (12, I t14), (13, I t15)], [(1000, ⟨25, true, [ar .u64 m33]⟩), (1001, ⟨25, true, [ar .u64 m34]⟩), (2001, ⟨24, true, [ar .u64 m35]⟩), (3001, ⟨25, true, [ar .u64 m36]⟩), (7001, ⟨5, true, [ar .u64 m37]⟩), (16001, ⟨25, true, [ar .u64 m38]⟩)]⟩ = _
    simp +decide only [b_s_l03Permute_27, go_sem, reduceIte, Nat.reduceAdd]
    rcases brc h with ⟨hb, h⟩ | ⟨hb, h⟩
    · refine br_t hb ?_
      obtain ⟨hb, h⟩ := brg h
      refine br_t hb ?_
      obtain ⟨x11, h1, h⟩ := bd h
      refine bind_some h1 ?_
      obtain ⟨hb, h⟩ := brg h
      refine br_t hb ?_
      obtain ⟨x12, h1, h⟩ := bd h
      refine bind_some h1 ?_
      obtain ⟨hb, h⟩ := brg h
      refine br_t hb ?_
      obtain ⟨x13, h1, h⟩ := bd h
      refine bind_some h1 ?_
      obtain ⟨hb, h⟩ := brg h
      refine br_t hb ?_
      obtain ⟨hb, h⟩ := brg h
      refine br_t hb ?_
      obtain rfl := Option.some.inj h
      first | rfl | (simp only [List.length_set, go_sem]; done)
    · refine br_f hb ?_
      obtain rfl := Option.some.inj h
      first | rfl | (simp only [List.length_set, go_sem]; done)
noncomputable def s_l03Permute_6_s (m28 : List Int) (m29 : List Int) (m30 : List Int) (m31 : List Int) (m32 : List Int) (t11 : Int) : (List Int) × Int → Option (((List Int) × Int) ⊕ (((List Int) × Int × Bool)))
  | (m27, t12) =>
    br (decide (t12 < (5 : Int))) (
      (Loop (s_l03Permute_7_s m28 m29 m30 m31 m32 t11 t12) (m27, (0 : Int))).bind fun e_5 =>
      some (.inl (e_5.1, (IntKind.wrap .i64 (t12 + (1 : Int)))))) (
      some (.inr (m27, t12, decide (t12 < (5 : Int)))))
theorem s_l03Permute_6_l {m28 : List Int} {m29 : List Int} {m30 : List Int} {m31 : List Int} {m32 : List Int} {t11 : Int} {m27 : List Int} {t12 : Int} {e : ((List Int) × Int × Bool)} (h : Loop (s_l03Permute_6_s m28 m29 m30 m31 m32 t11) (m27, t12) = some e) : LoopX tab ow (.close []) b_s_l03Permute_24 ⟨[(1, .ptr 1000 0 0 1), (2, .ptr 1001 0 0 1), (3, .ptr 2001 0 0 1), (4, .ptr 3001 0 0 1), (5, I t11), (9, .ptr 16001 0 0 1), (12, I t12)], [(1000, ⟨25, true, [ar .u64 m27]⟩), (1001, ⟨25, true, [ar .u64 m28]⟩), (2001, ⟨24, true, [ar .u64 m29]⟩), (3001, ⟨25, true, [ar .u64 m30]⟩), (7001, ⟨5, true, [ar .u64 m31]⟩), (16001, ⟨25, true, [ar .u64 m32]⟩)]⟩ = some ((.exit 10, ⟨[(1, .ptr 1000 0 0 1), (2, .ptr 1001 0 0 1), (3, .ptr 2001 0 0 1), (4, .ptr 3001 0 0 1), (5, I t11), (9, .ptr 16001 0 0 1), (12, I e.2.1), (104, B e.2.2)], [(1000, ⟨25, true, [ar .u64 e.1]⟩), (1001, ⟨25, true, [ar .u64 m28]⟩), (2001, ⟨24, true, [ar .u64 m29]⟩), (3001, ⟨25, true, [ar .u64 m30]⟩), (7001, ⟨5, true, [ar .u64 m31]⟩), (16001, ⟨25, true, [ar .u64 m32]⟩)]⟩)) := by
  refine loop_runG (S := (List Int) × Int) (eS := fun s => ⟨[(1, .ptr 1000 0 0 1), (2, .ptr 1001 0 0 1), (3, .ptr 2001 0 0 1), (4, .ptr 3001 0 0 1), (5, I t11), (9, .ptr 16001 0 0 1), (12, I s.2)], [(1000, ⟨25, true, [ar .u64 s.1]⟩), (1001, ⟨25, true, [ar .u64 m28]⟩), (2001, ⟨24, true, [ar .u64 m29]⟩), (3001, ⟨25, true, [ar .u64 m30]⟩), (7001, ⟨5, true, [ar .u64 m31]⟩), (16001, ⟨25, true, [ar .u64 m32]⟩)]⟩) (eE := fun e => (.exit 10, ⟨[(1, .ptr 1000 0 0 1), (2, .ptr 1001 0 0 1), (3, .ptr 2001 0 0 1), (4, .ptr 3001 0 0 1), (5, I t11), (9, .ptr 16001 0 0 1), (12, I e.2.1), (104, B e.2.2)], [(1000, ⟨25, true, [ar .u64 e.1]⟩), (1001, ⟨25, true, [ar .u64 m28]⟩), (2001, ⟨24, true, [ar .u64 m29]⟩), (3001, ⟨25, true, [ar .u64 m30]⟩), (7001, ⟨5, true, [ar .u64 m31]⟩), (16001, ⟨25, true, [ar .u64 m32]⟩)]⟩)) (fun e => ?_) (fun s o h => ?_) h
  · simp [alt]
  · obtain ⟨m27, t12⟩ := s
    simp only [s_l03Permute_6_s] at h
    show Rn tab ow _ _ ⟨[(1, .ptr 1000 0 0 1), (2, .ptr 1001 0 0 1), (3, .ptr 2001 0 0 1), (4, .ptr 3001 0 0 1), (5, I t11), (9, .ptr 16001 0 0 1), (12, I t12)], [(1000, ⟨25, true, [ar .u64 m27]⟩), (1001, ⟨25, true, [ar .u64 m28]⟩), (2001, ⟨24, true, [ar .u64 m29]⟩), (3001, ⟨25, true, [ar .u64 m30]⟩), (7001, ⟨5, true, [ar .u64 m31]⟩), (16001, ⟨25, true, [ar .u64 m32]⟩)]⟩ = _
    simp +decide only [b_s_l03Permute_24, go_sem, reduceIte, Nat.reduceAdd]
    rcases brc h with ⟨hb, h⟩ | ⟨hb, h⟩
    · refine br_t hb ?_
      obtain ⟨e_5, h1, h⟩ := bd h
      refine goR_of (s_l03Permute_7_l h1) ?_
      simp +decide only [go_sem, reduceIte, Nat.reduceAdd]
      obtain rfl := Option.some.inj h
      first | rfl | (simp only [List.length_set, go_sem]; done)
    · refine br_f hb ?_
      obtain rfl := Option.some.inj h
      first | rfl | (simp only [List.length_set, go_sem]; done)
noncomputable def s_l03Permute_1_s (m2 : List Int) (m3 : List Int) (m4 : List Int) : (List Int) × Int → Option (((List Int) × Int) ⊕ (((List Int) × Int × Bool)))
  | (m, t) =>
    br (decide (t < (24 : Int))) (
      (Loop (s_l03Permute_2_s m m2 m3 m4 t) ((nZ 5), (0 : Int))).bind fun e_ =>
      (Loop (s_l03Permute_3_s m2 m3 m4 e_.1 t) (m, (0 : Int))).bind fun e_2 =>
      (Loop (s_l03Permute_4_s e_2.1 m2 m3 m4 e_.1 t) ((nZ 25), (0 : Int))).bind fun e_4 =>
      (Loop (s_l03Permute_6_s m2 m3 m4 e_.1 e_4.1 t) (e_2.1, (0 : Int))).bind fun e_6 =>
      (e_6.1[0]?).bind fun x14 =>
      br (decide (0 ≤ t) && decide (t.toNat < 24)) (
        (m3[t.toNat]?).bind fun x15 =>
        br (decide (0 < e_6.1.length)) (
          some (.inl ((e_6.1.set 0 (xor64 .u64 x14 x15)), (IntKind.wrap .i64 (t + (1 : Int)))))) (
          none)) (
        none)) (
      some (.inr (m, t, decide (t < (24 : Int)))))
theorem s_l03Permute_1_l {m2 : List Int} {m3 : List Int} {m4 : List Int} {m : List Int} {t : Int} {e : ((List Int) × Int × Bool)} (h : Loop (s_l03Permute_1_s m2 m3 m4) (m, t) = some e) : LoopX tab ow (.close [7001, 15013, 16001, 23021]) b_s_l03Permute_4 ⟨[(1, .ptr 1000 0 0 1), (2, .ptr 1001 0 0 1), (3, .ptr 2001 0 0 1), (4, .ptr 3001 0 0 1), (5, I t)], [(1000, ⟨25, true, [ar .u64 m]⟩), (1001, ⟨25, true, [ar .u64 m2]⟩), (2001, ⟨24, true, [ar .u64 m3]⟩), (3001, ⟨25, true, [ar .u64 m4]⟩)]⟩ = some ((.exit 0, ⟨[(1, .ptr 1000 0 0 1), (2, .ptr 1001 0 0 1), (3, .ptr 2001 0 0 1), (4, .ptr 3001 0 0 1), (5, I e.2.1), (17, B e.2.2)], [(1000, ⟨25, true, [ar .u64 e.1]⟩), (1001, ⟨25, true, [ar .u64 m2]⟩), (2001, ⟨24, true, [ar .u64 m3]⟩), (3001, ⟨25, true, [ar .u64 m4]⟩)]⟩)) := by
  refine loop_runG (S := (List Int) × Int) (eS := fun s => ⟨[(1, .ptr 1000 0 0 1), (2, .ptr 1001 0 0 1), (3, .ptr 2001 0 0 1), (4, .ptr 3001 0 0 1), (5, I s.2)], [(1000, ⟨25, true, [ar .u64 s.1]⟩), (1001, ⟨25, true, [ar .u64 m2]⟩), (2001, ⟨24, true, [ar .u64 m3]⟩), (3001, ⟨25, true, [ar .u64 m4]⟩)]⟩) (eE := fun e => (.exit 0, ⟨[(1, .ptr 1000 0 0 1), (2, .ptr 1001 0 0 1), (3, .ptr 2001 0 0 1), (4, .ptr 3001 0 0 1), (5, I e.2.1), (17, B e.2.2)], [(1000, ⟨25, true, [ar .u64 e.1]⟩), (1001, ⟨25, true, [ar .u64 m2]⟩), (2001, ⟨24, true, [ar .u64 m3]⟩), (3001, ⟨25, true, [ar .u64 m4]⟩)]⟩)) (fun e => ?_) (fun s o h => ?_) h
  · simp [alt]
  · obtain ⟨m, t⟩ := s
    simp only [s_l03Permute_1_s] at h
    show Rn tab ow _ _ ⟨[(1, .ptr 1000 0 0 1), (2, .ptr 1001 0 0 1), (3, .ptr 2001 0 0 1), (4, .ptr 3001 0 0 1), (5, I t)], [(1000, ⟨25, true, [ar .u64 m]⟩), (1001, ⟨25, true, [ar .u64 m2]⟩), (2001, ⟨24, true, [ar .u64 m3]⟩), (3001, ⟨25, true, [ar .u64 m4]⟩)]⟩ = _
    simp +decide only [b_s_l03Permute_4, go_sem, reduceIte, Nat.reduceAdd]
    rcases brc h with ⟨hb, h⟩ | ⟨hb, h⟩
    · refine br_t hb ?_
      obtain ⟨e_, h1, h⟩ := bd h
      refine goR_of (s_l03Permute_2_l h1) ?_
      simp +decide only [go_sem, reduceIte, Nat.reduceAdd]
      obtain ⟨e_2, h1, h⟩ := bd h
      refine goR_of (s_l03Permute_3_l h1) ?_
      simp +decide only [go_sem, reduceIte, Nat.reduceAdd]
      obtain ⟨e_4, h1, h⟩ := bd h
      refine goR_of (s_l03Permute_4_l h1) ?_
      simp +decide only [go_sem, reduceIte, Nat.reduceAdd]
      obtain ⟨e_6, h1, h⟩ := bd h
      refine goR_of (s_l03Permute_6_l h1) ?_
      simp +decide only [go_sem, reduceIte, Nat.reduceAdd]
      obtain ⟨x14, h1, h⟩ := bd h
      refine bind_some h1 ?_
      obtain ⟨hb, h⟩ := brg h
      refine br_t hb ?_
      obtain ⟨x15, h1, h⟩ := bd h
      refine bind_some h1 ?_
      obtain ⟨hb, h⟩ := brg h
      refine br_t hb ?_
      obtain rfl := Option.some.inj h
      first | rfl | (simp only [List.length_set, go_sem]; done)
    · refine br_f hb ?_
      obtain rfl := Option.some.inj h
      first | rfl | (simp only [List.length_set, go_sem]; done)
noncomputable def s_l03Permute (ListtoArray : (List Int)) : Option ((List Int)) :=
  br (decide (ListtoArray.length = 25)) (
    (s_l03Rounds).bind fun r_ =>
    br (decide (r_.length = 24)) (
      (s_l03Shifts).bind fun r_2 =>
      br (decide (r_2.length = 25)) (
        (Loop (s_l03Permute_1_s (nZ 25) r_ r_2) (ListtoArray, (0 : Int))).bind fun e_7 =>
        br (decide (e_7.1.length = 25)) (
          br (decide (e_7.1.length = 25)) (
            br (decide (e_7.1.length = 25)) (
              some e_7.1) (
              none)) (
            none)) (
          none)) (
        none)) (
      none)) (
    none)
theorem s_l03Permute_c {ListtoArray : (List Int)} {r : (List Int)} (h : s_l03Permute ListtoArray = some r) : Call tab ow 275 [.agg (ar .u64 ListtoArray)] [] = some (.agg (ar .u64 r), []) := by
  rw [run_s_l03Permute]
  unfold s_l03Permute at h
  simp +decide only [b_s_l03Permute, go_sem, reduceIte, Nat.reduceAdd]
  obtain ⟨hb, h⟩ := brg h
  refine br_t hb ?_
  obtain ⟨r_, h1, h⟩ := bd h
  refine call_aft (s_l03Rounds_c h1) ?_
  simp +decide only [go_sem, reduceIte, Nat.reduceAdd]
  obtain ⟨hb, h⟩ := brg h
  refine br_t hb ?_
  obtain ⟨r_2, h1, h⟩ := bd h
  refine call_aft (s_l03Shifts_c h1) ?_
  simp +decide only [go_sem, reduceIte, Nat.reduceAdd]
  obtain ⟨hb, h⟩ := brg h
  refine br_t hb ?_
  obtain ⟨e_7, h1, h⟩ := bd h
  refine goR_of (s_l03Permute_1_l h1) ?_
  simp +decide only [go_sem, reduceIte, Nat.reduceAdd]
  obtain ⟨hb, h⟩ := brg h
  refine br_t hb ?_
  obtain ⟨hb, h⟩ := brg h
  refine br_t hb ?_
  obtain ⟨hb, h⟩ := brg h
  refine br_t hb ?_
  obtain rfl := Option.some.inj h
  first | rfl | (simp only [List.length_set, go_sem]; done)
section
theorem s_l03Text_k0 : mkR 2000 [] = rws eU8 [] := rfl
attribute [local go_sem] s_l03Text_k0
theorem s_l03Text_k1 : mkR 6011 [] = rws eU8 [] := rfl
attribute [local go_sem] s_l03Text_k1
noncomputable def s_l03Text_1_s (m : List Int) (n2 : Int) : (List UInt8) × Int → Option (((List UInt8) × Int) ⊕ (((List UInt8) × Int × Bool)))
  | (l, i) =>
    br (decide (i < n2)) (
      br (decide (0 ≤ (IntKind.wrap .i64 (i.tdiv (8 : Int)))) && decide ((IntKind.wrap .i64 (i.tdiv (8 : Int))).toNat < 25)) (
        (m[(IntKind.wrap .i64 (i.tdiv (8 : Int))).toNat]?).bind fun x =>
        br (decide (0 ≤ (IntKind.wrap .u64 (IntKind.wrap .i64 ((8 : Int) * (i.tmod (8 : Int))))))) (
          br (fits ((l ++ ([(UInt8.ofInt (shr64 .u64 x (IntKind.wrap .u64 (IntKind.wrap .i64 ((8 : Int) * (i.tmod (8 : Int)))))))] : List UInt8)).length) 1) (
            some (.inl ((l ++ ([(UInt8.ofInt (shr64 .u64 x (IntKind.wrap .u64 (IntKind.wrap .i64 ((8 : Int) * (i.tmod (8 : Int)))))))] : List UInt8)), (IntKind.wrap .i64 (i + (1 : Int)))))) (
            none)) (
          none)) (
        none)) (
      some (.inr (l, i, decide (i < n2))))
theorem s_l03Text_1_l {m : List Int} {n2 : Int} {l : List UInt8} {i : Int} {e : ((List UInt8) × Int × Bool)} (h : Loop (s_l03Text_1_s m n2) (l, i) = some e) : LoopX tab ow (.close [6011, 6012]) b_s_l03Text_3 ⟨[(1, I n2), (2, .ptr 1000 0 0 1), (5, .sl 2000 0 l.length), (6, I i)], [(1000, ⟨25, true, [ar .u64 m]⟩), (2000, ⟨1, false, rws eU8 l⟩)]⟩ = some ((.exit 0, ⟨[(1, I n2), (2, .ptr 1000 0 0 1), (5, .sl 2000 0 e.1.length), (6, I e.2.1), (10, B e.2.2)], [(1000, ⟨25, true, [ar .u64 m]⟩), (2000, ⟨1, false, rws eU8 e.1⟩)]⟩)) := by
  refine loop_runG (S := (List UInt8) × Int) (eS := fun s => ⟨[(1, I n2), (2, .ptr 1000 0 0 1), (5, .sl 2000 0 s.1.length), (6, I s.2)], [(1000, ⟨25, true, [ar .u64 m]⟩), (2000, ⟨1, false, rws eU8 s.1⟩)]⟩) (eE := fun e => (.exit 0, ⟨[(1, I n2), (2, .ptr 1000 0 0 1), (5, .sl 2000 0 e.1.length), (6, I e.2.1), (10, B e.2.2)], [(1000, ⟨25, true, [ar .u64 m]⟩), (2000, ⟨1, false, rws eU8 e.1⟩)]⟩)) (fun e => ?_) (fun s o h => ?_) h
  · simp [alt]
  · obtain ⟨l, i⟩ := s
    simp only [s_l03Text_1_s] at h
    show Rn tab ow _ _ ⟨[(1, I n2), (2, .ptr 1000 0 0 1), (5, .sl 2000 0 l.length), (6, I i)], [(1000, ⟨25, true, [ar .u64 m]⟩), (2000, ⟨1, false, rws eU8 l⟩)]⟩ = _
    simp +decide only [b_s_l03Text_3, go_sem, reduceIte, Nat.reduceAdd]
    rcases brc h with ⟨hb, h⟩ | ⟨hb, h⟩
    · refine br_t hb ?_
      obtain ⟨hb, h⟩ := brg h
      refine br_t hb ?_
      obtain ⟨x, h1, h⟩ := bd h
      refine bind_some h1 ?_
      obtain ⟨hb, h⟩ := brg h
      refine br_t hb ?_
      obtain ⟨hb, h⟩ := brg h
      refine br_t hb ?_
      obtain rfl := Option.some.inj h
      first | rfl | (simp only [List.length_set, go_sem]; done)
    · refine br_f hb ?_
      obtain rfl := Option.some.inj h
      first | rfl | (simp only [List.length_set, go_sem]; done)
noncomputable def s_l03Text (a : (List Int)) (n : Int) : Option ((List UInt8)) :=
  br (decide (a.length = 25)) (
    (Loop (s_l03Text_1_s a n) (([] : List UInt8), (0 : Int))).bind fun e_ =>
    some e_.1) (
    none)
theorem s_l03Text_c {a : (List Int)} {n : Int} {r : (List UInt8)} (h : s_l03Text a n = some r) : Call tab ow 276 [.agg (ar .u64 a), I n] [] = some (S r, []) := by
  rw [run_s_l03Text]
  unfold s_l03Text at h
  simp +decide only [b_s_l03Text, go_sem, reduceIte, Nat.reduceAdd]
  obtain ⟨hb, h⟩ := brg h
  refine br_t hb ?_
  obtain ⟨e_, h1, h⟩ := bd h
  refine goR_of (s_l03Text_1_l h1) ?_
  simp +decide only [go_sem, reduceIte, Nat.reduceAdd]
  obtain rfl := Option.some.inj h
  first | rfl | (simp only [List.length_set, go_sem]; done)
end
section
theorem s_l03Hash_k0 : mkR 2002 [] = rws eU8 [] := rfl
attribute [local go_sem] s_l03Hash_k0
theorem s_l03Hash_k1 : mkR 4001 [] = rws eU8 [] := rfl
attribute [local go_sem] s_l03Hash_k1
noncomputable def s_l03Hash_1_s (l2 : List UInt8) : (List UInt8) → Option (((List UInt8)) ⊕ (((List UInt8) × Bool)))
  | l =>
    br ((((l.length : Nat) : Int).tmod (136 : Int)) != (0 : Int)) (
      br (fits ((l ++ ([(0 : UInt8)] : List UInt8)).length) 1) (
        some (.inl (l ++ ([(0 : UInt8)] : List UInt8)))) (
        none)) (
      some (.inr (l, ((((l.length : Nat) : Int).tmod (136 : Int)) != (0 : Int)))))
theorem s_l03Hash_1_l {l2 : List UInt8} {l : List UInt8} {e : ((List UInt8) × Bool)} (h : Loop (s_l03Hash_1_s l2) l = some e) : LoopX tab ow (.close [4001, 4002]) b_s_l03Hash_2 ⟨[(3, .sl 2001 0 l.length)], [(2001, ⟨1, false, rws eU8 l⟩), (2002, ⟨1, false, rws eU8 l2⟩)]⟩ = some ((.exit 0, ⟨[(3, .sl 2001 0 e.1.length), (15, B e.2)], [(2001, ⟨1, false, rws eU8 e.1⟩), (2002, ⟨1, false, rws eU8 l2⟩)]⟩)) := by
  refine loop_runG (S := (List UInt8)) (eS := fun s => ⟨[(3, .sl 2001 0 s.length)], [(2001, ⟨1, false, rws eU8 s⟩), (2002, ⟨1, false, rws eU8 l2⟩)]⟩) (eE := fun e => (.exit 0, ⟨[(3, .sl 2001 0 e.1.length), (15, B e.2)], [(2001, ⟨1, false, rws eU8 e.1⟩), (2002, ⟨1, false, rws eU8 l2⟩)]⟩)) (fun e => ?_) (fun l o h => ?_) h
  · simp [alt]
  · skip
    simp only [s_l03Hash_1_s] at h
    show Rn tab ow _ _ ⟨[(3, .sl 2001 0 l.length)], [(2001, ⟨1, false, rws eU8 l⟩), (2002, ⟨1, false, rws eU8 l2⟩)]⟩ = _
    simp +decide only [b_s_l03Hash_2, go_sem, reduceIte, Nat.reduceAdd]
    rcases brc h with ⟨hb, h⟩ | ⟨hb, h⟩
    · refine br_t hb ?_
      obtain ⟨hb, h⟩ := brg h
      refine br_t hb ?_
      obtain rfl := Option.some.inj h
      first | rfl | (simp only [List.length_set, go_sem]; done)
    · refine br_f hb ?_
      obtain rfl := Option.some.inj h
      first | rfl | (simp only [List.length_set, go_sem]; done)
noncomputable def s_l03Hash_3_s (l4 : List UInt8) (m4 : List Int) (m5 : List UInt8) (at_2 : Int) : (List Int) × Int → Option (((List Int) × Int) ⊕ (((List Int) × Int × Bool)))
  | (m3, i) =>
    br (decide (i < (25 : Int))) (
      br (decide (0 ≤ i) && decide (i.toNat < 25)) (
        (m3[i.toNat]?).bind fun x3 =>
        br (decide (0 ≤ i) && decide (i.toNat < 25)) (
          (m4[i.toNat]?).bind fun x4 =>
          br (decide (0 ≤ i) && decide (i.toNat < 25)) (
            br (decide (i.toNat < m3.length)) (
              some (.inl ((m3.set i.toNat (xor64 .u64 x3 x4)), (IntKind.wrap .i64 (i + (1 : Int)))))) (
              none)) (
            none)) (
          none)) (
        none)) (
      some (.inr (m3, i, decide (i < (25 : Int)))))
theorem s_l03Hash_3_l {l4 : List UInt8} {m4 : List Int} {m5 : List UInt8} {at_2 : Int} {m3 : List Int} {i : Int} {e : ((List Int) × Int × Bool)} (h : Loop (s_l03Hash_3_s l4 m4 m5 at_2) (m3, i) = some e) : LoopX tab ow (.close []) b_s_l03Hash_11 ⟨[(3, sl eU8 m5), (4, .ptr 6001 0 0 1), (5, I at_2), (6, .ptr 10007 0 0 1), (7, I i)], [(2002, ⟨1, false, rws eU8 l4⟩), (6001, ⟨25, true, [ar .u64 m3]⟩), (10007, ⟨25, true, [ar .u64 m4]⟩)]⟩ = some ((.exit 4, ⟨[(3, sl eU8 m5), (4, .ptr 6001 0 0 1), (5, I at_2), (6, .ptr 10007 0 0 1), (7, I e.2.1), (42, B e.2.2)], [(2002, ⟨1, false, rws eU8 l4⟩), (6001, ⟨25, true, [ar .u64 e.1]⟩), (10007, ⟨25, true, [ar .u64 m4]⟩)]⟩)) := by
  refine loop_runG (S := (List Int) × Int) (eS := fun s => ⟨[(3, sl eU8 m5), (4, .ptr 6001 0 0 1), (5, I at_2), (6, .ptr 10007 0 0 1), (7, I s.2)], [(2002, ⟨1, false, rws eU8 l4⟩), (6001, ⟨25, true, [ar .u64 s.1]⟩), (10007, ⟨25, true, [ar .u64 m4]⟩)]⟩) (eE := fun e => (.exit 4, ⟨[(3, sl eU8 m5), (4, .ptr 6001 0 0 1), (5, I at_2), (6, .ptr 10007 0 0 1), (7, I e.2.1), (42, B e.2.2)], [(2002, ⟨1, false, rws eU8 l4⟩), (6001, ⟨25, true, [ar .u64 e.1]⟩), (10007, ⟨25, true, [ar .u64 m4]⟩)]⟩)) (fun e => ?_) (fun s o h => ?_) h
  · simp [alt]
  · obtain ⟨m3, i⟩ := s
    simp only [s_l03Hash_3_s] at h
    show Rn tab ow _ _ ⟨[(3, sl eU8 m5), (4, .ptr 6001 0 0 1), (5, I at_2), (6, .ptr 10007 0 0 1), (7, I i)], [(2002, ⟨1, false, rws eU8 l4⟩), (6001, ⟨25, true, [ar .u64 m3]⟩), (10007, ⟨25, true, [ar .u64 m4]⟩)]⟩ = _
    simp +decide only [b_s_l03Hash_11, go_sem, reduceIte, Nat.reduceAdd]
    rcases brc h with ⟨hb, h⟩ | ⟨hb, h⟩
    · refine br_t hb ?_
      obtain ⟨hb, h⟩ := brg h
      refine br_t hb ?_
      obtain ⟨x3, h1, h⟩ := bd h
      refine bind_some h1 ?_
      obtain ⟨hb, h⟩ := brg h
      refine br_t hb ?_
      obtain ⟨x4, h1, h⟩ := bd h
      refine bind_some h1 ?_
      obtain ⟨hb, h⟩ := brg h
      refine br_t hb ?_
      obtain ⟨hb, h⟩ := brg h
      refine br_t hb ?_
      obtain rfl := Option.some.inj h
      first | rfl | (simp only [List.length_set, go_sem]; done)
    · refine br_f hb ?_
      obtain rfl := Option.some.inj h
      first | rfl | (simp only [List.length_set, go_sem]; done)
noncomputable def s_l03Hash_2_s (l3 : List UInt8) (m2 : List UInt8) : (List Int) × Int → Option (((List Int) × Int) ⊕ (((List Int) × Int × Bool)))
  | (m, at_) =>
    br (decide (at_ < ((m2.length : Nat) : Int))) (
      (subL m2 at_ (IntKind.wrap .i64 (at_ + (136 : Int)))).bind fun y =>
      (s_l03Lanes y).bind fun r_ =>
      br (decide (r_.length = 25)) (
        (Loop (s_l03Hash_3_s l3 r_ m2 at_) (m, (0 : Int))).bind fun e_2 =>
        br (decide (e_2.1.length = 25)) (
          (s_l03Permute e_2.1).bind fun r_2 =>
          br (decide (r_2.length = 25) && decide (e_2.1.length = 25)) (
            some (.inl (r_2, (IntKind.wrap .i64 (at_ + (136 : Int)))))) (
            none)) (
          none)) (
        none)) (
      some (.inr (m, at_, decide (at_ < ((m2.length : Nat) : Int)))))
theorem s_l03Hash_2_l {l3 : List UInt8} {m2 : List UInt8} {m : List Int} {at_ : Int} {e : ((List Int) × Int × Bool)} (h : Loop (s_l03Hash_2_s l3 m2) (m, at_) = some e) : LoopX tab ow (.close [10006, 10007, 15001, 2001]) b_s_l03Hash_7 ⟨[(3, sl eU8 m2), (4, .ptr 6001 0 0 1), (5, I at_)], [(2002, ⟨1, false, rws eU8 l3⟩), (6001, ⟨25, true, [ar .u64 m]⟩)]⟩ = some ((.exit 2, ⟨[(3, sl eU8 m2), (4, .ptr 6001 0 0 1), (5, I e.2.1), (31, B e.2.2)], [(2002, ⟨1, false, rws eU8 l3⟩), (6001, ⟨25, true, [ar .u64 e.1]⟩)]⟩)) := by
  refine loop_runG (S := (List Int) × Int) (eS := fun s => ⟨[(3, sl eU8 m2), (4, .ptr 6001 0 0 1), (5, I s.2)], [(2002, ⟨1, false, rws eU8 l3⟩), (6001, ⟨25, true, [ar .u64 s.1]⟩)]⟩) (eE := fun e => (.exit 2, ⟨[(3, sl eU8 m2), (4, .ptr 6001 0 0 1), (5, I e.2.1), (31, B e.2.2)], [(2002, ⟨1, false, rws eU8 l3⟩), (6001, ⟨25, true, [ar .u64 e.1]⟩)]⟩)) (fun e => ?_) (fun s o h => ?_) h
  · simp [alt]
  · obtain ⟨m, at_⟩ := s
    simp only [s_l03Hash_2_s] at h
    show Rn tab ow _ _ ⟨[(3, sl eU8 m2), (4, .ptr 6001 0 0 1), (5, I at_)], [(2002, ⟨1, false, rws eU8 l3⟩), (6001, ⟨25, true, [ar .u64 m]⟩)]⟩ = _
    simp +decide only [b_s_l03Hash_7, go_sem, reduceIte, Nat.reduceAdd]
    rcases brc h with ⟨hb, h⟩ | ⟨hb, h⟩
    · refine br_t hb ?_
      obtain ⟨y, h1, h⟩ := bd h
      refine bind_some h1 ?_
      obtain ⟨r_, h1, h⟩ := bd h
      refine call_aft (s_l03Lanes_c h1) ?_
      simp +decide only [go_sem, reduceIte, Nat.reduceAdd]
      obtain ⟨hb, h⟩ := brg h
      refine br_t hb ?_
      obtain ⟨e_2, h1, h⟩ := bd h
      refine goR_of (s_l03Hash_3_l h1) ?_
      simp +decide only [go_sem, reduceIte, Nat.reduceAdd]
      obtain ⟨hb, h⟩ := brg h
      refine br_t hb ?_
      obtain ⟨r_2, h1, h⟩ := bd h
      refine call_aft (s_l03Permute_c h1) ?_
      simp +decide only [go_sem, reduceIte, Nat.reduceAdd]
      obtain ⟨hb, h⟩ := brg h
      refine br_t hb ?_
      obtain rfl := Option.some.inj h
      first | rfl | (simp only [List.length_set, go_sem]; done)
    · refine br_f hb ?_
      obtain rfl := Option.some.inj h
      first | rfl | (simp only [List.length_set, go_sem]; done)
noncomputable def s_l03Hash (b : (List UInt8)) : Option ((List UInt8)) :=
  br (fits b.length 1) (
    br (fits ((b ++ ([(1 : UInt8)] : List UInt8)).length) 1) (
      (Loop (s_l03Hash_1_s ([(1 : UInt8)] : List UInt8)) (b ++ ([(1 : UInt8)] : List UInt8))).bind fun e_ =>
      br (decide (0 ≤ (IntKind.wrap .i64 (((e_.1.length : Nat) : Int) - (1 : Int))))) (
        br (decide ((IntKind.wrap .i64 (((e_.1.length : Nat) : Int) - (1 : Int))).toNat < e_.1.length)) (
          (e_.1[(IntKind.wrap .i64 (((e_.1.length : Nat) : Int) - (1 : Int))).toNat]?).bind fun x =>
          br (decide (0 ≤ (IntKind.wrap .i64 (((e_.1.length : Nat) : Int) - (1 : Int))))) (
            br (decide ((IntKind.wrap .i64 (((e_.1.length : Nat) : Int) - (1 : Int))).toNat < e_.1.length)) (
              (e_.1[(IntKind.wrap .i64 (((e_.1.length : Nat) : Int) - (1 : Int))).toNat]?).bind fun x2 =>
              (Loop (s_l03Hash_2_s ([(1 : UInt8)] : List UInt8) (e_.1.set ((IntKind.wrap .i64 (((e_.1.length : Nat) : Int) - (1 : Int))).toNat) (UInt8.ofInt (or64 .u8 (x.toNat : Int) (128 : Int))))) ((nZ 25), (0 : Int))).bind fun e_3 =>
              br (decide (e_3.1.length = 25)) (
                (s_l03Text e_3.1 (32 : Int)).bind fun r_3 =>
                some r_3) (
                none)) (
              none)) (
            none)) (
          none)) (
        none)) (
      none)) (
    none)
theorem s_l03Hash_c {b : (List UInt8)} {r : (List UInt8)} (h : s_l03Hash b = some r) : Call tab ow 247 [S b] [] = some (S r, []) := by
  rw [run_s_l03Hash]
  unfold s_l03Hash at h
  simp +decide only [b_s_l03Hash, go_sem, reduceIte, Nat.reduceAdd]
  obtain ⟨hb, h⟩ := brg h
  refine br_t hb ?_
  obtain ⟨hb, h⟩ := brg h
  refine br_t hb ?_
  obtain ⟨e_, h1, h⟩ := bd h
  refine goR_of (s_l03Hash_1_l h1) ?_
  simp +decide only [go_sem, reduceIte, Nat.reduceAdd]
  obtain ⟨hb, h⟩ := brg h
  refine br_t hb ?_
  obtain ⟨hb, h⟩ := brg h
  refine br_t hb ?_
  obtain ⟨x, h1, h⟩ := bd h
  refine bind_some h1 ?_
  obtain ⟨hb, h⟩ := brg h
  refine br_t hb ?_
  obtain ⟨hb, h⟩ := brg h
  refine br_t hb ?_
  obtain ⟨x2, h1, h⟩ := bd h
  refine bind_some h1 ?_
  obtain ⟨e_3, h1, h⟩ := bd h
  have h2 := s_l03Hash_2_l h1
  try simp only [List.length_set] at h2
  refine goR_of h2 ?_
  simp +decide only [go_sem, reduceIte, Nat.reduceAdd]
  obtain ⟨hb, h⟩ := brg h
  refine br_t hb ?_
  obtain ⟨r_3, h1, h⟩ := bd h
  refine call_aft (s_l03Text_c h1) ?_
  simp +decide only [go_sem, reduceIte, Nat.reduceAdd]
  obtain rfl := Option.some.inj h
  first | rfl | (simp only [List.length_set, go_sem]; done)
end
noncomputable def i_isHash (h_ : (List UInt8)) : Option (Bool) :=
  some (((h_.length : Nat) : Int) == (32 : Int))
theorem i_isHash_c {h_ : (List UInt8)} {r : Bool} (h : i_isHash h_ = some r) : Call tab ow 181 [S h_] [] = some (B r, []) := by
  rw [run_i_isHash]
  unfold i_isHash at h
  simp +decide only [b_i_isHash, go_sem, reduceIte, Nat.reduceAdd]
  obtain rfl := Option.some.inj h
  first | rfl | (simp only [List.length_set, go_sem]; done)
noncomputable def i_lanesOf_1_s (m : List Int) (t : List UInt8) (t2 : Int) : (List Int) × Int → Option (((List Int) × Int) ⊕ (((List Int) × Int × Bool)))
  | (m2, t3) =>
    br (decide (t3 < t2)) (
      (atL t t3).bind fun x =>
      br (decide (0 ≤ (IntKind.wrap .i64 (t3.tdiv (8 : Int)))) && decide ((IntKind.wrap .i64 (t3.tdiv (8 : Int))).toNat < 25)) (
        (m2[(IntKind.wrap .i64 (t3.tdiv (8 : Int))).toNat]?).bind fun x2 =>
        br (decide (0 ≤ (IntKind.wrap .i64 ((8 : Int) * (t3.tmod (8 : Int)))))) (
          br (decide (0 ≤ (IntKind.wrap .i64 (t3.tdiv (8 : Int)))) && decide ((IntKind.wrap .i64 (t3.tdiv (8 : Int))).toNat < 25)) (
            br (decide ((IntKind.wrap .i64 (t3.tdiv (8 : Int))).toNat < m2.length)) (
              some (.inl ((m2.set ((IntKind.wrap .i64 (t3.tdiv (8 : Int))).toNat) (or64 .u64 x2 (shl64 .u64 (IntKind.wrap .u64 (x.toNat : Int)) (IntKind.wrap .i64 ((8 : Int) * (t3.tmod (8 : Int))))))), (IntKind.wrap .i64 (t3 + (1 : Int)))))) (
              none)) (
            none)) (
          none)) (
        none)) (
      some (.inr (m2, t3, decide (t3 < t2))))
theorem i_lanesOf_1_l {m : List Int} {t : List UInt8} {t2 : Int} {m2 : List Int} {t3 : Int} {e : ((List Int) × Int × Bool)} (h : Loop (i_lanesOf_1_s m t t2) (m2, t3) = some e) : LoopX tab ow (.close []) b_i_lanesOf_3 ⟨[(2, .ptr 1000 0 0 1), (3, .ptr 2001 0 0 1), (7, sl eU8 t), (8, I t2), (9, I t3)], [(1000, ⟨25, true, [ar .u64 m]⟩), (2001, ⟨25, true, [ar .u64 m2]⟩)]⟩ = some ((.exit 0, ⟨[(2, .ptr 1000 0 0 1), (3, .ptr 2001 0 0 1), (7, sl eU8 t), (8, I t2), (9, I e.2.1), (10, B e.2.2)], [(1000, ⟨25, true, [ar .u64 m]⟩), (2001, ⟨25, true, [ar .u64 e.1]⟩)]⟩)) := by
  refine loop_runG (S := (List Int) × Int) (eS := fun s => ⟨[(2, .ptr 1000 0 0 1), (3, .ptr 2001 0 0 1), (7, sl eU8 t), (8, I t2), (9, I s.2)], [(1000, ⟨25, true, [ar .u64 m]⟩), (2001, ⟨25, true, [ar .u64 s.1]⟩)]⟩) (eE := fun e => (.exit 0, ⟨[(2, .ptr 1000 0 0 1), (3, .ptr 2001 0 0 1), (7, sl eU8 t), (8, I t2), (9, I e.2.1), (10, B e.2.2)], [(1000, ⟨25, true, [ar .u64 m]⟩), (2001, ⟨25, true, [ar .u64 e.1]⟩)]⟩)) (fun e => ?_) (fun s o h => ?_) h
  · simp [alt]
  · obtain ⟨m2, t3⟩ := s
    simp only [i_lanesOf_1_s] at h
    show Rn tab ow _ _ ⟨[(2, .ptr 1000 0 0 1), (3, .ptr 2001 0 0 1), (7, sl eU8 t), (8, I t2), (9, I t3)], [(1000, ⟨25, true, [ar .u64 m]⟩), (2001, ⟨25, true, [ar .u64 m2]⟩)]⟩ = _
    simp +decide only [b_i_lanesOf_3, go_sem, reduceIte, Nat.reduceAdd]
    rcases brc h with ⟨hb, h⟩ | ⟨hb, h⟩
    · refine br_t hb ?_
      obtain ⟨x, h1, h⟩ := bd h
      refine bind_some h1 ?_
      obtain ⟨hb, h⟩ := brg h
      refine br_t hb ?_
      obtain ⟨x2, h1, h⟩ := bd h
      refine bind_some h1 ?_
      obtain ⟨hb, h⟩ := brg h
      refine br_t hb ?_
      obtain ⟨hb, h⟩ := brg h
      refine br_t hb ?_
      obtain ⟨hb, h⟩ := brg h
      refine br_t hb ?_
      obtain rfl := Option.some.inj h
      first | rfl | (simp only [List.length_set, go_sem]; done)
    · refine br_f hb ?_
      obtain rfl := Option.some.inj h
      first | rfl | (simp only [List.length_set, go_sem]; done)
noncomputable def i_lanesOf (state : (List UInt8)) : Option ((List Int)) :=
  (Loop (i_lanesOf_1_s (nZ 25) state ((state.length : Nat) : Int)) ((nZ 25), (0 : Int))).bind fun e_ =>
  br (decide (e_.1.length = 25)) (
    br (decide (e_.1.length = 25)) (
      br (decide (e_.1.length = 25)) (
        some e_.1) (
        none)) (
      none)) (
    none)
theorem i_lanesOf_c {state : (List UInt8)} {r : (List Int)} (h : i_lanesOf state = some r) : Call tab ow 248 [sl eU8 state] [] = some (.agg (ar .u64 r), []) := by
  rw [run_i_lanesOf]
  unfold i_lanesOf at h
  simp +decide only [b_i_lanesOf, go_sem, reduceIte, Nat.reduceAdd]
  obtain ⟨e_, h1, h⟩ := bd h
  refine goR_of (i_lanesOf_1_l h1) ?_
  simp +decide only [go_sem, reduceIte, Nat.reduceAdd]
  obtain ⟨hb, h⟩ := brg h
  refine br_t hb ?_
  obtain ⟨hb, h⟩ := brg h
  refine br_t hb ?_
  obtain ⟨hb, h⟩ := brg h
  refine br_t hb ?_
  obtain rfl := Option.some.inj h
  first | rfl | (simp only [List.length_set, go_sem]; done)
noncomputable def math_bits_RotateLeft64 (x : Int) (k : Int) : Option (Int) :=
  br (decide (0 ≤ (and64 .u64 (IntKind.wrap .u64 k) (63 : Int)))) (
    br (decide (0 ≤ (IntKind.wrap .u64 ((64 : Int) - (and64 .u64 (IntKind.wrap .u64 k) (63 : Int)))))) (
      some (or64 .u64 (shl64 .u64 x (and64 .u64 (IntKind.wrap .u64 k) (63 : Int))) (shr64 .u64 x (IntKind.wrap .u64 ((64 : Int) - (and64 .u64 (IntKind.wrap .u64 k) (63 : Int))))))) (
      none)) (
    none)
theorem math_bits_RotateLeft64_c {x : Int} {k : Int} {r : Int} (h : math_bits_RotateLeft64 x k = some r) : Call tab ow 277 [.lit (.int .u64 x), I k] [] = some (.lit (.int .u64 r), []) := by
  rw [run_math_bits_RotateLeft64]
  unfold math_bits_RotateLeft64 at h
  simp +decide only [b_math_bits_RotateLeft64, go_sem, reduceIte, Nat.reduceAdd]
  obtain ⟨hb, h⟩ := brg h
  refine br_t hb ?_
  obtain ⟨hb, h⟩ := brg h
  refine br_t hb ?_
  obtain rfl := Option.some.inj h
  first | rfl | (simp only [List.length_set, go_sem]; done)
end Go.AI.Fn

set_option linter.unusedVariables false
set_option linter.unusedSimpArgs false
set_option maxRecDepth 100000
set_option maxHeartbeats 1000000
namespace Go.AI.Fn
noncomputable def i_lanes_permute_2_s (m5 : List Int) (m6 : List Int) (m7 : List Int) (m9 : List Int) (t3 : Int) (t4 : List Int) (t5 : Int) : (List Int) × Int → Option (((List Int) × Int) ⊕ (((List Int) × Int × Bool)))
  | (m8, t6) =>
    br (decide (t6 < (25 : Int))) (
      br (decide (0 ≤ t6) && decide (t6.toNat < 25)) (
        (m5[t6.toNat]?).bind fun x2 =>
        br (decide (0 ≤ (t6.tmod (5 : Int))) && decide ((t6.tmod (5 : Int)).toNat < 5)) (
          (m8[(t6.tmod (5 : Int)).toNat]?).bind fun x3 =>
          br (decide (0 ≤ (t6.tmod (5 : Int))) && decide ((t6.tmod (5 : Int)).toNat < 5)) (
            br (decide ((t6.tmod (5 : Int)).toNat < m8.length)) (
              some (.inl ((m8.set ((t6.tmod (5 : Int)).toNat) (xor64 .u64 x3 x2)), (IntKind.wrap .i64 (t6 + (1 : Int)))))) (
              none)) (
            none)) (
          none)) (
        none)) (
      some (.inr (m8, t6, decide (t6 < (25 : Int)))))
theorem i_lanes_permute_2_l {m5 : List Int} {m6 : List Int} {m7 : List Int} {m9 : List Int} {t3 : Int} {t4 : List Int} {t5 : Int} {m8 : List Int} {t6 : Int} {e : ((List Int) × Int × Bool)} (h : Loop (i_lanes_permute_2_s m5 m6 m7 m9 t3 t4 t5) (m8, t6) = some e) : LoopX tab ow (.close []) b_i_lanes_permute_7 ⟨[(0, .ptr 0 0 0 1), (2, .ptr 1001 0 0 1), (5, .lit (.int .u64 t3)), (6, .ptr 6002 0 0 1), (7, .ptr 6003 0 0 1), (20, .agg (ar .u64 t4)), (21, I t5), (26, .ptr 0 0 0 1), (27, I t6)], [(0, ⟨25, true, [ar .u64 m5]⟩), (1001, ⟨25, true, [ar .i64 m6]⟩), (2001, ⟨24, true, [ar .u64 m7]⟩), (6002, ⟨5, true, [ar .u64 m8]⟩), (6003, ⟨25, true, [ar .u64 m9]⟩)]⟩ = some ((.exit 2, ⟨[(0, .ptr 0 0 0 1), (2, .ptr 1001 0 0 1), (5, .lit (.int .u64 t3)), (6, .ptr 6002 0 0 1), (7, .ptr 6003 0 0 1), (20, .agg (ar .u64 t4)), (21, I t5), (26, .ptr 0 0 0 1), (27, I e.2.1), (28, B e.2.2)], [(0, ⟨25, true, [ar .u64 m5]⟩), (1001, ⟨25, true, [ar .i64 m6]⟩), (2001, ⟨24, true, [ar .u64 m7]⟩), (6002, ⟨5, true, [ar .u64 e.1]⟩), (6003, ⟨25, true, [ar .u64 m9]⟩)]⟩)) := by
  refine loop_runG (S := (List Int) × Int) (eS := fun s => ⟨[(0, .ptr 0 0 0 1), (2, .ptr 1001 0 0 1), (5, .lit (.int .u64 t3)), (6, .ptr 6002 0 0 1), (7, .ptr 6003 0 0 1), (20, .agg (ar .u64 t4)), (21, I t5), (26, .ptr 0 0 0 1), (27, I s.2)], [(0, ⟨25, true, [ar .u64 m5]⟩), (1001, ⟨25, true, [ar .i64 m6]⟩), (2001, ⟨24, true, [ar .u64 m7]⟩), (6002, ⟨5, true, [ar .u64 s.1]⟩), (6003, ⟨25, true, [ar .u64 m9]⟩)]⟩) (eE := fun e => (.exit 2, ⟨[(0, .ptr 0 0 0 1), (2, .ptr 1001 0 0 1), (5, .lit (.int .u64 t3)), (6, .ptr 6002 0 0 1), (7, .ptr 6003 0 0 1), (20, .agg (ar .u64 t4)), (21, I t5), (26, .ptr 0 0 0 1), (27, I e.2.1), (28, B e.2.2)], [(0, ⟨25, true, [ar .u64 m5]⟩), (1001, ⟨25, true, [ar .i64 m6]⟩), (2001, ⟨24, true, [ar .u64 m7]⟩), (6002, ⟨5, true, [ar .u64 e.1]⟩), (6003, ⟨25, true, [ar .u64 m9]⟩)]⟩)) (fun e => ?_) (fun s o h => ?_) h
  · simp [alt]
  · obtain ⟨m8, t6⟩ := s
    simp only [i_lanes_permute_2_s] at h
    show Rn tab ow _ _ ⟨[(0, .ptr 0 0 0 1), (2, .ptr 1001 0 0 1), (5, .lit (.int .u64 t3)), (6, .ptr 6002 0 0 1), (7, .ptr 6003 0 0 1), (20, .agg (ar .u64 t4)), (21, I t5), (26, .ptr 0 0 0 1), (27, I t6)], [(0, ⟨25, true, [ar .u64 m5]⟩), (1001, ⟨25, true, [ar .i64 m6]⟩), (2001, ⟨24, true, [ar .u64 m7]⟩), (6002, ⟨5, true, [ar .u64 m8]⟩), (6003, ⟨25, true, [ar .u64 m9]⟩)]⟩ = _
    simp +decide only [b_i_lanes_permute_7, go_sem, reduceIte, Nat.reduceAdd]
    rcases brc h with ⟨hb, h⟩ | ⟨hb, h⟩
    · refine br_t hb ?_
      obtain ⟨hb, h⟩ := brg h
      refine br_t hb ?_
      obtain ⟨x2, h1, h⟩ := bd h
      refine bind_some h1 ?_
      obtain ⟨hb, h⟩ := brg h
      refine br_t hb ?_
      obtain ⟨x3, h1, h⟩ := bd h
      refine bind_some h1 ?_
      obtain ⟨hb, h⟩ := brg h
      refine br_t hb ?_
      obtain ⟨hb, h⟩ := brg h
      refine br_t hb ?_
      obtain rfl := Option.some.inj h
      first | rfl | (simp only [List.length_set, go_sem]; done)
    · refine br_f hb ?_
      obtain rfl := Option.some.inj h
      first | rfl | (simp only [List.length_set, go_sem]; done)
noncomputable def i_lanes_permute_3_s (m10 : List Int) (m11 : List Int) (m12 : List Int) (m13 : List Int) (t7 : Int) (t8 : List Int) (t9 : Int) : (List Int) × Int → Option (((List Int) × Int) ⊕ (((List Int) × Int × Bool)))
  | (m14, t10) =>
    br (decide (t10 < (25 : Int))) (
      br (decide (0 ≤ t10) && decide (t10.toNat < 25)) (
        (m10[t10.toNat]?).bind fun x4 =>
        br (decide (0 ≤ ((IntKind.wrap .i64 ((t10.tmod (5 : Int)) + (4 : Int))).tmod (5 : Int))) && decide (((IntKind.wrap .i64 ((t10.tmod (5 : Int)) + (4 : Int))).tmod (5 : Int)).toNat < 5)) (
          (m13[((IntKind.wrap .i64 ((t10.tmod (5 : Int)) + (4 : Int))).tmod (5 : Int)).toNat]?).bind fun x5 =>
          br (decide (0 ≤ ((IntKind.wrap .i64 ((t10.tmod (5 : Int)) + (1 : Int))).tmod (5 : Int))) && decide (((IntKind.wrap .i64 ((t10.tmod (5 : Int)) + (1 : Int))).tmod (5 : Int)).toNat < 5)) (
            (m13[((IntKind.wrap .i64 ((t10.tmod (5 : Int)) + (1 : Int))).tmod (5 : Int)).toNat]?).bind fun x6 =>
            (math_bits_RotateLeft64 x6 (1 : Int)).bind fun r_ =>
            br (decide (0 ≤ t10) && decide (t10.toNat < 25)) (
              (m11[t10.toNat]?).bind fun x7 =>
              (math_bits_RotateLeft64 (xor64 .u64 x4 (xor64 .u64 x5 r_)) x7).bind fun r_2 =>
              br (decide (0 ≤ (IntKind.wrap .i64 ((IntKind.wrap .i64 (t10.tdiv (5 : Int))) + (IntKind.wrap .i64 ((5 : Int) * ((IntKind.wrap .i64 ((IntKind.wrap .i64 ((2 : Int) * (t10.tmod (5 : Int)))) + (IntKind.wrap .i64 ((3 : Int) * (IntKind.wrap .i64 (t10.tdiv (5 : Int))))))).tmod (5 : Int))))))) && decide ((IntKind.wrap .i64 ((IntKind.wrap .i64 (t10.tdiv (5 : Int))) + (IntKind.wrap .i64 ((5 : Int) * ((IntKind.wrap .i64 ((IntKind.wrap .i64 ((2 : Int) * (t10.tmod (5 : Int)))) + (IntKind.wrap .i64 ((3 : Int) * (IntKind.wrap .i64 (t10.tdiv (5 : Int))))))).tmod (5 : Int)))))).toNat < 25)) (
                br (decide ((IntKind.wrap .i64 ((IntKind.wrap .i64 (t10.tdiv (5 : Int))) + (IntKind.wrap .i64 ((5 : Int) * ((IntKind.wrap .i64 ((IntKind.wrap .i64 ((2 : Int) * (t10.tmod (5 : Int)))) + (IntKind.wrap .i64 ((3 : Int) * (IntKind.wrap .i64 (t10.tdiv (5 : Int))))))).tmod (5 : Int)))))).toNat < m14.length)) (
                  some (.inl ((m14.set ((IntKind.wrap .i64 ((IntKind.wrap .i64 (t10.tdiv (5 : Int))) + (IntKind.wrap .i64 ((5 : Int) * ((IntKind.wrap .i64 ((IntKind.wrap .i64 ((2 : Int) * (t10.tmod (5 : Int)))) + (IntKind.wrap .i64 ((3 : Int) * (IntKind.wrap .i64 (t10.tdiv (5 : Int))))))).tmod (5 : Int)))))).toNat) r_2), (IntKind.wrap .i64 (t10 + (1 : Int)))))) (
                  none)) (
                none)) (
              none)) (
            none)) (
          none)) (
        none)) (
      some (.inr (m14, t10, decide (t10 < (25 : Int)))))
theorem i_lanes_permute_3_l {m10 : List Int} {m11 : List Int} {m12 : List Int} {m13 : List Int} {t7 : Int} {t8 : List Int} {t9 : Int} {m14 : List Int} {t10 : Int} {e : ((List Int) × Int × Bool)} (h : Loop (i_lanes_permute_3_s m10 m11 m12 m13 t7 t8 t9) (m14, t10) = some e) : LoopX tab ow (.close [16011, 17013]) b_i_lanes_permute_12 ⟨[(0, .ptr 0 0 0 1), (2, .ptr 1001 0 0 1), (5, .lit (.int .u64 t7)), (6, .ptr 6002 0 0 1), (7, .ptr 6003 0 0 1), (20, .agg (ar .u64 t8)), (21, I t9), (41, .ptr 0 0 0 1), (42, I t10)], [(0, ⟨25, true, [ar .u64 m10]⟩), (1001, ⟨25, true, [ar .i64 m11]⟩), (2001, ⟨24, true, [ar .u64 m12]⟩), (6002, ⟨5, true, [ar .u64 m13]⟩), (6003, ⟨25, true, [ar .u64 m14]⟩)]⟩ = some ((.exit 4, ⟨[(0, .ptr 0 0 0 1), (2, .ptr 1001 0 0 1), (5, .lit (.int .u64 t7)), (6, .ptr 6002 0 0 1), (7, .ptr 6003 0 0 1), (20, .agg (ar .u64 t8)), (21, I t9), (41, .ptr 0 0 0 1), (42, I e.2.1), (43, B e.2.2)], [(0, ⟨25, true, [ar .u64 m10]⟩), (1001, ⟨25, true, [ar .i64 m11]⟩), (2001, ⟨24, true, [ar .u64 m12]⟩), (6002, ⟨5, true, [ar .u64 m13]⟩), (6003, ⟨25, true, [ar .u64 e.1]⟩)]⟩)) := by
  refine loop_runG (S := (List Int) × Int) (eS := fun s => ⟨[(0, .ptr 0 0 0 1), (2, .ptr 1001 0 0 1), (5, .lit (.int .u64 t7)), (6, .ptr 6002 0 0 1), (7, .ptr 6003 0 0 1), (20, .agg (ar .u64 t8)), (21, I t9), (41, .ptr 0 0 0 1), (42, I s.2)], [(0, ⟨25, true, [ar .u64 m10]⟩), (1001, ⟨25, true, [ar .i64 m11]⟩), (2001, ⟨24, true, [ar .u64 m12]⟩), (6002, ⟨5, true, [ar .u64 m13]⟩), (6003, ⟨25, true, [ar .u64 s.1]⟩)]⟩) (eE := fun e => (.exit 4, ⟨[(0, .ptr 0 0 0 1), (2, .ptr 1001 0 0 1), (5, .lit (.int .u64 t7)), (6, .ptr 6002 0 0 1), (7, .ptr 6003 0 0 1), (20, .agg (ar .u64 t8)), (21, I t9), (41, .ptr 0 0 0 1), (42, I e.2.1), (43, B e.2.2)], [(0, ⟨25, true, [ar .u64 m10]⟩), (1001, ⟨25, true, [ar .i64 m11]⟩), (2001, ⟨24, true, [ar .u64 m12]⟩), (6002, ⟨5, true, [ar .u64 m13]⟩), (6003, ⟨25, true, [ar .u64 e.1]⟩)]⟩)) (fun e => ?_) (fun s o h => ?_) h
  · simp [alt]
  · obtain ⟨m14, t10⟩ := s
    simp only [i_lanes_permute_3_s] at h
    show Rn tab ow _ _ ⟨[(0, .ptr 0 0 0 1), (2, .ptr 1001 0 0 1), (5, .lit (.int .u64 t7)), (6, .ptr 6002 0 0 1), (7, .ptr 6003 0 0 1), (20, .agg (ar .u64 t8)), (21, I t9), (41, .ptr 0 0 0 1), (42, I t10)], [(0, ⟨25, true, [ar .u64 m10]⟩), (1001, ⟨25, true, [ar .i64 m11]⟩), (2001, ⟨24, true, [ar .u64 m12]⟩), (6002, ⟨5, true, [ar .u64 m13]⟩), (6003, ⟨25, true, [ar .u64 m14]⟩)]⟩ = _
    simp +decide only [b_i_lanes_permute_12, go_sem, reduceIte, Nat.reduceAdd]
    rcases brc h with ⟨hb, h⟩ | ⟨hb, h⟩
    · refine br_t hb ?_
      obtain ⟨hb, h⟩ := brg h
      refine br_t hb ?_
      obtain ⟨x4, h1, h⟩ := bd h
      refine bind_some h1 ?_
      obtain ⟨hb, h⟩ := brg h
      refine br_t hb ?_
      obtain ⟨x5, h1, h⟩ := bd h
      refine bind_some h1 ?_
      obtain ⟨hb, h⟩ := brg h
      refine br_t hb ?_
      obtain ⟨x6, h1, h⟩ := bd h
      refine bind_some h1 ?_
      obtain ⟨r_, h1, h⟩ := bd h
      refine call_aftD (math_bits_RotateLeft64_c h1) ?_
      simp +decide only [go_sem, reduceIte, Nat.reduceAdd]
      obtain ⟨hb, h⟩ := brg h
      refine br_t hb ?_
      obtain ⟨x7, h1, h⟩ := bd h
      refine bind_some h1 ?_
      obtain ⟨r_2, h1, h⟩ := bd h
      refine call_aft (math_bits_RotateLeft64_c h1) ?_
      simp +decide only [go_sem, reduceIte, Nat.reduceAdd]
      obtain ⟨hb, h⟩ := brg h
      refine br_t hb ?_
      obtain ⟨hb, h⟩ := brg h
      refine br_t hb ?_
      obtain rfl := Option.some.inj h
      first | rfl | (simp only [List.length_set, go_sem]; done)
    · refine br_f hb ?_
      obtain rfl := Option.some.inj h
      first | rfl | (simp only [List.length_set, go_sem]; done)
noncomputable def i_lanes_permute_4_s (m16 : List Int) (m17 : List Int) (m18 : List Int) (m19 : List Int) (t11 : Int) (t12 : List Int) (t13 : Int) (t14 : List Int) : (List Int) × Int → Option (((List Int) × Int) ⊕ (((List Int) × Int × Bool)))
  | (m15, t15) =>
    br (decide (t15 < (25 : Int))) (
      br (decide (0 ≤ t15) && decide (t15.toNat < 25)) (
        (t14[t15.toNat]?).bind fun x8 =>
        br (decide (0 ≤ (IntKind.wrap .i64 ((IntKind.wrap .i64 (t15 - (t15.tmod (5 : Int)))) + ((IntKind.wrap .i64 ((t15.tmod (5 : Int)) + (2 : Int))).tmod (5 : Int))))) && decide ((IntKind.wrap .i64 ((IntKind.wrap .i64 (t15 - (t15.tmod (5 : Int)))) + ((IntKind.wrap .i64 ((t15.tmod (5 : Int)) + (2 : Int))).tmod (5 : Int)))).toNat < 25)) (
          (m19[(IntKind.wrap .i64 ((IntKind.wrap .i64 (t15 - (t15.tmod (5 : Int)))) + ((IntKind.wrap .i64 ((t15.tmod (5 : Int)) + (2 : Int))).tmod (5 : Int)))).toNat]?).bind fun x9 =>
          br (decide (0 ≤ (IntKind.wrap .i64 ((IntKind.wrap .i64 (t15 - (t15.tmod (5 : Int)))) + ((IntKind.wrap .i64 ((t15.tmod (5 : Int)) + (1 : Int))).tmod (5 : Int))))) && decide ((IntKind.wrap .i64 ((IntKind.wrap .i64 (t15 - (t15.tmod (5 : Int)))) + ((IntKind.wrap .i64 ((t15.tmod (5 : Int)) + (1 : Int))).tmod (5 : Int)))).toNat < 25)) (
            (m19[(IntKind.wrap .i64 ((IntKind.wrap .i64 (t15 - (t15.tmod (5 : Int)))) + ((IntKind.wrap .i64 ((t15.tmod (5 : Int)) + (1 : Int))).tmod (5 : Int)))).toNat]?).bind fun x10 =>
            br (decide (0 ≤ t15) && decide (t15.toNat < 25)) (
              br (decide (t15.toNat < m15.length)) (
                some (.inl ((m15.set t15.toNat (xor64 .u64 x8 (andn64 .u64 x9 x10))), (IntKind.wrap .i64 (t15 + (1 : Int)))))) (
                none)) (
              none)) (
            none)) (
          none)) (
        none)) (
      some (.inr (m15, t15, decide (t15 < (25 : Int)))))
theorem i_lanes_permute_4_l {m16 : List Int} {m17 : List Int} {m18 : List Int} {m19 : List Int} {t11 : Int} {t12 : List Int} {t13 : Int} {t14 : List Int} {m15 : List Int} {t15 : Int} {e : ((List Int) × Int × Bool)} (h : Loop (i_lanes_permute_4_s m16 m17 m18 m19 t11 t12 t13 t14) (m15, t15) = some e) : LoopX tab ow (.close []) b_i_lanes_permute_19 ⟨[(0, .ptr 0 0 0 1), (2, .ptr 1001 0 0 1), (5, .lit (.int .u64 t11)), (7, .ptr 6003 0 0 1), (20, .agg (ar .u64 t12)), (21, I t13), (82, .agg (ar .u64 t14)), (83, I t15)], [(0, ⟨25, true, [ar .u64 m15]⟩), (1001, ⟨25, true, [ar .i64 m16]⟩), (2001, ⟨24, true, [ar .u64 m17]⟩), (6002, ⟨5, true, [ar .u64 m18]⟩), (6003, ⟨25, true, [ar .u64 m19]⟩)]⟩ = some ((.exit 6, ⟨[(0, .ptr 0 0 0 1), (2, .ptr 1001 0 0 1), (5, .lit (.int .u64 t11)), (7, .ptr 6003 0 0 1), (20, .agg (ar .u64 t12)), (21, I t13), (82, .agg (ar .u64 t14)), (83, I e.2.1), (84, B e.2.2)], [(0, ⟨25, true, [ar .u64 e.1]⟩), (1001, ⟨25, true, [ar .i64 m16]⟩), (2001, ⟨24, true, [ar .u64 m17]⟩), (6002, ⟨5, true, [ar .u64 m18]⟩), (6003, ⟨25, true, [ar .u64 m19]⟩)]⟩)) := by
  refine loop_runG (S := (List Int) × Int) (eS := fun s => ⟨[(0, .ptr 0 0 0 1), (2, .ptr 1001 0 0 1), (5, .lit (.int .u64 t11)), (7, .ptr 6003 0 0 1), (20, .agg (ar .u64 t12)), (21, I t13), (82, .agg (ar .u64 t14)), (83, I s.2)], [(0, ⟨25, true, [ar .u64 s.1]⟩), (1001, ⟨25, true, [ar .i64 m16]⟩), (2001, ⟨24, true, [ar .u64 m17]⟩), (6002, ⟨5, true, [ar .u64 m18]⟩), (6003, ⟨25, true, [ar .u64 m19]⟩)]⟩) (eE := fun e => (.exit 6, ⟨[(0, .ptr 0 0 0 1), (2, .ptr 1001 0 0 1), (5, .lit (.int .u64 t11)), (7, .ptr 6003 0 0 1), (20, .agg (ar .u64 t12)), (21, I t13), (82, .agg (ar .u64 t14)), (83, I e.2.1), (84, B e.2.2)], [(0, ⟨25, true, [ar .u64 e.1]⟩), (1001, ⟨25, true, [ar .i64 m16]⟩), (2001, ⟨24, true, [ar .u64 m17]⟩), (6002, ⟨5, true, [ar .u64 m18]⟩), (6003, ⟨25, true, [ar .u64 m19]⟩)]⟩)) (fun e => ?_) (fun s o h => ?_) h
  · simp [alt]
  · obtain ⟨m15, t15⟩ := s
    simp only [i_lanes_permute_4_s] at h
    show Rn tab ow _ _ ⟨[(0, .ptr 0 0 0 1), (2, .ptr 1001 0 0 1), (5, .lit (.int .u64 t11)), (7, .ptr 6003 0 0 1), (20, .agg (ar .u64 t12)), (21, I t13), (82, .agg (ar .u64 t14)), (83, I t15)], [(0, ⟨25, true, [ar .u64 m15]⟩), (1001, ⟨25, true, [ar .i64 m16]⟩), (2001, ⟨24, true, [ar .u64 m17]⟩), (6002, ⟨5, true, [ar .u64 m18]⟩), (6003, ⟨25, true, [ar .u64 m19]⟩)]⟩ = _
    simp +decide only [b_i_lanes_permute_19, go_sem, reduceIte, Nat.reduceAdd]
    rcases brc h with ⟨hb, h⟩ | ⟨hb, h⟩
    · refine br_t hb ?_
      obtain ⟨hb, h⟩ := brg h
      refine br_t hb ?_
      obtain ⟨x8, h1, h⟩ := bd h
      refine bind_some h1 ?_
      obtain ⟨hb, h⟩ := brg h
      refine br_t hb ?_
      obtain ⟨x9, h1, h⟩ := bd h
      refine bind_some h1 ?_
      obtain ⟨hb, h⟩ := brg h
      refine br_t hb ?_
      obtain ⟨x10, h1, h⟩ := bd h
      refine bind_some h1 ?_
      obtain ⟨hb, h⟩ := brg h
      refine br_t hb ?_
      obtain ⟨hb, h⟩ := brg h
      refine br_t hb ?_
      obtain rfl := Option.some.inj h
      first | rfl | (simp only [List.length_set, go_sem]; done)
    · refine br_f hb ?_
      obtain rfl := Option.some.inj h
      first | rfl | (simp only [List.length_set, go_sem]; done)
noncomputable def i_lanes_permute_1_s (m3 : List Int) (m4 : List Int) (t : List Int) : (List Int) × Int → Option (((List Int) × Int) ⊕ (((List Int) × Int × Bool)))
  | (m2, t2) =>
    br (decide (t2 < (24 : Int))) (
      br (decide (0 ≤ t2) && decide (t2.toNat < 24)) (
        (t[t2.toNat]?).bind fun x =>
        (Loop (i_lanes_permute_2_s m2 m3 m4 (nZ 25) x t t2) ((nZ 5), (0 : Int))).bind fun e_ =>
        (Loop (i_lanes_permute_3_s m2 m3 m4 e_.1 x t t2) ((nZ 25), (0 : Int))).bind fun e_2 =>
        br (decide (e_2.1.length = 25)) (
          (Loop (i_lanes_permute_4_s m3 m4 e_.1 e_2.1 x t t2 e_2.1) (m2, (0 : Int))).bind fun e_3 =>
          (e_3.1[0]?).bind fun x11 =>
          br (decide (0 < e_3.1.length)) (
            some (.inl ((e_3.1.set 0 (xor64 .u64 x11 x)), (IntKind.wrap .i64 (t2 + (1 : Int)))))) (
            none)) (
          none)) (
        none)) (
      some (.inr (m2, t2, decide (t2 < (24 : Int)))))
theorem i_lanes_permute_1_l {m3 : List Int} {m4 : List Int} {t : List Int} {m2 : List Int} {t2 : Int} {e : ((List Int) × Int × Bool)} (h : Loop (i_lanes_permute_1_s m3 m4 t) (m2, t2) = some e) : LoopX tab ow (.close [6002, 6003, 16011, 17013]) b_i_lanes_permute_3 ⟨[(0, .ptr 0 0 0 1), (2, .ptr 1001 0 0 1), (20, .agg (ar .u64 t)), (21, I t2)], [(0, ⟨25, true, [ar .u64 m2]⟩), (1001, ⟨25, true, [ar .i64 m3]⟩), (2001, ⟨24, true, [ar .u64 m4]⟩)]⟩ = some ((.exit 0, ⟨[(0, .ptr 0 0 0 1), (2, .ptr 1001 0 0 1), (20, .agg (ar .u64 t)), (21, I e.2.1), (22, B e.2.2)], [(0, ⟨25, true, [ar .u64 e.1]⟩), (1001, ⟨25, true, [ar .i64 m3]⟩), (2001, ⟨24, true, [ar .u64 m4]⟩)]⟩)) := by
  refine loop_runG (S := (List Int) × Int) (eS := fun s => ⟨[(0, .ptr 0 0 0 1), (2, .ptr 1001 0 0 1), (20, .agg (ar .u64 t)), (21, I s.2)], [(0, ⟨25, true, [ar .u64 s.1]⟩), (1001, ⟨25, true, [ar .i64 m3]⟩), (2001, ⟨24, true, [ar .u64 m4]⟩)]⟩) (eE := fun e => (.exit 0, ⟨[(0, .ptr 0 0 0 1), (2, .ptr 1001 0 0 1), (20, .agg (ar .u64 t)), (21, I e.2.1), (22, B e.2.2)], [(0, ⟨25, true, [ar .u64 e.1]⟩), (1001, ⟨25, true, [ar .i64 m3]⟩), (2001, ⟨24, true, [ar .u64 m4]⟩)]⟩)) (fun e => ?_) (fun s o h => ?_) h
  · simp [alt]
  · obtain ⟨m2, t2⟩ := s
    simp only [i_lanes_permute_1_s] at h
    show Rn tab ow _ _ ⟨[(0, .ptr 0 0 0 1), (2, .ptr 1001 0 0 1), (20, .agg (ar .u64 t)), (21, I t2)], [(0, ⟨25, true, [ar .u64 m2]⟩), (1001, ⟨25, true, [ar .i64 m3]⟩), (2001, ⟨24, true, [ar .u64 m4]⟩)]⟩ = _
    simp +decide only [b_i_lanes_permute_3, go_sem, reduceIte, Nat.reduceAdd]
    rcases brc h with ⟨hb, h⟩ | ⟨hb, h⟩
    · refine br_t hb ?_
      obtain ⟨hb, h⟩ := brg h
      refine br_t hb ?_
      obtain ⟨x, h1, h⟩ := bd h
      refine bind_some h1 ?_
      obtain ⟨e_, h1, h⟩ := bd h
      refine goR_of (i_lanes_permute_2_l h1) ?_
      simp +decide only [go_sem, reduceIte, Nat.reduceAdd]
      obtain ⟨e_2, h1, h⟩ := bd h
      refine goR_of (i_lanes_permute_3_l h1) ?_
      simp +decide only [go_sem, reduceIte, Nat.reduceAdd]
      obtain ⟨hb, h⟩ := brg h
      refine br_t hb ?_
      obtain ⟨e_3, h1, h⟩ := bd h
      refine goR_of (i_lanes_permute_4_l h1) ?_
      simp +decide only [go_sem, reduceIte, Nat.reduceAdd]
      obtain ⟨x11, h1, h⟩ := bd h
      refine bind_some h1 ?_
      obtain ⟨hb, h⟩ := brg h
      refine br_t hb ?_
      obtain rfl := Option.some.inj h
      first | rfl | (simp only [List.length_set, go_sem]; done)
    · refine br_f hb ?_
      obtain rfl := Option.some.inj h
      first | rfl | (simp only [List.length_set, go_sem]; done)
noncomputable def i_lanes_permute (m : List Int) : Option ((List Int)) :=
  (Loop (i_lanes_permute_1_s ([0, 1, 62, 28, 27, 36, 44, 6, 55, 20, 3, 10, 43, 25, 39, 41, 45, 15, 21, 8, 18, 2, 61, 56, 14] : List Int) ([1, 32898, 9223372036854808714, 9223372039002292224, 32907, 2147483649, 9223372039002292353, 9223372036854808585, 138, 136, 2147516425, 2147483658, 2147516555, 9223372036854775947, 9223372036854808713, 9223372036854808579, 9223372036854808578, 9223372036854775936, 32778, 9223372039002259466, 9223372039002292353, 9223372036854808704, 2147483649, 9223372039002292232] : List Int) ([1, 32898, 9223372036854808714, 9223372039002292224, 32907, 2147483649, 9223372039002292353, 9223372036854808585, 138, 136, 2147516425, 2147483658, 2147516555, 9223372036854775947, 9223372036854808713, 9223372036854808579, 9223372036854808578, 9223372036854775936, 32778, 9223372039002259466, 9223372039002292353, 9223372036854808704, 2147483649, 9223372039002292232] : List Int)) (m, (0 : Int))).bind fun e_4 =>
  some e_4.1
theorem i_lanes_permute_c {m : List Int} {r : (List Int)} (h : i_lanes_permute m = some r) : Call tab ow 249 [.ptr 0 0 0 1] [⟨25, true, [ar .u64 m]⟩] = some (.tup [], [⟨25, true, [ar .u64 r]⟩]) := by
  rw [run_i_lanes_permute]
  unfold i_lanes_permute at h
  simp +decide only [b_i_lanes_permute, go_sem, reduceIte, Nat.reduceAdd]
  obtain ⟨e_4, h1, h⟩ := bd h
  refine goR_of (i_lanes_permute_1_l h1) ?_
  simp +decide only [go_sem, reduceIte, Nat.reduceAdd]
  obtain rfl := Option.some.inj h
  first | rfl | (simp only [List.length_set, go_sem]; done)
section
theorem i_lanes_text_k0 : mkR 2000 [] = rws eU8 [] := rfl
attribute [local go_sem] i_lanes_text_k0
theorem i_lanes_text_k1 : mkR 6012 [] = rws eU8 [] := rfl
attribute [local go_sem] i_lanes_text_k1
noncomputable def i_lanes_text_1_s (m2 : List Int) : (List UInt8) × Int → Option (((List UInt8) × Int) ⊕ (((List UInt8) × Int × Bool)))
  | (l, t) =>
    br (decide (t < (200 : Int))) (
      br (decide (0 ≤ (IntKind.wrap .i64 (t.tdiv (8 : Int)))) && decide ((IntKind.wrap .i64 (t.tdiv (8 : Int))).toNat < 25)) (
        (m2[(IntKind.wrap .i64 (t.tdiv (8 : Int))).toNat]?).bind fun x =>
        br (decide (0 ≤ (IntKind.wrap .i64 ((8 : Int) * (t.tmod (8 : Int)))))) (
          br (fits ((l ++ ([(UInt8.ofInt (shr64 .u64 x (IntKind.wrap .i64 ((8 : Int) * (t.tmod (8 : Int))))))] : List UInt8)).length) 1) (
            some (.inl ((l ++ ([(UInt8.ofInt (shr64 .u64 x (IntKind.wrap .i64 ((8 : Int) * (t.tmod (8 : Int))))))] : List UInt8)), (IntKind.wrap .i64 (t + (1 : Int)))))) (
            none)) (
          none)) (
        none)) (
      some (.inr (l, t, decide (t < (200 : Int)))))
theorem i_lanes_text_1_l {m2 : List Int} {l : List UInt8} {t : Int} {e : ((List UInt8) × Int × Bool)} (h : Loop (i_lanes_text_1_s m2) (l, t) = some e) : LoopX tab ow (.close [6012, 6013]) b_i_lanes_text_3 ⟨[(0, .ptr 0 0 0 1), (3, .sl 2000 0 l.length), (6, I t)], [(0, ⟨25, true, [ar .u64 m2]⟩), (2000, ⟨1, false, rws eU8 l⟩)]⟩ = some ((.exit 0, ⟨[(0, .ptr 0 0 0 1), (3, .sl 2000 0 e.1.length), (6, I e.2.1), (7, B e.2.2)], [(0, ⟨25, true, [ar .u64 m2]⟩), (2000, ⟨1, false, rws eU8 e.1⟩)]⟩)) := by
  refine loop_runG (S := (List UInt8) × Int) (eS := fun s => ⟨[(0, .ptr 0 0 0 1), (3, .sl 2000 0 s.1.length), (6, I s.2)], [(0, ⟨25, true, [ar .u64 m2]⟩), (2000, ⟨1, false, rws eU8 s.1⟩)]⟩) (eE := fun e => (.exit 0, ⟨[(0, .ptr 0 0 0 1), (3, .sl 2000 0 e.1.length), (6, I e.2.1), (7, B e.2.2)], [(0, ⟨25, true, [ar .u64 m2]⟩), (2000, ⟨1, false, rws eU8 e.1⟩)]⟩)) (fun e => ?_) (fun s o h => ?_) h
  · simp [alt]
  · obtain ⟨l, t⟩ := s
    simp only [i_lanes_text_1_s] at h
    show Rn tab ow _ _ ⟨[(0, .ptr 0 0 0 1), (3, .sl 2000 0 l.length), (6, I t)], [(0, ⟨25, true, [ar .u64 m2]⟩), (2000, ⟨1, false, rws eU8 l⟩)]⟩ = _
    simp +decide only [b_i_lanes_text_3, go_sem, reduceIte, Nat.reduceAdd]
    rcases brc h with ⟨hb, h⟩ | ⟨hb, h⟩
    · refine br_t hb ?_
      obtain ⟨hb, h⟩ := brg h
      refine br_t hb ?_
      obtain ⟨x, h1, h⟩ := bd h
      refine bind_some h1 ?_
      obtain ⟨hb, h⟩ := brg h
      refine br_t hb ?_
      obtain ⟨hb, h⟩ := brg h
      refine br_t hb ?_
      obtain rfl := Option.some.inj h
      first | rfl | (simp only [List.length_set, go_sem]; done)
    · refine br_f hb ?_
      obtain rfl := Option.some.inj h
      first | rfl | (simp only [List.length_set, go_sem]; done)
noncomputable def i_lanes_text (m : List Int) : Option ((List UInt8) × (List Int)) :=
  (Loop (i_lanes_text_1_s m) (([] : List UInt8), (0 : Int))).bind fun e_ =>
  some (e_.1, m)
theorem i_lanes_text_c {m : List Int} {r : (List UInt8) × (List Int)} (h : i_lanes_text m = some r) : Call tab ow 250 [.ptr 0 0 0 1] [⟨25, true, [ar .u64 m]⟩] = some (sl eU8 r.1, [⟨25, true, [ar .u64 r.2]⟩]) := by
  rw [run_i_lanes_text]
  unfold i_lanes_text at h
  simp +decide only [b_i_lanes_text, go_sem, reduceIte, Nat.reduceAdd]
  obtain ⟨e_, h1, h⟩ := bd h
  refine goR_of (i_lanes_text_1_l h1) ?_
  simp +decide only [go_sem, reduceIte, Nat.reduceAdd]
  obtain rfl := Option.some.inj h
  first | rfl | (simp only [List.length_set, go_sem]; done)
end
section
theorem i_keccak_k0 : mkR 2000 [] = rws eU8 [] := rfl
attribute [local go_sem] i_keccak_k0
theorem i_keccak_k1 : mkR 8001 [] = rws eU8 [] := rfl
attribute [local go_sem] i_keccak_k1
theorem i_keccak_k2 : mkR 10001 [] = rws eU8 [] := rfl
attribute [local go_sem] i_keccak_k2
noncomputable def i_keccak_1_s (t : List (List UInt8)) (t2 : Int) : (List UInt8) × Int → Option (((List UInt8) × Int) ⊕ (((List UInt8) × Int × Bool)))
  | (l, t3) =>
    br (decide (t3 < t2)) (
      (atL t t3).bind fun x =>
      br (fits ((l ++ x).length) 1) (
        some (.inl ((l ++ x), (IntKind.wrap .i64 (t3 + (1 : Int)))))) (
        none)) (
      some (.inr (l, t3, decide (t3 < t2))))
theorem i_keccak_1_l {t : List (List UInt8)} {t2 : Int} {l : List UInt8} {t3 : Int} {e : ((List UInt8) × Int × Bool)} (h : Loop (i_keccak_1_s t t2) (l, t3) = some e) : LoopX tab ow (.close [6002]) b_i_keccak_3 ⟨[(3, .sl 2000 0 l.length), (10, sl (eL eU8) t), (11, I t2), (12, I t3)], [(2000, ⟨1, false, rws eU8 l⟩)]⟩ = some ((.exit 0, ⟨[(3, .sl 2000 0 e.1.length), (10, sl (eL eU8) t), (11, I t2), (12, I e.2.1), (13, B e.2.2)], [(2000, ⟨1, false, rws eU8 e.1⟩)]⟩)) := by
  refine loop_runG (S := (List UInt8) × Int) (eS := fun s => ⟨[(3, .sl 2000 0 s.1.length), (10, sl (eL eU8) t), (11, I t2), (12, I s.2)], [(2000, ⟨1, false, rws eU8 s.1⟩)]⟩) (eE := fun e => (.exit 0, ⟨[(3, .sl 2000 0 e.1.length), (10, sl (eL eU8) t), (11, I t2), (12, I e.2.1), (13, B e.2.2)], [(2000, ⟨1, false, rws eU8 e.1⟩)]⟩)) (fun e => ?_) (fun s o h => ?_) h
  · simp [alt]
  · obtain ⟨l, t3⟩ := s
    simp only [i_keccak_1_s] at h
    show Rn tab ow _ _ ⟨[(3, .sl 2000 0 l.length), (10, sl (eL eU8) t), (11, I t2), (12, I t3)], [(2000, ⟨1, false, rws eU8 l⟩)]⟩ = _
    simp +decide only [b_i_keccak_3, go_sem, reduceIte, Nat.reduceAdd]
    rcases brc h with ⟨hb, h⟩ | ⟨hb, h⟩
    · refine br_t hb ?_
      obtain ⟨x, h1, h⟩ := bd h
      refine bind_some h1 ?_
      obtain ⟨hb, h⟩ := brg h
      refine br_t hb ?_
      obtain rfl := Option.some.inj h
      first | rfl | (simp only [List.length_set, go_sem]; done)
    · refine br_f hb ?_
      obtain rfl := Option.some.inj h
      first | rfl | (simp only [List.length_set, go_sem]; done)
noncomputable def i_keccak_2_s (l3 : List UInt8) : (List UInt8) → Option (((List UInt8)) ⊕ (((List UInt8) × Bool)))
  | l2 =>
    br ((((l2.length : Nat) : Int).tmod (136 : Int)) != (0 : Int)) (
      br (fits ((l2 ++ ([(0 : UInt8)] : List UInt8)).length) 1) (
        some (.inl (l2 ++ ([(0 : UInt8)] : List UInt8)))) (
        none)) (
      some (.inr (l2, ((((l2.length : Nat) : Int).tmod (136 : Int)) != (0 : Int)))))
theorem i_keccak_2_l {l3 : List UInt8} {l2 : List UInt8} {e : ((List UInt8) × Bool)} (h : Loop (i_keccak_2_s l3) l2 = some e) : LoopX tab ow (.close [10001, 10002]) b_i_keccak_8 ⟨[(3, .sl 2000 0 l2.length)], [(2000, ⟨1, false, rws eU8 l2⟩), (8001, ⟨1, false, rws eU8 l3⟩)]⟩ = some ((.exit 2, ⟨[(3, .sl 2000 0 e.1.length), (26, B e.2)], [(2000, ⟨1, false, rws eU8 e.1⟩), (8001, ⟨1, false, rws eU8 l3⟩)]⟩)) := by
  refine loop_runG (S := (List UInt8)) (eS := fun s => ⟨[(3, .sl 2000 0 s.length)], [(2000, ⟨1, false, rws eU8 s⟩), (8001, ⟨1, false, rws eU8 l3⟩)]⟩) (eE := fun e => (.exit 2, ⟨[(3, .sl 2000 0 e.1.length), (26, B e.2)], [(2000, ⟨1, false, rws eU8 e.1⟩), (8001, ⟨1, false, rws eU8 l3⟩)]⟩)) (fun e => ?_) (fun l2 o h => ?_) h
  · simp [alt]
  · skip
    simp only [i_keccak_2_s] at h
    show Rn tab ow _ _ ⟨[(3, .sl 2000 0 l2.length)], [(2000, ⟨1, false, rws eU8 l2⟩), (8001, ⟨1, false, rws eU8 l3⟩)]⟩ = _
    simp +decide only [b_i_keccak_8, go_sem, reduceIte, Nat.reduceAdd]
    rcases brc h with ⟨hb, h⟩ | ⟨hb, h⟩
    · refine br_t hb ?_
      obtain ⟨hb, h⟩ := brg h
      refine br_t hb ?_
      obtain rfl := Option.some.inj h
      first | rfl | (simp only [List.length_set, go_sem]; done)
    · refine br_f hb ?_
      obtain rfl := Option.some.inj h
      first | rfl | (simp only [List.length_set, go_sem]; done)
noncomputable def i_keccak_4_s (l5 : List UInt8) (all2 : List UInt8) (t4 : List Int) : (List Int) × Int → Option (((List Int) × Int) ⊕ (((List Int) × Int × Bool)))
  | (m2, t5) =>
    br (decide (t5 < (25 : Int))) (
      br (decide (0 ≤ t5) && decide (t5.toNat < 25)) (
        (t4[t5.toNat]?).bind fun x4 =>
        br (decide (0 ≤ t5) && decide (t5.toNat < 25)) (
          (m2[t5.toNat]?).bind fun x5 =>
          br (decide (0 ≤ t5) && decide (t5.toNat < 25)) (
            br (decide (t5.toNat < m2.length)) (
              some (.inl ((m2.set t5.toNat (xor64 .u64 x5 x4)), (IntKind.wrap .i64 (t5 + (1 : Int)))))) (
              none)) (
            none)) (
          none)) (
        none)) (
      some (.inr (m2, t5, decide (t5 < (25 : Int)))))
theorem i_keccak_4_l {l5 : List UInt8} {all2 : List UInt8} {t4 : List Int} {m2 : List Int} {t5 : Int} {e : ((List Int) × Int × Bool)} (h : Loop (i_keccak_4_s l5 all2 t4) (m2, t5) = some e) : LoopX tab ow (.close []) b_i_keccak_15 ⟨[(3, sl eU8 all2), (6, .ptr 12001 0 0 1), (46, .agg (ar .u64 t4)), (47, I t5)], [(8001, ⟨1, false, rws eU8 l5⟩), (12001, ⟨25, true, [ar .u64 m2]⟩)]⟩ = some ((.exit 6, ⟨[(3, sl eU8 all2), (6, .ptr 12001 0 0 1), (46, .agg (ar .u64 t4)), (47, I e.2.1), (48, B e.2.2)], [(8001, ⟨1, false, rws eU8 l5⟩), (12001, ⟨25, true, [ar .u64 e.1]⟩)]⟩)) := by
  refine loop_runG (S := (List Int) × Int) (eS := fun s => ⟨[(3, sl eU8 all2), (6, .ptr 12001 0 0 1), (46, .agg (ar .u64 t4)), (47, I s.2)], [(8001, ⟨1, false, rws eU8 l5⟩), (12001, ⟨25, true, [ar .u64 s.1]⟩)]⟩) (eE := fun e => (.exit 6, ⟨[(3, sl eU8 all2), (6, .ptr 12001 0 0 1), (46, .agg (ar .u64 t4)), (47, I e.2.1), (48, B e.2.2)], [(8001, ⟨1, false, rws eU8 l5⟩), (12001, ⟨25, true, [ar .u64 e.1]⟩)]⟩)) (fun e => ?_) (fun s o h => ?_) h
  · simp [alt]
  · obtain ⟨m2, t5⟩ := s
    simp only [i_keccak_4_s] at h
    show Rn tab ow _ _ ⟨[(3, sl eU8 all2), (6, .ptr 12001 0 0 1), (46, .agg (ar .u64 t4)), (47, I t5)], [(8001, ⟨1, false, rws eU8 l5⟩), (12001, ⟨25, true, [ar .u64 m2]⟩)]⟩ = _
    simp +decide only [b_i_keccak_15, go_sem, reduceIte, Nat.reduceAdd]
    rcases brc h with ⟨hb, h⟩ | ⟨hb, h⟩
    · refine br_t hb ?_
      obtain ⟨hb, h⟩ := brg h
      refine br_t hb ?_
      obtain ⟨x4, h1, h⟩ := bd h
      refine bind_some h1 ?_
      obtain ⟨hb, h⟩ := brg h
      refine br_t hb ?_
      obtain ⟨x5, h1, h⟩ := bd h
      refine bind_some h1 ?_
      obtain ⟨hb, h⟩ := brg h
      refine br_t hb ?_
      obtain ⟨hb, h⟩ := brg h
      refine br_t hb ?_
      obtain rfl := Option.some.inj h
      first | rfl | (simp only [List.length_set, go_sem]; done)
    · refine br_f hb ?_
      obtain rfl := Option.some.inj h
      first | rfl | (simp only [List.length_set, go_sem]; done)
noncomputable def i_keccak_3_s (l4 : List UInt8) : (List Int) × (List UInt8) → Option (((List Int) × (List UInt8)) ⊕ (((List Int) × (List UInt8) × Bool)))
  | (m, all) =>
    br (decide (((all.length : Nat) : Int) > (0 : Int))) (
      (subL all (0 : Int) (136 : Int)).bind fun y =>
      (i_lanesOf y).bind fun r_ =>
      (Loop (i_keccak_4_s l4 all r_) (m, (0 : Int))).bind fun e_3 =>
      (i_lanes_permute e_3.1).bind fun r_2 =>
      (subL all (136 : Int) ((all.length : Nat) : Int)).bind fun y2 =>
      some (.inl (r_2, y2))) (
      some (.inr (m, all, decide (((all.length : Nat) : Int) > (0 : Int)))))
theorem i_keccak_3_l {l4 : List UInt8} {m : List Int} {all : List UInt8} {e : ((List Int) × (List UInt8) × Bool)} (h : Loop (i_keccak_3_s l4) (m, all) = some e) : LoopX tab ow (.close [15002, 20000, 2000]) b_i_keccak_12 ⟨[(3, sl eU8 all), (6, .ptr 12001 0 0 1)], [(8001, ⟨1, false, rws eU8 l4⟩), (12001, ⟨25, true, [ar .u64 m]⟩)]⟩ = some ((.exit 4, ⟨[(3, sl eU8 e.2.1), (6, .ptr 12001 0 0 1), (41, B e.2.2)], [(8001, ⟨1, false, rws eU8 l4⟩), (12001, ⟨25, true, [ar .u64 e.1]⟩)]⟩)) := by
  refine loop_runG (S := (List Int) × (List UInt8)) (eS := fun s => ⟨[(3, sl eU8 s.2), (6, .ptr 12001 0 0 1)], [(8001, ⟨1, false, rws eU8 l4⟩), (12001, ⟨25, true, [ar .u64 s.1]⟩)]⟩) (eE := fun e => (.exit 4, ⟨[(3, sl eU8 e.2.1), (6, .ptr 12001 0 0 1), (41, B e.2.2)], [(8001, ⟨1, false, rws eU8 l4⟩), (12001, ⟨25, true, [ar .u64 e.1]⟩)]⟩)) (fun e => ?_) (fun s o h => ?_) h
  · simp [alt]
  · obtain ⟨m, all⟩ := s
    simp only [i_keccak_3_s] at h
    show Rn tab ow _ _ ⟨[(3, sl eU8 all), (6, .ptr 12001 0 0 1)], [(8001, ⟨1, false, rws eU8 l4⟩), (12001, ⟨25, true, [ar .u64 m]⟩)]⟩ = _
    simp +decide only [b_i_keccak_12, go_sem, reduceIte, Nat.reduceAdd]
    rcases brc h with ⟨hb, h⟩ | ⟨hb, h⟩
    · refine br_t hb ?_
      obtain ⟨y, h1, h⟩ := bd h
      refine bind_some h1 ?_
      obtain ⟨r_, h1, h⟩ := bd h
      refine call_aft (i_lanesOf_c h1) ?_
      simp +decide only [go_sem, reduceIte, Nat.reduceAdd]
      obtain ⟨e_3, h1, h⟩ := bd h
      refine goR_of (i_keccak_4_l h1) ?_
      simp +decide only [go_sem, reduceIte, Nat.reduceAdd]
      obtain ⟨r_2, h1, h⟩ := bd h
      refine call_aft (i_lanes_permute_c h1) ?_
      simp +decide only [go_sem, reduceIte, Nat.reduceAdd]
      obtain ⟨y2, h1, h⟩ := bd h
      refine bind_some h1 ?_
      obtain rfl := Option.some.inj h
      first | rfl | (simp only [List.length_set, go_sem]; done)
    · refine br_f hb ?_
      obtain rfl := Option.some.inj h
      first | rfl | (simp only [List.length_set, go_sem]; done)
noncomputable def i_keccak (pieces : (List (List UInt8))) : Option ((List UInt8)) :=
  (Loop (i_keccak_1_s pieces ((pieces.length : Nat) : Int)) (([] : List UInt8), (0 : Int))).bind fun e_ =>
  br (fits ((e_.1 ++ ([(1 : UInt8)] : List UInt8)).length) 1) (
    (Loop (i_keccak_2_s ([(1 : UInt8)] : List UInt8)) (e_.1 ++ ([(1 : UInt8)] : List UInt8))).bind fun e_2 =>
    br (decide (0 ≤ (IntKind.wrap .i64 (((e_2.1.length : Nat) : Int) - (1 : Int))))) (
      br (decide ((IntKind.wrap .i64 (((e_2.1.length : Nat) : Int) - (1 : Int))).toNat < e_2.1.length)) (
        (e_2.1[(IntKind.wrap .i64 (((e_2.1.length : Nat) : Int) - (1 : Int))).toNat]?).bind fun x2 =>
        br (decide (0 ≤ (IntKind.wrap .i64 (((e_2.1.length : Nat) : Int) - (1 : Int))))) (
          br (decide ((IntKind.wrap .i64 (((e_2.1.length : Nat) : Int) - (1 : Int))).toNat < e_2.1.length)) (
            (e_2.1[(IntKind.wrap .i64 (((e_2.1.length : Nat) : Int) - (1 : Int))).toNat]?).bind fun x3 =>
            (Loop (i_keccak_3_s ([(1 : UInt8)] : List UInt8)) ((nZ 25), (e_2.1.set ((IntKind.wrap .i64 (((e_2.1.length : Nat) : Int) - (1 : Int))).toNat) (UInt8.ofInt (or64 .u8 (x2.toNat : Int) (128 : Int)))))).bind fun e_4 =>
            (i_lanes_text e_4.1).bind fun r_3 =>
            (subL r_3.1 (0 : Int) (32 : Int)).bind fun y3 =>
            some y3) (
            none)) (
          none)) (
        none)) (
      none)) (
    none)
theorem i_keccak_c {pieces : (List (List UInt8))} {r : (List UInt8)} (h : i_keccak pieces = some r) : Call tab ow 168 [sl (eL eU8) pieces] [] = some (S r, []) := by
  rw [run_i_keccak]
  unfold i_keccak at h
  simp +decide only [b_i_keccak, go_sem, reduceIte, Nat.reduceAdd]
  obtain ⟨e_, h1, h⟩ := bd h
  refine goR_of (i_keccak_1_l h1) ?_
  simp +decide only [go_sem, reduceIte, Nat.reduceAdd]
  obtain ⟨hb, h⟩ := brg h
  refine br_t hb ?_
  obtain ⟨e_2, h1, h⟩ := bd h
  refine goR_of (i_keccak_2_l h1) ?_
  simp +decide only [go_sem, reduceIte, Nat.reduceAdd]
  obtain ⟨hb, h⟩ := brg h
  refine br_t hb ?_
  obtain ⟨hb, h⟩ := brg h
  refine br_t hb ?_
  obtain ⟨x2, h1, h⟩ := bd h
  refine bind_some h1 ?_
  obtain ⟨hb, h⟩ := brg h
  refine br_t hb ?_
  obtain ⟨hb, h⟩ := brg h
  refine br_t hb ?_
  obtain ⟨x3, h1, h⟩ := bd h
  refine bind_some h1 ?_
  obtain ⟨e_4, h1, h⟩ := bd h
  have h2 := i_keccak_3_l h1
  try simp only [List.length_set] at h2
  refine goR_of h2 ?_
  simp +decide only [go_sem, reduceIte, Nat.reduceAdd]
  obtain ⟨r_3, h1, h⟩ := bd h
  refine call_aft (i_lanes_text_c h1) ?_
  simp +decide only [go_sem, reduceIte, Nat.reduceAdd]
  obtain ⟨y3, h1, h⟩ := bd h
  refine bind_some h1 ?_
  obtain rfl := Option.some.inj h
  first | rfl | (simp only [List.length_set, go_sem]; done)
end
section
theorem s_l00Src_bytes_k0 : mkR 2000 [] = rws eU8 [] := rfl
attribute [local go_sem] s_l00Src_bytes_k0
theorem s_l00Src_bytes_k1 : mkR 6004 [] = rws eU8 [] := rfl
attribute [local go_sem] s_l00Src_bytes_k1
noncomputable def s_l00Src_bytes_1_s : (List UInt8) × Int × (List UInt8) × Int × Int → Option (((List UInt8) × Int × (List UInt8) × Int × Int) ⊕ (((List UInt8) × Int × Bool × (List UInt8) × Int × Int)))
  | (l, i, c, c2, c3) =>
    br (decide (i > (0 : Int))) (
      (s_l00Src_next (256 : Int) (l00Src.mk c c2 c3)).bind fun r_2 =>
      br (fits ((l ++ ([(UInt8.ofInt r_2.1)] : List UInt8)).length) 1) (
        some (.inl ((l ++ ([(UInt8.ofInt r_2.1)] : List UInt8)), (IntKind.wrap .i64 (i - (1 : Int))), r_2.2.code, r_2.2.at_, r_2.2.seed))) (
        none)) (
      some (.inr (l, i, decide (i > (0 : Int)), c, c2, c3)))
theorem s_l00Src_bytes_1_l {l : List UInt8} {i : Int} {c : List UInt8} {c2 : Int} {c3 : Int} {e : ((List UInt8) × Int × Bool × (List UInt8) × Int × Int)} (h : Loop (s_l00Src_bytes_1_s) (l, i, c, c2, c3) = some e) : LoopX tab ow (.close [6002, 6004, 6005]) b_s_l00Src_bytes_3 ⟨[(0, .ptr 0 0 0 1), (5, .sl 2000 0 l.length), (6, I i)], [(0, ⟨3, true, [[sl eU8 c, I c2, I c3]]⟩), (2000, ⟨1, false, rws eU8 l⟩)]⟩ = some ((.exit 0, ⟨[(0, .ptr 0 0 0 1), (5, .sl 2000 0 e.1.length), (6, I e.2.1), (13, B e.2.2.1)], [(0, ⟨3, true, [[sl eU8 e.2.2.2.1, I e.2.2.2.2.1, I e.2.2.2.2.2]]⟩), (2000, ⟨1, false, rws eU8 e.1⟩)]⟩)) := by
  refine loop_runG (S := (List UInt8) × Int × (List UInt8) × Int × Int) (eS := fun s => ⟨[(0, .ptr 0 0 0 1), (5, .sl 2000 0 s.1.length), (6, I s.2.1)], [(0, ⟨3, true, [[sl eU8 s.2.2.1, I s.2.2.2.1, I s.2.2.2.2]]⟩), (2000, ⟨1, false, rws eU8 s.1⟩)]⟩) (eE := fun e => (.exit 0, ⟨[(0, .ptr 0 0 0 1), (5, .sl 2000 0 e.1.length), (6, I e.2.1), (13, B e.2.2.1)], [(0, ⟨3, true, [[sl eU8 e.2.2.2.1, I e.2.2.2.2.1, I e.2.2.2.2.2]]⟩), (2000, ⟨1, false, rws eU8 e.1⟩)]⟩)) (fun e => ?_) (fun s o h => ?_) h
  · simp [alt]
  · obtain ⟨l, i, c, c2, c3⟩ := s
    simp only [s_l00Src_bytes_1_s] at h
    show Rn tab ow _ _ ⟨[(0, .ptr 0 0 0 1), (5, .sl 2000 0 l.length), (6, I i)], [(0, ⟨3, true, [[sl eU8 c, I c2, I c3]]⟩), (2000, ⟨1, false, rws eU8 l⟩)]⟩ = _
    simp +decide only [b_s_l00Src_bytes_3, go_sem, reduceIte, Nat.reduceAdd]
    rcases brc h with ⟨hb, h⟩ | ⟨hb, h⟩
    · refine br_t hb ?_
      obtain ⟨r_2, h1, h⟩ := bd h
      refine call_aft (s_l00Src_next_c h1) ?_
      simp +decide only [go_sem, reduceIte, Nat.reduceAdd]
      obtain ⟨hb, h⟩ := brg h
      refine br_t hb ?_
      obtain rfl := Option.some.inj h
      first | rfl | (simp only [List.length_set, go_sem]; done)
    · refine br_f hb ?_
      obtain rfl := Option.some.inj h
      first | rfl | (simp only [List.length_set, go_sem]; done)
noncomputable def s_l00Src_bytes (n : Int) (m : l00Src) : Option ((List UInt8) × l00Src) :=
  (s_l00Src_next (IntKind.wrap .i64 (n + (1 : Int))) m).bind fun r_ =>
  (Loop (s_l00Src_bytes_1_s) (([] : List UInt8), r_.1, r_.2.code, r_.2.at_, r_.2.seed)).bind fun e_ =>
  some (e_.1, (l00Src.mk e_.2.2.2.1 e_.2.2.2.2.1 e_.2.2.2.2.2))
theorem s_l00Src_bytes_c {n : Int} {m : l00Src} {r : (List UInt8) × l00Src} (h : s_l00Src_bytes n m = some r) : Call tab ow 164 [.ptr 0 0 0 1, I n] [⟨3, true, [[sl eU8 m.code, I m.at_, I m.seed]]⟩] = some (sl eU8 r.1, [⟨3, true, [[sl eU8 r.2.code, I r.2.at_, I r.2.seed]]⟩]) := by
  rw [run_s_l00Src_bytes]
  unfold s_l00Src_bytes at h
  simp +decide only [b_s_l00Src_bytes, go_sem, reduceIte, Nat.reduceAdd]
  obtain ⟨r_, h1, h⟩ := bd h
  refine call_aft (s_l00Src_next_c h1) ?_
  simp +decide only [go_sem, reduceIte, Nat.reduceAdd]
  obtain ⟨e_, h1, h⟩ := bd h
  refine goR_of (s_l00Src_bytes_1_l h1) ?_
  simp +decide only [go_sem, reduceIte, Nat.reduceAdd]
  obtain rfl := Option.some.inj h
  first | rfl | (simp only [List.length_set, go_sem]; done)
end
section
theorem s_l00Src_leaves_k0 : mkR 2000 [] = rws eS [] := rfl
attribute [local go_sem] s_l00Src_leaves_k0
theorem s_l00Src_leaves_k1 : mkR 7005 [] = rws eS [] := rfl
attribute [local go_sem] s_l00Src_leaves_k1
theorem s_l00Src_leaves_k2 : mkR 7007 [] = rws eS [] := rfl
attribute [local go_sem] s_l00Src_leaves_k2
noncomputable def s_l00Src_leaves_1_s (n : Int) : (List (List UInt8)) × Int × (List UInt8) × Int × Int → Option (((List (List UInt8)) × Int × (List UInt8) × Int × Int) ⊕ (((List (List UInt8)) × Int × Bool × (List UInt8) × Int × Int)))
  | (l, i, c, c2, c3) =>
    br (decide (i < n)) (
      (s_l00Src_bytes (9 : Int) (l00Src.mk c c2 c3)).bind fun r_2 =>
      (s_l00Src_pick ([(([] : List UInt8)), (([97] : List UInt8)), (([108, 101, 97, 102] : List UInt8)), r_2.1] : List (List UInt8)) r_2.2).bind fun r_3 =>
      br (fits ((l ++ ([r_3.1] : List (List UInt8))).length) 16) (
        some (.inl ((l ++ ([r_3.1] : List (List UInt8))), (IntKind.wrap .i64 (i + (1 : Int))), r_3.2.code, r_3.2.at_, r_3.2.seed))) (
        none)) (
      some (.inr (l, i, decide (i < n), c, c2, c3)))
theorem s_l00Src_leaves_1_l {n : Int} {l : List (List UInt8)} {i : Int} {c : List UInt8} {c2 : Int} {c3 : Int} {e : ((List (List UInt8)) × Int × Bool × (List UInt8) × Int × Int)} (h : Loop (s_l00Src_leaves_1_s n) (l, i, c, c2, c3) = some e) : LoopX tab ow (.close [7003, 7005, 7006, 7007, 7008]) b_s_l00Src_leaves_4 ⟨[(0, .ptr 0 0 0 1), (3, .sl 2000 0 l.length), (4, I n), (5, I i)], [(0, ⟨3, true, [[sl eU8 c, I c2, I c3]]⟩), (2000, ⟨1, false, rws eS l⟩)]⟩ = some ((.exit 0, ⟨[(0, .ptr 0 0 0 1), (3, .sl 2000 0 e.1.length), (4, I n), (5, I e.2.1), (13, B e.2.2.1)], [(0, ⟨3, true, [[sl eU8 e.2.2.2.1, I e.2.2.2.2.1, I e.2.2.2.2.2]]⟩), (2000, ⟨1, false, rws eS e.1⟩)]⟩)) := by
  refine loop_runG (S := (List (List UInt8)) × Int × (List UInt8) × Int × Int) (eS := fun s => ⟨[(0, .ptr 0 0 0 1), (3, .sl 2000 0 s.1.length), (4, I n), (5, I s.2.1)], [(0, ⟨3, true, [[sl eU8 s.2.2.1, I s.2.2.2.1, I s.2.2.2.2]]⟩), (2000, ⟨1, false, rws eS s.1⟩)]⟩) (eE := fun e => (.exit 0, ⟨[(0, .ptr 0 0 0 1), (3, .sl 2000 0 e.1.length), (4, I n), (5, I e.2.1), (13, B e.2.2.1)], [(0, ⟨3, true, [[sl eU8 e.2.2.2.1, I e.2.2.2.2.1, I e.2.2.2.2.2]]⟩), (2000, ⟨1, false, rws eS e.1⟩)]⟩)) (fun e => ?_) (fun s o h => ?_) h
  · simp [alt]
  · obtain ⟨l, i, c, c2, c3⟩ := s
    simp only [s_l00Src_leaves_1_s] at h
    show Rn tab ow _ _ ⟨[(0, .ptr 0 0 0 1), (3, .sl 2000 0 l.length), (4, I n), (5, I i)], [(0, ⟨3, true, [[sl eU8 c, I c2, I c3]]⟩), (2000, ⟨1, false, rws eS l⟩)]⟩ = _
    simp +decide only [b_s_l00Src_leaves_4, go_sem, reduceIte, Nat.reduceAdd]
    rcases brc h with ⟨hb, h⟩ | ⟨hb, h⟩
    · refine br_t hb ?_
      obtain ⟨r_2, h1, h⟩ := bd h
      refine call_aft (s_l00Src_bytes_c h1) ?_
      simp +decide only [go_sem, reduceIte, Nat.reduceAdd]
      obtain ⟨r_3, h1, h⟩ := bd h
      refine call_aft (s_l00Src_pick_c h1) ?_
      simp +decide only [go_sem, reduceIte, Nat.reduceAdd]
      obtain ⟨hb, h⟩ := brg h
      refine br_t hb ?_
      obtain rfl := Option.some.inj h
      first | rfl | (simp only [List.length_set, go_sem]; done)
    · refine br_f hb ?_
      obtain rfl := Option.some.inj h
      first | rfl | (simp only [List.length_set, go_sem]; done)
noncomputable def s_l00Src_leaves (m : l00Src) : Option ((List (List UInt8)) × l00Src) :=
  (s_l00Src_next (4 : Int) m).bind fun r_ =>
  br (decide (0 ≤ (IntKind.wrap .u64 r_.1))) (
    (Loop (s_l00Src_leaves_1_s (shl64 .i64 (1 : Int) (IntKind.wrap .u64 r_.1))) (([] : List (List UInt8)), (0 : Int), r_.2.code, r_.2.at_, r_.2.seed)).bind fun e_ =>
    some (e_.1, (l00Src.mk e_.2.2.2.1 e_.2.2.2.2.1 e_.2.2.2.2.2))) (
    none)
theorem s_l00Src_leaves_c {m : l00Src} {r : (List (List UInt8)) × l00Src} (h : s_l00Src_leaves m = some r) : Call tab ow 155 [.ptr 0 0 0 1] [⟨3, true, [[sl eU8 m.code, I m.at_, I m.seed]]⟩] = some (sl eS r.1, [⟨3, true, [[sl eU8 r.2.code, I r.2.at_, I r.2.seed]]⟩]) := by
  rw [run_s_l00Src_leaves]
  unfold s_l00Src_leaves at h
  simp +decide only [b_s_l00Src_leaves, go_sem, reduceIte, Nat.reduceAdd]
  obtain ⟨r_, h1, h⟩ := bd h
  refine call_aft (s_l00Src_next_c h1) ?_
  simp +decide only [go_sem, reduceIte, Nat.reduceAdd]
  obtain ⟨hb, h⟩ := brg h
  refine br_t hb ?_
  obtain ⟨e_, h1, h⟩ := bd h
  refine goR_of (s_l00Src_leaves_1_l h1) ?_
  simp +decide only [go_sem, reduceIte, Nat.reduceAdd]
  obtain rfl := Option.some.inj h
  first | rfl | (simp only [List.length_set, go_sem]; done)
end
noncomputable def s_LeavesOf (code : (List UInt8)) : Option ((List (List UInt8))) :=
  (s_l00Source code).bind fun r_ =>
  (s_l00Src_leaves r_).bind fun r_2 =>
  some r_2.1
theorem s_LeavesOf_c {code : (List UInt8)} {r : (List (List UInt8))} (h : s_LeavesOf code = some r) : Call tab ow 64 [sl eU8 code] [] = some (sl eS r, []) := by
  rw [run_s_LeavesOf]
  unfold s_LeavesOf at h
  simp +decide only [b_s_LeavesOf, go_sem, reduceIte, Nat.reduceAdd]
  obtain ⟨r_, h1, h⟩ := bd h
  refine call_aft (s_l00Source_c h1) ?_
  simp +decide only [go_sem, reduceIte, Nat.reduceAdd]
  obtain ⟨r_2, h1, h⟩ := bd h
  refine call_aft (s_l00Src_leaves_c h1) ?_
  simp +decide only [go_sem, reduceIte, Nat.reduceAdd]
  obtain rfl := Option.some.inj h
  first | rfl | (simp only [List.length_set, go_sem]; done)
noncomputable def i_leavesCode_1 (leaf : (List UInt8)) : Option (Bool) :=
  some (decide (((leaf.length : Nat) : Int) > (64 : Int)))
theorem i_leavesCode_1_c {leaf : (List UInt8)} {r : Bool} (h : i_leavesCode_1 leaf = some r) : Call tab ow 243 [S leaf] [] = some (B r, []) := by
  rw [run_i_leavesCode_1]
  unfold i_leavesCode_1 at h
  simp +decide only [b_i_leavesCode_1, go_sem, reduceIte, Nat.reduceAdd]
  obtain rfl := Option.some.inj h
  first | rfl | (simp only [List.length_set, go_sem]; done)
noncomputable def slices_IndexFunc_Lstring_string_leavesCode_1_1_s (s2 : List (List UInt8)) (t : Int) : Int → Option ((Int) ⊕ (Int ⊕ (Int × Bool)))
  | t2 =>
    br (decide (t2 < t)) (
      (atL s2 t2).bind fun x =>
      (i_leavesCode_1 x).bind fun r_ =>
      br r_ (
        some (.inr (.inl t2))) (
        some (.inl (IntKind.wrap .i64 (t2 + (1 : Int)))))) (
      some (.inr (.inr (t2, decide (t2 < t)))))
theorem slices_IndexFunc_Lstring_string_leavesCode_1_1_l {s2 : List (List UInt8)} {t : Int} {t2 : Int} {e : Int ⊕ (Int × Bool)} (h : Loop (slices_IndexFunc_Lstring_string_leavesCode_1_1_s s2 t) t2 = some e) : LoopX tab ow (.close [5005]) b_slices_IndexFunc_Lstring_string_2 ⟨[(0, sl eS s2), (1, .fn 243 []), (7, I t), (8, I t2)], []⟩ = some ((alt (fun e => ((.ret, ⟨[(4, I e)], []⟩) : AExit × St)) (fun e => (.exit 0, ⟨[(0, sl eS s2), (1, .fn 243 []), (7, I t), (8, I e.1), (9, B e.2)], []⟩))) e) := by
  refine loop_runG (S := Int) (eS := fun s => ⟨[(0, sl eS s2), (1, .fn 243 []), (7, I t), (8, I s)], []⟩) (eE := fun e => (alt (fun e => ((.ret, ⟨[(4, I e)], []⟩) : AExit × St)) (fun e => (.exit 0, ⟨[(0, sl eS s2), (1, .fn 243 []), (7, I t), (8, I e.1), (9, B e.2)], []⟩))) e) (fun e => ?_) (fun t2 o h => ?_) h
  · rcases e with e | e <;> simp [alt]
  · skip
    simp only [slices_IndexFunc_Lstring_string_leavesCode_1_1_s] at h
    show Rn tab ow _ _ ⟨[(0, sl eS s2), (1, .fn 243 []), (7, I t), (8, I t2)], []⟩ = _
    simp +decide only [b_slices_IndexFunc_Lstring_string_2, go_sem, reduceIte, Nat.reduceAdd]
    rcases brc h with ⟨hb, h⟩ | ⟨hb, h⟩
    · refine br_t hb ?_
      obtain ⟨x, h1, h⟩ := bd h
      refine bind_some h1 ?_
      obtain ⟨r_, h1, h⟩ := bd h
      refine call_aft (i_leavesCode_1_c h1) ?_
      simp +decide only [go_sem, reduceIte, Nat.reduceAdd]
      rcases brc h with ⟨hb, h⟩ | ⟨hb, h⟩
      · refine br_t hb ?_
        obtain rfl := Option.some.inj h
        first | rfl | (simp only [List.length_set, go_sem]; done)
      · refine br_f hb ?_
        obtain rfl := Option.some.inj h
        first | rfl | (simp only [List.length_set, go_sem]; done)
    · refine br_f hb ?_
      obtain rfl := Option.some.inj h
      first | rfl | (simp only [List.length_set, go_sem]; done)
noncomputable def slices_IndexFunc_Lstring_string_leavesCode_1 (s : (List (List UInt8))) : Option (Int) :=
  (Loop (slices_IndexFunc_Lstring_string_leavesCode_1_1_s s ((s.length : Nat) : Int)) (0 : Int)).bind (alt (fun e_2 =>
    some e_2) (fun e_3 =>
    some (-1 : Int)))
theorem slices_IndexFunc_Lstring_string_leavesCode_1_c {s : (List (List UInt8))} {r : Int} (h : slices_IndexFunc_Lstring_string_leavesCode_1 s = some r) : Call tab ow 273 [sl eS s, .fn 243 []] [] = some (I r, []) := by
  rw [run_slices_IndexFunc_Lstring_string]
  unfold slices_IndexFunc_Lstring_string_leavesCode_1 at h
  simp +decide only [b_slices_IndexFunc_Lstring_string, go_sem, reduceIte, Nat.reduceAdd]
  obtain ⟨e_, h1, h⟩ := bd h
  refine goR_of (slices_IndexFunc_Lstring_string_leavesCode_1_1_l h1) ?_
  rcases e_ with e_2 | e_3
  · simp +decide only [go_sem, reduceIte, Nat.reduceAdd]
    obtain rfl := Option.some.inj h
    first | rfl | (simp only [List.length_set, go_sem]; done)
  · simp +decide only [go_sem, reduceIte, Nat.reduceAdd]
    obtain rfl := Option.some.inj h
    first | rfl | (simp only [List.length_set, go_sem]; done)
noncomputable def slices_ContainsFunc_Lstring_string_leavesCode_1 (s : (List (List UInt8))) : Option (Bool) :=
  (slices_IndexFunc_Lstring_string_leavesCode_1 s).bind fun r_ =>
  some (decide (r_ ≥ (0 : Int)))
theorem slices_ContainsFunc_Lstring_string_leavesCode_1_c {s : (List (List UInt8))} {r : Bool} (h : slices_ContainsFunc_Lstring_string_leavesCode_1 s = some r) : Call tab ow 242 [sl eS s, .fn 243 []] [] = some (B r, []) := by
  rw [run_slices_ContainsFunc_Lstring_string]
  unfold slices_ContainsFunc_Lstring_string_leavesCode_1 at h
  simp +decide only [b_slices_ContainsFunc_Lstring_string, go_sem, reduceIte, Nat.reduceAdd]
  obtain ⟨r_, h1, h⟩ := bd h
  refine call_aft (slices_IndexFunc_Lstring_string_leavesCode_1_c h1) ?_
  simp +decide only [go_sem, reduceIte, Nat.reduceAdd]
  obtain rfl := Option.some.inj h
  first | rfl | (simp only [List.length_set, go_sem]; done)
noncomputable def i_leavesCode (leaves : (List (List UInt8))) : Option (Int) :=
  br (decide (((leaves.length : Nat) : Int) > (4096 : Int))) (
    some (2 : Int)) (
    (i_isPower ((leaves.length : Nat) : Int) (256 : Int)).bind fun r_ =>
    br (!r_) (
      some (8 : Int)) (
      (slices_ContainsFunc_Lstring_string_leavesCode_1 leaves).bind fun r_2 =>
      br r_2 (
        some (4 : Int)) (
        some (0 : Int))))
theorem i_leavesCode_c {leaves : (List (List UInt8))} {r : Int} (h : i_leavesCode leaves = some r) : Call tab ow 156 [sl eS leaves] [] = some (I r, []) := by
  rw [run_i_leavesCode]
  unfold i_leavesCode at h
  simp +decide only [b_i_leavesCode, go_sem, reduceIte, Nat.reduceAdd]
  rcases brc h with ⟨hb, h⟩ | ⟨hb, h⟩
  · refine br_t hb ?_
    obtain rfl := Option.some.inj h
    first | rfl | (simp only [List.length_set, go_sem]; done)
  · refine br_f hb ?_
    obtain ⟨r_, h1, h⟩ := bd h
    refine call_aft (i_isPower_c h1) ?_
    simp +decide only [go_sem, reduceIte, Nat.reduceAdd]
    rcases brc h with ⟨hb, h⟩ | ⟨hb, h⟩
    · refine br_t hb ?_
      obtain rfl := Option.some.inj h
      first | rfl | (simp only [List.length_set, go_sem]; done)
    · refine br_f hb ?_
      obtain ⟨r_2, h1, h⟩ := bd h
      refine call_aft (slices_ContainsFunc_Lstring_string_leavesCode_1_c h1) ?_
      simp +decide only [go_sem, reduceIte, Nat.reduceAdd]
      rcases brc h with ⟨hb, h⟩ | ⟨hb, h⟩
      · refine br_t hb ?_
        obtain rfl := Option.some.inj h
        first | rfl | (simp only [List.length_set, go_sem]; done)
      · refine br_f hb ?_
        obtain rfl := Option.some.inj h
        first | rfl | (simp only [List.length_set, go_sem]; done)
noncomputable def i_leafText (leaf : (List UInt8)) : Option ((List UInt8)) :=
  br (fits ((([0] : List UInt8)).length + leaf.length) 1) (
    some ((([0] : List UInt8)) ++ leaf)) (
    none)
theorem i_leafText_c {leaf : (List UInt8)} {r : (List UInt8)} (h : i_leafText leaf = some r) : Call tab ow 180 [S leaf] [] = some (S r, []) := by
  rw [run_i_leafText]
  unfold i_leafText at h
  simp +decide only [b_i_leafText, go_sem, reduceIte, Nat.reduceAdd]
  obtain ⟨hb, h⟩ := brg h
  refine br_t hb ?_
  obtain rfl := Option.some.inj h
  first | rfl | (simp only [List.length_set, go_sem]; done)
section
theorem i_hashOf_k0 : mkR 2002 [] = rws (eL eU8) [] := rfl
attribute [local go_sem] i_hashOf_k0
noncomputable def i_hashOf (t : (List UInt8)) : Option ((List UInt8)) :=
  br (fits t.length 1) (
    (i_keccak ([t] : List (List UInt8))).bind fun r_ =>
    some r_) (
    none)
theorem i_hashOf_c {t : (List UInt8)} {r : (List UInt8)} (h : i_hashOf t = some r) : Call tab ow 179 [S t] [] = some (S r, []) := by
  rw [run_i_hashOf]
  unfold i_hashOf at h
  simp +decide only [b_i_hashOf, go_sem, reduceIte, Nat.reduceAdd]
  obtain ⟨hb, h⟩ := brg h
  refine br_t hb ?_
  obtain ⟨r_, h1, h⟩ := bd h
  refine call_aft (i_keccak_c h1) ?_
  simp +decide only [go_sem, reduceIte, Nat.reduceAdd]
  obtain rfl := Option.some.inj h
  first | rfl | (simp only [List.length_set, go_sem]; done)
end
noncomputable def i_nodeText (a : (List UInt8)) (b : (List UInt8)) : Option ((List UInt8)) :=
  br (fits ((([1] : List UInt8)).length + a.length) 1) (
    br (fits (((([1] : List UInt8)) ++ a).length + b.length) 1) (
      some (((([1] : List UInt8)) ++ a) ++ b)) (
      none)) (
    none)
theorem i_nodeText_c {a : (List UInt8)} {b : (List UInt8)} {r : (List UInt8)} (h : i_nodeText a b = some r) : Call tab ow 182 [S a, S b] [] = some (S r, []) := by
  rw [run_i_nodeText]
  unfold i_nodeText at h
  simp +decide only [b_i_nodeText, go_sem, reduceIte, Nat.reduceAdd]
  obtain ⟨hb, h⟩ := brg h
  refine br_t hb ?_
  obtain ⟨hb, h⟩ := brg h
  refine br_t hb ?_
  obtain rfl := Option.some.inj h
  first | rfl | (simp only [List.length_set, go_sem]; done)
end Go.AI.Fn

set_option linter.unusedVariables false
set_option linter.unusedSimpArgs false
set_option maxRecDepth 100000
set_option maxHeartbeats 1000000
namespace Go.AI.Fn
section
theorem i_levels_k0 : mkR 2000 [] = rws eS [] := rfl
attribute [local go_sem] i_levels_k0
theorem i_levels_k1 : mkR 6004 [] = rws eS [] := rfl
attribute [local go_sem] i_levels_k1
theorem i_levels_k2 : mkR 8001 [] = rws (eL eS) [] := rfl
attribute [local go_sem] i_levels_k2
theorem i_levels_k3 : mkR 10000 [] = rws eS [] := rfl
attribute [local go_sem] i_levels_k3
theorem i_levels_k4 : mkR 14012 [] = rws eS [] := rfl
attribute [local go_sem] i_levels_k4
theorem i_levels_k5 : mkR 15002 [] = rws (eL eS) [] := rfl
attribute [local go_sem] i_levels_k5
noncomputable def i_levels_1_s (t : List (List UInt8)) (t2 : Int) : (List (List UInt8)) × Int → Option (((List (List UInt8)) × Int) ⊕ (((List (List UInt8)) × Int × Bool)))
  | (l, t3) =>
    br (decide (t3 < t2)) (
      (atL t t3).bind fun x =>
      (i_leafText x).bind fun r_ =>
      (i_hashOf r_).bind fun r_2 =>
      br (fits ((l ++ ([r_2] : List (List UInt8))).length) 16) (
        some (.inl ((l ++ ([r_2] : List (List UInt8))), (IntKind.wrap .i64 (t3 + (1 : Int)))))) (
        none)) (
      some (.inr (l, t3, decide (t3 < t2))))
theorem i_levels_1_l {t : List (List UInt8)} {t2 : Int} {l : List (List UInt8)} {t3 : Int} {e : ((List (List UInt8)) × Int × Bool)} (h : Loop (i_levels_1_s t t2) (l, t3) = some e) : LoopX tab ow (.close [6002, 6003, 6004, 6005]) b_i_levels_3 ⟨[(3, .sl 2000 0 l.length), (10, sl eS t), (11, I t2), (12, I t3)], [(2000, ⟨1, false, rws eS l⟩)]⟩ = some ((.exit 0, ⟨[(3, .sl 2000 0 e.1.length), (10, sl eS t), (11, I t2), (12, I e.2.1), (13, B e.2.2)], [(2000, ⟨1, false, rws eS e.1⟩)]⟩)) := by
  refine loop_runG (S := (List (List UInt8)) × Int) (eS := fun s => ⟨[(3, .sl 2000 0 s.1.length), (10, sl eS t), (11, I t2), (12, I s.2)], [(2000, ⟨1, false, rws eS s.1⟩)]⟩) (eE := fun e => (.exit 0, ⟨[(3, .sl 2000 0 e.1.length), (10, sl eS t), (11, I t2), (12, I e.2.1), (13, B e.2.2)], [(2000, ⟨1, false, rws eS e.1⟩)]⟩)) (fun e => ?_) (fun s o h => ?_) h
  · simp [alt]
  · obtain ⟨l, t3⟩ := s
    simp only [i_levels_1_s] at h
    show Rn tab ow _ _ ⟨[(3, .sl 2000 0 l.length), (10, sl eS t), (11, I t2), (12, I t3)], [(2000, ⟨1, false, rws eS l⟩)]⟩ = _
    simp +decide only [b_i_levels_3, go_sem, reduceIte, Nat.reduceAdd]
    rcases brc h with ⟨hb, h⟩ | ⟨hb, h⟩
    · refine br_t hb ?_
      obtain ⟨x, h1, h⟩ := bd h
      refine bind_some h1 ?_
      obtain ⟨r_, h1, h⟩ := bd h
      refine call_aft (i_leafText_c h1) ?_
      simp +decide only [go_sem, reduceIte, Nat.reduceAdd]
      obtain ⟨r_2, h1, h⟩ := bd h
      refine call_aft (i_hashOf_c h1) ?_
      simp +decide only [go_sem, reduceIte, Nat.reduceAdd]
      obtain ⟨hb, h⟩ := brg h
      refine br_t hb ?_
      obtain rfl := Option.some.inj h
      first | rfl | (simp only [List.length_set, go_sem]; done)
    · refine br_f hb ?_
      obtain rfl := Option.some.inj h
      first | rfl | (simp only [List.length_set, go_sem]; done)
noncomputable def i_levels_3_s (l3 : List (List (List UInt8))) (row2 : List (List UInt8)) : (List (List UInt8)) × Int → Option (((List (List UInt8)) × Int) ⊕ (((List (List UInt8)) × Int × Bool)))
  | (l4, i) =>
    br (decide (i < ((row2.length : Nat) : Int))) (
      (atL row2 i).bind fun x2 =>
      (atL row2 (IntKind.wrap .i64 (i + (1 : Int)))).bind fun x3 =>
      (i_nodeText x2 x3).bind fun r_3 =>
      (i_hashOf r_3).bind fun r_4 =>
      br (fits ((l4 ++ ([r_4] : List (List UInt8))).length) 16) (
        some (.inl ((l4 ++ ([r_4] : List (List UInt8))), (IntKind.wrap .i64 (i + (2 : Int)))))) (
        none)) (
      some (.inr (l4, i, decide (i < ((row2.length : Nat) : Int)))))
theorem i_levels_3_l {l3 : List (List (List UInt8))} {row2 : List (List UInt8)} {l4 : List (List UInt8)} {i : Int} {e : ((List (List UInt8)) × Int × Bool)} (h : Loop (i_levels_3_s l3 row2) (l4, i) = some e) : LoopX tab ow (.close [14010, 14011, 14012, 14013]) b_i_levels_11 ⟨[(3, sl eS row2), (6, .sl 8001 0 l3.length), (7, .sl 10000 0 l4.length), (8, I i)], [(8001, ⟨1, false, rws (eL eS) l3⟩), (10000, ⟨1, false, rws eS l4⟩)]⟩ = some ((.exit 4, ⟨[(3, sl eS row2), (6, .sl 8001 0 l3.length), (7, .sl 10000 0 e.1.length), (8, I e.2.1), (32, B e.2.2)], [(8001, ⟨1, false, rws (eL eS) l3⟩), (10000, ⟨1, false, rws eS e.1⟩)]⟩)) := by
  refine loop_runG (S := (List (List UInt8)) × Int) (eS := fun s => ⟨[(3, sl eS row2), (6, .sl 8001 0 l3.length), (7, .sl 10000 0 s.1.length), (8, I s.2)], [(8001, ⟨1, false, rws (eL eS) l3⟩), (10000, ⟨1, false, rws eS s.1⟩)]⟩) (eE := fun e => (.exit 4, ⟨[(3, sl eS row2), (6, .sl 8001 0 l3.length), (7, .sl 10000 0 e.1.length), (8, I e.2.1), (32, B e.2.2)], [(8001, ⟨1, false, rws (eL eS) l3⟩), (10000, ⟨1, false, rws eS e.1⟩)]⟩)) (fun e => ?_) (fun s o h => ?_) h
  · simp [alt]
  · obtain ⟨l4, i⟩ := s
    simp only [i_levels_3_s] at h
    show Rn tab ow _ _ ⟨[(3, sl eS row2), (6, .sl 8001 0 l3.length), (7, .sl 10000 0 l4.length), (8, I i)], [(8001, ⟨1, false, rws (eL eS) l3⟩), (10000, ⟨1, false, rws eS l4⟩)]⟩ = _
    simp +decide only [b_i_levels_11, go_sem, reduceIte, Nat.reduceAdd]
    rcases brc h with ⟨hb, h⟩ | ⟨hb, h⟩
    · refine br_t hb ?_
      obtain ⟨x2, h1, h⟩ := bd h
      refine bind_some h1 ?_
      obtain ⟨x3, h1, h⟩ := bd h
      refine bind_some h1 ?_
      obtain ⟨r_3, h1, h⟩ := bd h
      refine call_aftD (i_nodeText_c h1) ?_
      simp +decide only [go_sem, reduceIte, Nat.reduceAdd]
      obtain ⟨r_4, h1, h⟩ := bd h
      refine call_aftD (i_hashOf_c h1) ?_
      simp +decide only [go_sem, reduceIte, Nat.reduceAdd]
      obtain ⟨hb, h⟩ := brg h
      refine br_t hb ?_
      obtain rfl := Option.some.inj h
      first | rfl | (simp only [List.length_set, go_sem]; done)
    · refine br_f hb ?_
      obtain rfl := Option.some.inj h
      first | rfl | (simp only [List.length_set, go_sem]; done)
noncomputable def i_levels_2_s : (List (List (List UInt8))) × (List (List UInt8)) → Option (((List (List (List UInt8))) × (List (List UInt8))) ⊕ (((List (List (List UInt8))) × (List (List UInt8)) × Bool)))
  | (l2, row) =>
    br (decide (((row.length : Nat) : Int) > (1 : Int))) (
      (Loop (i_levels_3_s l2 row) (([] : List (List UInt8)), (0 : Int))).bind fun e_2 =>
      br (fits ((l2 ++ ([e_2.1] : List (List (List UInt8)))).length) 24) (
        some (.inl ((l2 ++ ([e_2.1] : List (List (List UInt8)))), e_2.1))) (
        none)) (
      some (.inr (l2, row, decide (((row.length : Nat) : Int) > (1 : Int)))))
theorem i_levels_2_l {l2 : List (List (List UInt8))} {row : List (List UInt8)} {e : ((List (List (List UInt8))) × (List (List UInt8)) × Bool)} (h : Loop (i_levels_2_s) (l2, row) = some e) : LoopX tab ow (.close [10000, 14010, 14011, 14012, 14013, 15002, 15003]) b_i_levels_8 ⟨[(3, sl eS row), (6, .sl 8001 0 l2.length)], [(8001, ⟨1, false, rws (eL eS) l2⟩)]⟩ = some ((.exit 2, ⟨[(3, sl eS e.2.1), (6, .sl 8001 0 e.1.length), (27, B e.2.2)], [(8001, ⟨1, false, rws (eL eS) e.1⟩)]⟩)) := by
  refine loop_runG (S := (List (List (List UInt8))) × (List (List UInt8))) (eS := fun s => ⟨[(3, sl eS s.2), (6, .sl 8001 0 s.1.length)], [(8001, ⟨1, false, rws (eL eS) s.1⟩)]⟩) (eE := fun e => (.exit 2, ⟨[(3, sl eS e.2.1), (6, .sl 8001 0 e.1.length), (27, B e.2.2)], [(8001, ⟨1, false, rws (eL eS) e.1⟩)]⟩)) (fun e => ?_) (fun s o h => ?_) h
  · simp [alt]
  · obtain ⟨l2, row⟩ := s
    simp only [i_levels_2_s] at h
    show Rn tab ow _ _ ⟨[(3, sl eS row), (6, .sl 8001 0 l2.length)], [(8001, ⟨1, false, rws (eL eS) l2⟩)]⟩ = _
    simp +decide only [b_i_levels_8, go_sem, reduceIte, Nat.reduceAdd]
    rcases brc h with ⟨hb, h⟩ | ⟨hb, h⟩
    · refine br_t hb ?_
      obtain ⟨e_2, h1, h⟩ := bd h
      refine goR_of (i_levels_3_l h1) ?_
      simp +decide only [go_sem, reduceIte, Nat.reduceAdd]
      obtain ⟨hb, h⟩ := brg h
      refine br_t hb ?_
      obtain rfl := Option.some.inj h
      first | rfl | (simp only [List.length_set, go_sem]; done)
    · refine br_f hb ?_
      obtain rfl := Option.some.inj h
      first | rfl | (simp only [List.length_set, go_sem]; done)
noncomputable def i_levels (leaves : (List (List UInt8))) : Option ((List (List (List UInt8)))) :=
  (Loop (i_levels_1_s leaves ((leaves.length : Nat) : Int)) (([] : List (List UInt8)), (0 : Int))).bind fun e_ =>
  (Loop (i_levels_2_s) (([e_.1] : List (List (List UInt8))), e_.1)).bind fun e_3 =>
  some e_3.1
theorem i_levels_c {leaves : (List (List UInt8))} {r : (List (List (List UInt8)))} (h : i_levels leaves = some r) : Call tab ow 158 [sl eS leaves] [] = some (sl (eL eS) r, []) := by
  rw [run_i_levels]
  unfold i_levels at h
  simp +decide only [b_i_levels, go_sem, reduceIte, Nat.reduceAdd]
  obtain ⟨e_, h1, h⟩ := bd h
  refine goR_of (i_levels_1_l h1) ?_
  simp +decide only [go_sem, reduceIte, Nat.reduceAdd]
  obtain ⟨e_3, h1, h⟩ := bd h
  refine goR_of (i_levels_2_l h1) ?_
  simp +decide only [go_sem, reduceIte, Nat.reduceAdd]
  obtain rfl := Option.some.inj h
  first | rfl | (simp only [List.length_set, go_sem]; done)
end
noncomputable def i_rootOf (rows : (List (List (List UInt8)))) : Option ((List UInt8)) :=
  (atL rows (IntKind.wrap .i64 (((rows.length : Nat) : Int) - (1 : Int)))).bind fun x =>
  (atL x (0 : Int)).bind fun x2 =>
  some x2
theorem i_rootOf_c {rows : (List (List (List UInt8)))} {r : (List UInt8)} (h : i_rootOf rows = some r) : Call tab ow 157 [sl (eL eS) rows] [] = some (S r, []) := by
  rw [run_i_rootOf]
  unfold i_rootOf at h
  simp +decide only [b_i_rootOf, go_sem, reduceIte, Nat.reduceAdd]
  obtain ⟨x, h1, h⟩ := bd h
  refine bind_some h1 ?_
  obtain ⟨x2, h1, h⟩ := bd h
  refine bind_some h1 ?_
  obtain rfl := Option.some.inj h
  first | rfl | (simp only [List.length_set, go_sem]; done)
noncomputable def i_MerkleRoot (leaves : (List (List UInt8))) : Option ((List UInt8) × Int) :=
  (i_leavesCode leaves).bind fun r_ =>
  br (r_ != (0 : Int)) (
    some ((([] : List UInt8)), r_)) (
    (i_levels leaves).bind fun r_2 =>
    (i_rootOf r_2).bind fun r_3 =>
    some (r_3, (0 : Int)))
theorem i_MerkleRoot_c {leaves : (List (List UInt8))} {r : (List UInt8) × Int} (h : i_MerkleRoot leaves = some r) : Call tab ow 65 [sl eS leaves] [] = some (.tup [S r.1, I r.2], []) := by
  rw [run_i_MerkleRoot]
  unfold i_MerkleRoot at h
  simp +decide only [b_i_MerkleRoot, go_sem, reduceIte, Nat.reduceAdd]
  obtain ⟨r_, h1, h⟩ := bd h
  refine call_aft (i_leavesCode_c h1) ?_
  simp +decide only [go_sem, reduceIte, Nat.reduceAdd]
  rcases brc h with ⟨hb, h⟩ | ⟨hb, h⟩
  · refine br_t hb ?_
    obtain rfl := Option.some.inj h
    first | rfl | (simp only [List.length_set, go_sem]; done)
  · refine br_f hb ?_
    obtain ⟨r_2, h1, h⟩ := bd h
    refine call_aft (i_levels_c h1) ?_
    simp +decide only [go_sem, reduceIte, Nat.reduceAdd]
    obtain ⟨r_3, h1, h⟩ := bd h
    refine call_aft (i_rootOf_c h1) ?_
    simp +decide only [go_sem, reduceIte, Nat.reduceAdd]
    obtain rfl := Option.some.inj h
    first | rfl | (simp only [List.length_set, go_sem]; done)
section
theorem i_pathOf_k0 : mkR 2000 [] = rws eS [] := rfl
attribute [local go_sem] i_pathOf_k0
theorem i_pathOf_k1 : mkR 6006 [] = rws eS [] := rfl
attribute [local go_sem] i_pathOf_k1
noncomputable def i_pathOf_1_s (t : List (List (List UInt8))) (t2 : Int) : (List (List UInt8)) × Int × Int → Option (((List (List UInt8)) × Int × Int) ⊕ (((List (List UInt8)) × Int × Int × Bool)))
  | (l, i2, t3) =>
    br (decide (t3 < t2)) (
      (atL t t3).bind fun x =>
      (atL x (xor64 .i64 i2 (1 : Int))).bind fun x2 =>
      br (fits ((l ++ ([x2] : List (List UInt8))).length) 16) (
        some (.inl ((l ++ ([x2] : List (List UInt8))), (IntKind.wrap .i64 (i2.tdiv (2 : Int))), (IntKind.wrap .i64 (t3 + (1 : Int)))))) (
        none)) (
      some (.inr (l, i2, t3, decide (t3 < t2))))
theorem i_pathOf_1_l {t : List (List (List UInt8))} {t2 : Int} {l : List (List UInt8)} {i2 : Int} {t3 : Int} {e : ((List (List UInt8)) × Int × Int × Bool)} (h : Loop (i_pathOf_1_s t t2) (l, i2, t3) = some e) : LoopX tab ow (.close [6006, 6007]) b_i_pathOf_3 ⟨[(1, I i2), (5, .sl 2000 0 l.length), (13, sl (eL eS) t), (14, I t2), (15, I t3)], [(2000, ⟨1, false, rws eS l⟩)]⟩ = some ((.exit 0, ⟨[(1, I e.2.1), (5, .sl 2000 0 e.1.length), (13, sl (eL eS) t), (14, I t2), (15, I e.2.2.1), (16, B e.2.2.2)], [(2000, ⟨1, false, rws eS e.1⟩)]⟩)) := by
  refine loop_runG (S := (List (List UInt8)) × Int × Int) (eS := fun s => ⟨[(1, I s.2.1), (5, .sl 2000 0 s.1.length), (13, sl (eL eS) t), (14, I t2), (15, I s.2.2)], [(2000, ⟨1, false, rws eS s.1⟩)]⟩) (eE := fun e => (.exit 0, ⟨[(1, I e.2.1), (5, .sl 2000 0 e.1.length), (13, sl (eL eS) t), (14, I t2), (15, I e.2.2.1), (16, B e.2.2.2)], [(2000, ⟨1, false, rws eS e.1⟩)]⟩)) (fun e => ?_) (fun s o h => ?_) h
  · simp [alt]
  · obtain ⟨l, i2, t3⟩ := s
    simp only [i_pathOf_1_s] at h
    show Rn tab ow _ _ ⟨[(1, I i2), (5, .sl 2000 0 l.length), (13, sl (eL eS) t), (14, I t2), (15, I t3)], [(2000, ⟨1, false, rws eS l⟩)]⟩ = _
    simp +decide only [b_i_pathOf_3, go_sem, reduceIte, Nat.reduceAdd]
    rcases brc h with ⟨hb, h⟩ | ⟨hb, h⟩
    · refine br_t hb ?_
      obtain ⟨x, h1, h⟩ := bd h
      refine bind_some h1 ?_
      obtain ⟨x2, h1, h⟩ := bd h
      refine bind_some h1 ?_
      obtain ⟨hb, h⟩ := brg h
      refine br_t hb ?_
      obtain rfl := Option.some.inj h
      first | rfl | (simp only [List.length_set, go_sem]; done)
    · refine br_f hb ?_
      obtain rfl := Option.some.inj h
      first | rfl | (simp only [List.length_set, go_sem]; done)
noncomputable def i_pathOf (rows : (List (List (List UInt8)))) (i : Int) : Option ((List (List UInt8))) :=
  (subL rows (0 : Int) (IntKind.wrap .i64 (((rows.length : Nat) : Int) - (1 : Int)))).bind fun y =>
  (Loop (i_pathOf_1_s y ((y.length : Nat) : Int)) (([] : List (List UInt8)), i, (0 : Int))).bind fun e_ =>
  some e_.1
theorem i_pathOf_c {rows : (List (List (List UInt8)))} {i : Int} {r : (List (List UInt8))} (h : i_pathOf rows i = some r) : Call tab ow 159 [sl (eL eS) rows, I i] [] = some (sl eS r, []) := by
  rw [run_i_pathOf]
  unfold i_pathOf at h
  simp +decide only [b_i_pathOf, go_sem, reduceIte, Nat.reduceAdd]
  obtain ⟨y, h1, h⟩ := bd h
  refine bind_some h1 ?_
  obtain ⟨e_, h1, h⟩ := bd h
  refine goR_of (i_pathOf_1_l h1) ?_
  simp +decide only [go_sem, reduceIte, Nat.reduceAdd]
  obtain rfl := Option.some.inj h
  first | rfl | (simp only [List.length_set, go_sem]; done)
end
noncomputable def i_MerklePath (leaves : (List (List UInt8))) (i : Int) : Option ((List (List UInt8)) × Int) :=
  (i_leavesCode leaves).bind fun r_ =>
  br (r_ != (0 : Int)) (
    some (([] : List (List UInt8)), r_)) (
    (i_in i (0 : Int) (IntKind.wrap .i64 (((leaves.length : Nat) : Int) - (1 : Int)))).bind fun r_2 =>
    br (!r_2) (
      some (([] : List (List UInt8)), (4 : Int))) (
      (i_levels leaves).bind fun r_3 =>
      (i_pathOf r_3 i).bind fun r_4 =>
      some (r_4, (0 : Int))))
theorem i_MerklePath_c {leaves : (List (List UInt8))} {i : Int} {r : (List (List UInt8)) × Int} (h : i_MerklePath leaves i = some r) : Call tab ow 66 [sl eS leaves, I i] [] = some (.tup [sl eS r.1, I r.2], []) := by
  rw [run_i_MerklePath]
  unfold i_MerklePath at h
  simp +decide only [b_i_MerklePath, go_sem, reduceIte, Nat.reduceAdd]
  obtain ⟨r_, h1, h⟩ := bd h
  refine call_aft (i_leavesCode_c h1) ?_
  simp +decide only [go_sem, reduceIte, Nat.reduceAdd]
  rcases brc h with ⟨hb, h⟩ | ⟨hb, h⟩
  · refine br_t hb ?_
    obtain rfl := Option.some.inj h
    first | rfl | (simp only [List.length_set, go_sem]; done)
  · refine br_f hb ?_
    obtain ⟨r_2, h1, h⟩ := bd h
    refine call_aft (i_in_c h1) ?_
    simp +decide only [go_sem, reduceIte, Nat.reduceAdd]
    rcases brc h with ⟨hb, h⟩ | ⟨hb, h⟩
    · refine br_t hb ?_
      obtain rfl := Option.some.inj h
      first | rfl | (simp only [List.length_set, go_sem]; done)
    · refine br_f hb ?_
      obtain ⟨r_3, h1, h⟩ := bd h
      refine call_aft (i_levels_c h1) ?_
      simp +decide only [go_sem, reduceIte, Nat.reduceAdd]
      obtain ⟨r_4, h1, h⟩ := bd h
      refine call_aft (i_pathOf_c h1) ?_
      simp +decide only [go_sem, reduceIte, Nat.reduceAdd]
      obtain rfl := Option.some.inj h
      first | rfl | (simp only [List.length_set, go_sem]; done)
noncomputable def i_isLong (t : (List UInt8)) : Option (Bool) :=
  some (decide (((t.length : Nat) : Int) > (65536 : Int)))
theorem i_isLong_c {t : (List UInt8)} {r : Bool} (h : i_isLong t = some r) : Call tab ow 160 [S t] [] = some (B r, []) := by
  rw [run_i_isLong]
  unfold i_isLong at h
  simp +decide only [b_i_isLong, go_sem, reduceIte, Nat.reduceAdd]
  obtain rfl := Option.some.inj h
  first | rfl | (simp only [List.length_set, go_sem]; done)
noncomputable def i_placeCode (n : Int) (i : Int) : Option (Int) :=
  (i_isPower n (256 : Int)).bind fun r_ =>
  br (!r_) (
    some (8 : Int)) (
    (i_in i (0 : Int) (IntKind.wrap .i64 (n - (1 : Int)))).bind fun r_2 =>
    br (!r_2) (
      some (4 : Int)) (
      some (0 : Int)))
theorem i_placeCode_c {n : Int} {i : Int} {r : Int} (h : i_placeCode n i = some r) : Call tab ow 161 [I n, I i] [] = some (I r, []) := by
  rw [run_i_placeCode]
  unfold i_placeCode at h
  simp +decide only [b_i_placeCode, go_sem, reduceIte, Nat.reduceAdd]
  obtain ⟨r_, h1, h⟩ := bd h
  refine call_aft (i_isPower_c h1) ?_
  simp +decide only [go_sem, reduceIte, Nat.reduceAdd]
  rcases brc h with ⟨hb, h⟩ | ⟨hb, h⟩
  · refine br_t hb ?_
    obtain rfl := Option.some.inj h
    first | rfl | (simp only [List.length_set, go_sem]; done)
  · refine br_f hb ?_
    obtain ⟨r_2, h1, h⟩ := bd h
    refine call_aft (i_in_c h1) ?_
    simp +decide only [go_sem, reduceIte, Nat.reduceAdd]
    rcases brc h with ⟨hb, h⟩ | ⟨hb, h⟩
    · refine br_t hb ?_
      obtain rfl := Option.some.inj h
      first | rfl | (simp only [List.length_set, go_sem]; done)
    · refine br_f hb ?_
      obtain rfl := Option.some.inj h
      first | rfl | (simp only [List.length_set, go_sem]; done)
noncomputable def i_leads_1 (h_ : (List UInt8)) : Option (Bool) :=
  (i_isHash h_).bind fun r_ =>
  some (!r_)
theorem i_leads_1_c {h_ : (List UInt8)} {r : Bool} (h : i_leads_1 h_ = some r) : Call tab ow 244 [S h_] [] = some (B r, []) := by
  rw [run_i_leads_1]
  unfold i_leads_1 at h
  simp +decide only [b_i_leads_1, go_sem, reduceIte, Nat.reduceAdd]
  obtain ⟨r_, h1, h⟩ := bd h
  refine call_aft (i_isHash_c h1) ?_
  simp +decide only [go_sem, reduceIte, Nat.reduceAdd]
  obtain rfl := Option.some.inj h
  first | rfl | (simp only [List.length_set, go_sem]; done)
noncomputable def slices_IndexFunc_Lstring_string_leads_1_1_s (s2 : List (List UInt8)) (t : Int) : Int → Option ((Int) ⊕ (Int ⊕ (Int × Bool)))
  | t2 =>
    br (decide (t2 < t)) (
      (atL s2 t2).bind fun x =>
      (i_leads_1 x).bind fun r_ =>
      br r_ (
        some (.inr (.inl t2))) (
        some (.inl (IntKind.wrap .i64 (t2 + (1 : Int)))))) (
      some (.inr (.inr (t2, decide (t2 < t)))))
theorem slices_IndexFunc_Lstring_string_leads_1_1_l {s2 : List (List UInt8)} {t : Int} {t2 : Int} {e : Int ⊕ (Int × Bool)} (h : Loop (slices_IndexFunc_Lstring_string_leads_1_1_s s2 t) t2 = some e) : LoopX tab ow (.close [5005]) b_slices_IndexFunc_Lstring_string_2 ⟨[(0, sl eS s2), (1, .fn 244 []), (7, I t), (8, I t2)], []⟩ = some ((alt (fun e => ((.ret, ⟨[(4, I e)], []⟩) : AExit × St)) (fun e => (.exit 0, ⟨[(0, sl eS s2), (1, .fn 244 []), (7, I t), (8, I e.1), (9, B e.2)], []⟩))) e) := by
  refine loop_runG (S := Int) (eS := fun s => ⟨[(0, sl eS s2), (1, .fn 244 []), (7, I t), (8, I s)], []⟩) (eE := fun e => (alt (fun e => ((.ret, ⟨[(4, I e)], []⟩) : AExit × St)) (fun e => (.exit 0, ⟨[(0, sl eS s2), (1, .fn 244 []), (7, I t), (8, I e.1), (9, B e.2)], []⟩))) e) (fun e => ?_) (fun t2 o h => ?_) h
  · rcases e with e | e <;> simp [alt]
  · skip
    simp only [slices_IndexFunc_Lstring_string_leads_1_1_s] at h
    show Rn tab ow _ _ ⟨[(0, sl eS s2), (1, .fn 244 []), (7, I t), (8, I t2)], []⟩ = _
    simp +decide only [b_slices_IndexFunc_Lstring_string_2, go_sem, reduceIte, Nat.reduceAdd]
    rcases brc h with ⟨hb, h⟩ | ⟨hb, h⟩
    · refine br_t hb ?_
      obtain ⟨x, h1, h⟩ := bd h
      refine bind_some h1 ?_
      obtain ⟨r_, h1, h⟩ := bd h
      refine call_aft (i_leads_1_c h1) ?_
      simp +decide only [go_sem, reduceIte, Nat.reduceAdd]
      rcases brc h with ⟨hb, h⟩ | ⟨hb, h⟩
      · refine br_t hb ?_
        obtain rfl := Option.some.inj h
        first | rfl | (simp only [List.length_set, go_sem]; done)
      · refine br_f hb ?_
        obtain rfl := Option.some.inj h
        first | rfl | (simp only [List.length_set, go_sem]; done)
    · refine br_f hb ?_
      obtain rfl := Option.some.inj h
      first | rfl | (simp only [List.length_set, go_sem]; done)
noncomputable def slices_IndexFunc_Lstring_string_leads_1 (s : (List (List UInt8))) : Option (Int) :=
  (Loop (slices_IndexFunc_Lstring_string_leads_1_1_s s ((s.length : Nat) : Int)) (0 : Int)).bind (alt (fun e_2 =>
    some e_2) (fun e_3 =>
    some (-1 : Int)))
theorem slices_IndexFunc_Lstring_string_leads_1_c {s : (List (List UInt8))} {r : Int} (h : slices_IndexFunc_Lstring_string_leads_1 s = some r) : Call tab ow 273 [sl eS s, .fn 244 []] [] = some (I r, []) := by
  rw [run_slices_IndexFunc_Lstring_string]
  unfold slices_IndexFunc_Lstring_string_leads_1 at h
  simp +decide only [b_slices_IndexFunc_Lstring_string, go_sem, reduceIte, Nat.reduceAdd]
  obtain ⟨e_, h1, h⟩ := bd h
  refine goR_of (slices_IndexFunc_Lstring_string_leads_1_1_l h1) ?_
  rcases e_ with e_2 | e_3
  · simp +decide only [go_sem, reduceIte, Nat.reduceAdd]
    obtain rfl := Option.some.inj h
    first | rfl | (simp only [List.length_set, go_sem]; done)
  · simp +decide only [go_sem, reduceIte, Nat.reduceAdd]
    obtain rfl := Option.some.inj h
    first | rfl | (simp only [List.length_set, go_sem]; done)
noncomputable def slices_ContainsFunc_Lstring_string_leads_1 (s : (List (List UInt8))) : Option (Bool) :=
  (slices_IndexFunc_Lstring_string_leads_1 s).bind fun r_ =>
  some (decide (r_ ≥ (0 : Int)))
theorem slices_ContainsFunc_Lstring_string_leads_1_c {s : (List (List UInt8))} {r : Bool} (h : slices_ContainsFunc_Lstring_string_leads_1 s = some r) : Call tab ow 242 [sl eS s, .fn 244 []] [] = some (B r, []) := by
  rw [run_slices_ContainsFunc_Lstring_string]
  unfold slices_ContainsFunc_Lstring_string_leads_1 at h
  simp +decide only [b_slices_ContainsFunc_Lstring_string, go_sem, reduceIte, Nat.reduceAdd]
  obtain ⟨r_, h1, h⟩ := bd h
  refine call_aft (slices_IndexFunc_Lstring_string_leads_1_c h1) ?_
  simp +decide only [go_sem, reduceIte, Nat.reduceAdd]
  obtain rfl := Option.some.inj h
  first | rfl | (simp only [List.length_set, go_sem]; done)
section
theorem i_texts_k0 : mkR 2002 [] = rws eS [] := rfl
attribute [local go_sem] i_texts_k0
theorem i_texts_k1 : mkR 9004 [] = rws eS [] := rfl
attribute [local go_sem] i_texts_k1
noncomputable def i_texts_1_s (i2 : Int) (t : List (List UInt8)) (t2 : Int) : (List (List UInt8)) × Int → Option (((List (List UInt8)) × Int) ⊕ (((List (List UInt8)) × Int × Bool)))
  | (l, t3) =>
    br (decide (t3 < t2)) (
      (atL t t3).bind fun x =>
      br (decide (0 ≤ t3)) (
        br (decide (t3.toNat < l.length)) (
          (l[t3.toNat]?).bind fun x2 =>
          (i_hashOf x2).bind fun r_2 =>
          br (decide (0 ≤ t3)) (
            br ((and64 .i64 (shr64 .i64 i2 t3) (1 : Int)) == (1 : Int)) (
              (i_nodeText x r_2).bind fun r_3 =>
              br (fits ((l ++ ([r_3] : List (List UInt8))).length) 16) (
                some (.inl ((l ++ ([r_3] : List (List UInt8))), (IntKind.wrap .i64 (t3 + (1 : Int)))))) (
                none)) (
              (i_nodeText r_2 x).bind fun r_4 =>
              br (fits ((l ++ ([r_4] : List (List UInt8))).length) 16) (
                some (.inl ((l ++ ([r_4] : List (List UInt8))), (IntKind.wrap .i64 (t3 + (1 : Int)))))) (
                none))) (
            none)) (
          none)) (
        none)) (
      some (.inr (l, t3, decide (t3 < t2))))
theorem i_texts_1_l {i2 : Int} {t : List (List UInt8)} {t2 : Int} {l : List (List UInt8)} {t3 : Int} {e : ((List (List UInt8)) × Int × Bool)} (h : Loop (i_texts_1_s i2 t t2) (l, t3) = some e) : LoopX tab ow (.close [6004, 9003, 9004, 9005]) b_i_texts_3 ⟨[(0, I i2), (7, .sl 2002 0 l.length), (14, sl eS t), (15, I t2), (16, I t3)], [(2002, ⟨1, false, rws eS l⟩)]⟩ = some ((.exit 0, ⟨[(0, I i2), (7, .sl 2002 0 e.1.length), (14, sl eS t), (15, I t2), (16, I e.2.1), (17, B e.2.2)], [(2002, ⟨1, false, rws eS e.1⟩)]⟩)) := by
  refine loop_runG (S := (List (List UInt8)) × Int) (eS := fun s => ⟨[(0, I i2), (7, .sl 2002 0 s.1.length), (14, sl eS t), (15, I t2), (16, I s.2)], [(2002, ⟨1, false, rws eS s.1⟩)]⟩) (eE := fun e => (.exit 0, ⟨[(0, I i2), (7, .sl 2002 0 e.1.length), (14, sl eS t), (15, I t2), (16, I e.2.1), (17, B e.2.2)], [(2002, ⟨1, false, rws eS e.1⟩)]⟩)) (fun e => ?_) (fun s o h => ?_) h
  · simp [alt]
  · obtain ⟨l, t3⟩ := s
    simp only [i_texts_1_s] at h
    show Rn tab ow _ _ ⟨[(0, I i2), (7, .sl 2002 0 l.length), (14, sl eS t), (15, I t2), (16, I t3)], [(2002, ⟨1, false, rws eS l⟩)]⟩ = _
    simp +decide only [b_i_texts_3, go_sem, reduceIte, Nat.reduceAdd]
    rcases brc h with ⟨hb, h⟩ | ⟨hb, h⟩
    · refine br_t hb ?_
      obtain ⟨x, h1, h⟩ := bd h
      refine bind_some h1 ?_
      obtain ⟨hb, h⟩ := brg h
      refine br_t hb ?_
      obtain ⟨hb, h⟩ := brg h
      refine br_t hb ?_
      obtain ⟨x2, h1, h⟩ := bd h
      refine bind_some h1 ?_
      obtain ⟨r_2, h1, h⟩ := bd h
      refine call_aft (i_hashOf_c h1) ?_
      simp +decide only [go_sem, reduceIte, Nat.reduceAdd]
      obtain ⟨hb, h⟩ := brg h
      refine br_t hb ?_
      rcases brc h with ⟨hb, h⟩ | ⟨hb, h⟩
      · refine br_t hb ?_
        obtain ⟨r_3, h1, h⟩ := bd h
        refine call_aft (i_nodeText_c h1) ?_
        simp +decide only [go_sem, reduceIte, Nat.reduceAdd]
        obtain ⟨hb, h⟩ := brg h
        refine br_t hb ?_
        obtain rfl := Option.some.inj h
        first | rfl | (simp only [List.length_set, go_sem]; done)
      · refine br_f hb ?_
        obtain ⟨r_4, h1, h⟩ := bd h
        refine call_aft (i_nodeText_c h1) ?_
        simp +decide only [go_sem, reduceIte, Nat.reduceAdd]
        obtain ⟨hb, h⟩ := brg h
        refine br_t hb ?_
        obtain rfl := Option.some.inj h
        first | rfl | (simp only [List.length_set, go_sem]; done)
    · refine br_f hb ?_
      obtain rfl := Option.some.inj h
      first | rfl | (simp only [List.length_set, go_sem]; done)
noncomputable def i_texts (i : Int) (leaf : (List UInt8)) (path : (List (List UInt8))) : Option ((List (List UInt8))) :=
  (i_leafText leaf).bind fun r_ =>
  (Loop (i_texts_1_s i path ((path.length : Nat) : Int)) (([r_] : List (List UInt8)), (0 : Int))).bind fun e_ =>
  some e_.1
theorem i_texts_c {i : Int} {leaf : (List UInt8)} {path : (List (List UInt8))} {r : (List (List UInt8))} (h : i_texts i leaf path = some r) : Call tab ow 163 [I i, S leaf, sl eS path] [] = some (sl eS r, []) := by
  rw [run_i_texts]
  unfold i_texts at h
  simp +decide only [b_i_texts, go_sem, reduceIte, Nat.reduceAdd]
  obtain ⟨r_, h1, h⟩ := bd h
  refine call_aft (i_leafText_c h1) ?_
  simp +decide only [go_sem, reduceIte, Nat.reduceAdd]
  obtain ⟨e_, h1, h⟩ := bd h
  refine goR_of (i_texts_1_l h1) ?_
  simp +decide only [go_sem, reduceIte, Nat.reduceAdd]
  obtain rfl := Option.some.inj h
  first | rfl | (simp only [List.length_set, go_sem]; done)
end
noncomputable def i_leads (root : (List UInt8)) (n : Int) (i : Int) (leaf : (List UInt8)) (path : (List (List UInt8))) : Option (Bool) :=
  br (decide (((leaf.length : Nat) : Int) > (64 : Int))) (
    some false) (
    (i_logOf n).bind fun r_ =>
    br (((path.length : Nat) : Int) != r_) (
      some false) (
      (slices_ContainsFunc_Lstring_string_leads_1 path).bind fun r_2 =>
      br r_2 (
        some false) (
        (i_texts i leaf path).bind fun r_3 =>
        (atL r_3 (IntKind.wrap .i64 (((r_3.length : Nat) : Int) - (1 : Int)))).bind fun x =>
        (i_hashOf x).bind fun r_4 =>
        some (r_4 == root))))
theorem i_leads_c {root : (List UInt8)} {n : Int} {i : Int} {leaf : (List UInt8)} {path : (List (List UInt8))} {r : Bool} (h : i_leads root n i leaf path = some r) : Call tab ow 162 [S root, I n, I i, S leaf, sl eS path] [] = some (B r, []) := by
  rw [run_i_leads]
  unfold i_leads at h
  simp +decide only [b_i_leads, go_sem, reduceIte, Nat.reduceAdd]
  rcases brc h with ⟨hb, h⟩ | ⟨hb, h⟩
  · refine br_t hb ?_
    obtain rfl := Option.some.inj h
    first | rfl | (simp only [List.length_set, go_sem]; done)
  · refine br_f hb ?_
    obtain ⟨r_, h1, h⟩ := bd h
    refine call_aft (i_logOf_c h1) ?_
    simp +decide only [go_sem, reduceIte, Nat.reduceAdd]
    rcases brc h with ⟨hb, h⟩ | ⟨hb, h⟩
    · refine br_t hb ?_
      obtain rfl := Option.some.inj h
      first | rfl | (simp only [List.length_set, go_sem]; done)
    · refine br_f hb ?_
      obtain ⟨r_2, h1, h⟩ := bd h
      refine call_aft (slices_ContainsFunc_Lstring_string_leads_1_c h1) ?_
      simp +decide only [go_sem, reduceIte, Nat.reduceAdd]
      rcases brc h with ⟨hb, h⟩ | ⟨hb, h⟩
      · refine br_t hb ?_
        obtain rfl := Option.some.inj h
        first | rfl | (simp only [List.length_set, go_sem]; done)
      · refine br_f hb ?_
        obtain ⟨r_3, h1, h⟩ := bd h
        refine call_aft (i_texts_c h1) ?_
        simp +decide only [go_sem, reduceIte, Nat.reduceAdd]
        obtain ⟨x, h1, h⟩ := bd h
        refine bind_some h1 ?_
        obtain ⟨r_4, h1, h⟩ := bd h
        refine call_aft (i_hashOf_c h1) ?_
        simp +decide only [go_sem, reduceIte, Nat.reduceAdd]
        obtain rfl := Option.some.inj h
        first | rfl | (simp only [List.length_set, go_sem]; done)
noncomputable def i_ExtractCollision_1_s (t : List (List UInt8)) (t2 : List (List UInt8)) (c : List UInt8) (c2 : List UInt8) : Int → Option ((Int) ⊕ (((List UInt8) × (List UInt8)) ⊕ (Int × Bool)))
  | t3 =>
    br (decide (t3 ≥ (0 : Int))) (
      (atL t t3).bind fun x =>
      (atL t2 t3).bind fun x2 =>
      br (x != x2) (
        (atL t t3).bind fun x3 =>
        (atL t2 t3).bind fun x4 =>
        some (.inr (.inl (x3, x4)))) (
        some (.inl (IntKind.wrap .i64 (t3 - (1 : Int)))))) (
      some (.inr (.inr (t3, decide (t3 ≥ (0 : Int))))))
theorem i_ExtractCollision_1_l {t : List (List UInt8)} {t2 : List (List UInt8)} {c : List UInt8} {c2 : List UInt8} {t3 : Int} {e : ((List UInt8) × (List UInt8)) ⊕ (Int × Bool)} (h : Loop (i_ExtractCollision_1_s t t2 c c2) t3 = some e) : LoopX tab ow (.close []) b_i_ExtractCollision_10 ⟨[(14, .ptr 1000 0 0 1), (17, sl eS t), (18, sl eS t2), (19, I t3)], [(1000, ⟨2, true, [[S c, S c2]]⟩)]⟩ = some ((alt (fun e => ((.ret, ⟨[(14, .ptr 1000 0 0 1), (15, I (0 : Int))], [(1000, ⟨2, true, [[S e.1, S e.2]]⟩)]⟩) : AExit × St)) (fun e => (.exit 0, ⟨[(14, .ptr 1000 0 0 1), (17, sl eS t), (18, sl eS t2), (19, I e.1), (77, B e.2)], [(1000, ⟨2, true, [[S c, S c2]]⟩)]⟩))) e) := by
  refine loop_runG (S := Int) (eS := fun s => ⟨[(14, .ptr 1000 0 0 1), (17, sl eS t), (18, sl eS t2), (19, I s)], [(1000, ⟨2, true, [[S c, S c2]]⟩)]⟩) (eE := fun e => (alt (fun e => ((.ret, ⟨[(14, .ptr 1000 0 0 1), (15, I (0 : Int))], [(1000, ⟨2, true, [[S e.1, S e.2]]⟩)]⟩) : AExit × St)) (fun e => (.exit 0, ⟨[(14, .ptr 1000 0 0 1), (17, sl eS t), (18, sl eS t2), (19, I e.1), (77, B e.2)], [(1000, ⟨2, true, [[S c, S c2]]⟩)]⟩))) e) (fun e => ?_) (fun t3 o h => ?_) h
  · rcases e with e | e <;> simp [alt]
  · skip
    simp only [i_ExtractCollision_1_s] at h
    show Rn tab ow _ _ ⟨[(14, .ptr 1000 0 0 1), (17, sl eS t), (18, sl eS t2), (19, I t3)], [(1000, ⟨2, true, [[S c, S c2]]⟩)]⟩ = _
    simp +decide only [b_i_ExtractCollision_10, go_sem, reduceIte, Nat.reduceAdd]
    rcases brc h with ⟨hb, h⟩ | ⟨hb, h⟩
    · refine br_t hb ?_
      obtain ⟨x, h1, h⟩ := bd h
      refine bind_some h1 ?_
      obtain ⟨x2, h1, h⟩ := bd h
      refine bind_some h1 ?_
      rcases brc h with ⟨hb, h⟩ | ⟨hb, h⟩
      · refine br_t hb ?_
        obtain ⟨x3, h1, h⟩ := bd h
        refine bind_some h1 ?_
        obtain ⟨x4, h1, h⟩ := bd h
        refine bind_some h1 ?_
        obtain rfl := Option.some.inj h
        first | rfl | (simp only [List.length_set, go_sem]; done)
      · refine br_f hb ?_
        obtain rfl := Option.some.inj h
        first | rfl | (simp only [List.length_set, go_sem]; done)
    · refine br_f hb ?_
      obtain rfl := Option.some.inj h
      first | rfl | (simp only [List.length_set, go_sem]; done)
noncomputable def i_ExtractCollision (ListtoArray : (List UInt8)) (a : Int) (a2 : Int) (a3 : (List UInt8)) (a4 : (List (List UInt8))) (a5 : (List UInt8)) (a6 : (List (List UInt8))) : Option (Collision × Int) :=
  (i_isLong ListtoArray).bind fun r_ =>
  br r_ (
    some ((Collision.mk (([] : List UInt8)) (([] : List UInt8))), (2 : Int))) (
    (i_isLong a3).bind fun r_2 =>
    br r_2 (
      some ((Collision.mk (([] : List UInt8)) (([] : List UInt8))), (2 : Int))) (
      (i_isLong a5).bind fun r_3 =>
      br r_3 (
        some ((Collision.mk (([] : List UInt8)) (([] : List UInt8))), (2 : Int))) (
        br (decide (((a4.length : Nat) : Int) > (4096 : Int))) (
          some ((Collision.mk (([] : List UInt8)) (([] : List UInt8))), (2 : Int))) (
          br (decide (((a6.length : Nat) : Int) > (4096 : Int))) (
            some ((Collision.mk (([] : List UInt8)) (([] : List UInt8))), (2 : Int))) (
            (i_placeCode a a2).bind fun r_4 =>
            br (r_4 != (0 : Int)) (
              some ((Collision.mk (([] : List UInt8)) (([] : List UInt8))), r_4)) (
              (i_leads ListtoArray a a2 a3 a4).bind fun r_5 =>
              br (!r_5) (
                some ((Collision.mk (([] : List UInt8)) (([] : List UInt8))), (9 : Int))) (
                (i_leads ListtoArray a a2 a5 a6).bind fun r_6 =>
                br (!r_6) (
                  some ((Collision.mk (([] : List UInt8)) (([] : List UInt8))), (9 : Int))) (
                  (i_texts a2 a3 a4).bind fun r_7 =>
                  (i_texts a2 a5 a6).bind fun r_8 =>
                  (Loop (i_ExtractCollision_1_s r_7 r_8 (([] : List UInt8)) (([] : List UInt8))) (IntKind.wrap .i64 (((r_7.length : Nat) : Int) - (1 : Int)))).bind (alt (fun e_2 =>
                    some ((Collision.mk e_2.1 e_2.2), (0 : Int))) (fun e_3 =>
                    some ((Collision.mk (([] : List UInt8)) (([] : List UInt8))), (5 : Int))))))))))))
theorem i_ExtractCollision_c {ListtoArray : (List UInt8)} {a : Int} {a2 : Int} {a3 : (List UInt8)} {a4 : (List (List UInt8))} {a5 : (List UInt8)} {a6 : (List (List UInt8))} {r : Collision × Int} (h : i_ExtractCollision ListtoArray a a2 a3 a4 a5 a6 = some r) : Call tab ow 67 [S ListtoArray, I a, I a2, S a3, sl eS a4, S a5, sl eS a6] [] = some (.tup [.agg [S r.1.A, S r.1.B], I r.2], []) := by
  rw [run_i_ExtractCollision]
  unfold i_ExtractCollision at h
  simp +decide only [b_i_ExtractCollision, go_sem, reduceIte, Nat.reduceAdd]
  obtain ⟨r_, h1, h⟩ := bd h
  refine call_aft (i_isLong_c h1) ?_
  simp +decide only [go_sem, reduceIte, Nat.reduceAdd]
  rcases brc h with ⟨hb, h⟩ | ⟨hb, h⟩
  · refine br_t hb ?_
    obtain rfl := Option.some.inj h
    first | rfl | (simp only [List.length_set, go_sem]; done)
  · refine br_f hb ?_
    obtain ⟨r_2, h1, h⟩ := bd h
    refine call_aft (i_isLong_c h1) ?_
    simp +decide only [go_sem, reduceIte, Nat.reduceAdd]
    rcases brc h with ⟨hb, h⟩ | ⟨hb, h⟩
    · refine br_t hb ?_
      obtain rfl := Option.some.inj h
      first | rfl | (simp only [List.length_set, go_sem]; done)
    · refine br_f hb ?_
      obtain ⟨r_3, h1, h⟩ := bd h
      refine call_aft (i_isLong_c h1) ?_
      simp +decide only [go_sem, reduceIte, Nat.reduceAdd]
      rcases brc h with ⟨hb, h⟩ | ⟨hb, h⟩
      · refine br_t hb ?_
        obtain rfl := Option.some.inj h
        first | rfl | (simp only [List.length_set, go_sem]; done)
      · refine br_f hb ?_
        rcases brc h with ⟨hb, h⟩ | ⟨hb, h⟩
        · refine br_t hb ?_
          obtain rfl := Option.some.inj h
          first | rfl | (simp only [List.length_set, go_sem]; done)
        · refine br_f hb ?_
          rcases brc h with ⟨hb, h⟩ | ⟨hb, h⟩
          · refine br_t hb ?_
            obtain rfl := Option.some.inj h
            first | rfl | (simp only [List.length_set, go_sem]; done)
          · refine br_f hb ?_
            obtain ⟨r_4, h1, h⟩ := bd h
            refine call_aft (i_placeCode_c h1) ?_
            simp +decide only [go_sem, reduceIte, Nat.reduceAdd]
            rcases brc h with ⟨hb, h⟩ | ⟨hb, h⟩
            · refine br_t hb ?_
              obtain rfl := Option.some.inj h
              first | rfl | (simp only [List.length_set, go_sem]; done)
            · refine br_f hb ?_
              obtain ⟨r_5, h1, h⟩ := bd h
              refine call_aft (i_leads_c h1) ?_
              simp +decide only [go_sem, reduceIte, Nat.reduceAdd]
              rcases brc h with ⟨hb, h⟩ | ⟨hb, h⟩
              · refine br_t hb ?_
                obtain rfl := Option.some.inj h
                first | rfl | (simp only [List.length_set, go_sem]; done)
              · refine br_f hb ?_
                obtain ⟨r_6, h1, h⟩ := bd h
                refine call_aft (i_leads_c h1) ?_
                simp +decide only [go_sem, reduceIte, Nat.reduceAdd]
                rcases brc h with ⟨hb, h⟩ | ⟨hb, h⟩
                · refine br_t hb ?_
                  obtain rfl := Option.some.inj h
                  first | rfl | (simp only [List.length_set, go_sem]; done)
                · refine br_f hb ?_
                  obtain ⟨r_7, h1, h⟩ := bd h
                  refine call_aft (i_texts_c h1) ?_
                  simp +decide only [go_sem, reduceIte, Nat.reduceAdd]
                  obtain ⟨r_8, h1, h⟩ := bd h
                  refine call_aft (i_texts_c h1) ?_
                  simp +decide only [go_sem, reduceIte, Nat.reduceAdd]
                  obtain ⟨e_, h1, h⟩ := bd h
                  refine goR_of (i_ExtractCollision_1_l h1) ?_
                  rcases e_ with e_2 | e_3
                  · simp +decide only [go_sem, reduceIte, Nat.reduceAdd]
                    obtain rfl := Option.some.inj h
                    first | rfl | (simp only [List.length_set, go_sem]; done)
                  · simp +decide only [go_sem, reduceIte, Nat.reduceAdd]
                    obtain rfl := Option.some.inj h
                    first | rfl | (simp only [List.length_set, go_sem]; done)
noncomputable def s_BytesOf (code : (List UInt8)) (n : Int) : Option ((List UInt8)) :=
  (s_l00Source code).bind fun r_ =>
  (s_l00Src_bytes n r_).bind fun r_2 =>
  some r_2.1
theorem s_BytesOf_c {code : (List UInt8)} {n : Int} {r : (List UInt8)} (h : s_BytesOf code n = some r) : Call tab ow 68 [sl eU8 code, I n] [] = some (sl eU8 r, []) := by
  rw [run_s_BytesOf]
  unfold s_BytesOf at h
  simp +decide only [b_s_BytesOf, go_sem, reduceIte, Nat.reduceAdd]
  obtain ⟨r_, h1, h⟩ := bd h
  refine call_aft (s_l00Source_c h1) ?_
  simp +decide only [go_sem, reduceIte, Nat.reduceAdd]
  obtain ⟨r_2, h1, h⟩ := bd h
  refine call_aft (s_l00Src_bytes_c h1) ?_
  simp +decide only [go_sem, reduceIte, Nat.reduceAdd]
  obtain rfl := Option.some.inj h
  first | rfl | (simp only [List.length_set, go_sem]; done)
noncomputable def s_l04Ask (root : (List UInt8)) (n : Int) (i : Int) (leaf : (List UInt8)) (path : (List (List UInt8))) : Option (Int) :=
  br (decide (((root.length : Nat) : Int) > (65536 : Int))) (
    some (2 : Int)) (
    br (decide (((leaf.length : Nat) : Int) > (65536 : Int))) (
      some (2 : Int)) (
      br (decide (((path.length : Nat) : Int) > (4096 : Int))) (
        some (2 : Int)) (
        (s_l04Power n (256 : Int)).bind fun r_ =>
        br (!r_) (
          some (8 : Int)) (
          (s_l01In i (0 : Int) (IntKind.wrap .i64 (n - (1 : Int)))).bind fun r_2 =>
          br (!r_2) (
            some (4 : Int)) (
            some (0 : Int))))))
theorem s_l04Ask_c {root : (List UInt8)} {n : Int} {i : Int} {leaf : (List UInt8)} {path : (List (List UInt8))} {r : Int} (h : s_l04Ask root n i leaf path = some r) : Call tab ow 165 [S root, I n, I i, S leaf, sl eS path] [] = some (I r, []) := by
  rw [run_s_l04Ask]
  unfold s_l04Ask at h
  simp +decide only [b_s_l04Ask, go_sem, reduceIte, Nat.reduceAdd]
  rcases brc h with ⟨hb, h⟩ | ⟨hb, h⟩
  · refine br_t hb ?_
    obtain rfl := Option.some.inj h
    first | rfl | (simp only [List.length_set, go_sem]; done)
  · refine br_f hb ?_
    rcases brc h with ⟨hb, h⟩ | ⟨hb, h⟩
    · refine br_t hb ?_
      obtain rfl := Option.some.inj h
      first | rfl | (simp only [List.length_set, go_sem]; done)
    · refine br_f hb ?_
      rcases brc h with ⟨hb, h⟩ | ⟨hb, h⟩
      · refine br_t hb ?_
        obtain rfl := Option.some.inj h
        first | rfl | (simp only [List.length_set, go_sem]; done)
      · refine br_f hb ?_
        obtain ⟨r_, h1, h⟩ := bd h
        refine call_aft (s_l04Power_c h1) ?_
        simp +decide only [go_sem, reduceIte, Nat.reduceAdd]
        rcases brc h with ⟨hb, h⟩ | ⟨hb, h⟩
        · refine br_t hb ?_
          obtain rfl := Option.some.inj h
          first | rfl | (simp only [List.length_set, go_sem]; done)
        · refine br_f hb ?_
          obtain ⟨r_2, h1, h⟩ := bd h
          refine call_aft (s_l01In_c h1) ?_
          simp +decide only [go_sem, reduceIte, Nat.reduceAdd]
          rcases brc h with ⟨hb, h⟩ | ⟨hb, h⟩
          · refine br_t hb ?_
            obtain rfl := Option.some.inj h
            first | rfl | (simp only [List.length_set, go_sem]; done)
          · refine br_f hb ?_
            obtain rfl := Option.some.inj h
            first | rfl | (simp only [List.length_set, go_sem]; done)
noncomputable def s_l04Leaf (t : (List UInt8)) : Option ((List UInt8)) :=
  br (fits ((([0] : List UInt8)).length + t.length) 1) (
    (s_l03Hash ((([0] : List UInt8)) ++ t)).bind fun r_ =>
    some r_) (
    none)
theorem s_l04Leaf_c {t : (List UInt8)} {r : (List UInt8)} (h : s_l04Leaf t = some r) : Call tab ow 246 [S t] [] = some (S r, []) := by
  rw [run_s_l04Leaf]
  unfold s_l04Leaf at h
  simp +decide only [b_s_l04Leaf, go_sem, reduceIte, Nat.reduceAdd]
  obtain ⟨hb, h⟩ := brg h
  refine br_t hb ?_
  obtain ⟨r_, h1, h⟩ := bd h
  refine call_aft (s_l03Hash_c h1) ?_
  simp +decide only [go_sem, reduceIte, Nat.reduceAdd]
  obtain rfl := Option.some.inj h
  first | rfl | (simp only [List.length_set, go_sem]; done)
section
theorem s_l04Up_k0 : mkR 2002 [] = rws eS [] := rfl
attribute [local go_sem] s_l04Up_k0
theorem s_l04Up_k1 : mkR 10002 [] = rws eS [] := rfl
attribute [local go_sem] s_l04Up_k1
noncomputable def s_l04Up_1_s (path2 : List (List UInt8)) : (List (List UInt8)) × Int × (List UInt8) × Int → Option (((List (List UInt8)) × Int × (List UInt8) × Int) ⊕ (((List (List UInt8)) × Int × (List UInt8) × Int × Bool)))
  | (l, i2, h_, k) =>
    br (decide (k < ((path2.length : Nat) : Int))) (
      br (fits ((([1] : List UInt8)).length + h_.length) 1) (
        (atL path2 k).bind fun x =>
        br (fits (((([1] : List UInt8)) ++ h_).length + x.length) 1) (
          br ((i2.tmod (2 : Int)) == (1 : Int)) (
            (atL path2 k).bind fun x2 =>
            br (fits ((([1] : List UInt8)).length + x2.length) 1) (
              br (fits (((([1] : List UInt8)) ++ x2).length + h_.length) 1) (
                br (fits ((l ++ ([(((([1] : List UInt8)) ++ x2) ++ h_)] : List (List UInt8))).length) 16) (
                  (s_l03Hash (((([1] : List UInt8)) ++ x2) ++ h_)).bind fun r_2 =>
                  some (.inl ((l ++ ([(((([1] : List UInt8)) ++ x2) ++ h_)] : List (List UInt8))), (IntKind.wrap .i64 (i2.tdiv (2 : Int))), r_2, (IntKind.wrap .i64 (k + (1 : Int)))))) (
                  none)) (
                none)) (
              none)) (
            br (fits ((l ++ ([(((([1] : List UInt8)) ++ h_) ++ x)] : List (List UInt8))).length) 16) (
              (s_l03Hash (((([1] : List UInt8)) ++ h_) ++ x)).bind fun r_3 =>
              some (.inl ((l ++ ([(((([1] : List UInt8)) ++ h_) ++ x)] : List (List UInt8))), (IntKind.wrap .i64 (i2.tdiv (2 : Int))), r_3, (IntKind.wrap .i64 (k + (1 : Int)))))) (
              none))) (
          none)) (
        none)) (
      some (.inr (l, i2, h_, k, decide (k < ((path2.length : Nat) : Int)))))
theorem s_l04Up_1_l {path2 : List (List UInt8)} {l : List (List UInt8)} {i2 : Int} {h_ : List UInt8} {k : Int} {e : ((List (List UInt8)) × Int × (List UInt8) × Int × Bool)} (h : Loop (s_l04Up_1_s path2) (l, i2, h_, k) = some e) : LoopX tab ow (.close [10002, 10003, 11001]) b_s_l04Up_4 ⟨[(0, I i2), (2, sl eS path2), (8, .sl 2002 0 l.length), (9, S h_), (10, I k)], [(2002, ⟨1, false, rws eS l⟩)]⟩ = some ((.exit 0, ⟨[(0, I e.2.1), (2, sl eS path2), (8, .sl 2002 0 e.1.length), (9, S e.2.2.1), (10, I e.2.2.2.1), (20, B e.2.2.2.2)], [(2002, ⟨1, false, rws eS e.1⟩)]⟩)) := by
  refine loop_runG (S := (List (List UInt8)) × Int × (List UInt8) × Int) (eS := fun s => ⟨[(0, I s.2.1), (2, sl eS path2), (8, .sl 2002 0 s.1.length), (9, S s.2.2.1), (10, I s.2.2.2)], [(2002, ⟨1, false, rws eS s.1⟩)]⟩) (eE := fun e => (.exit 0, ⟨[(0, I e.2.1), (2, sl eS path2), (8, .sl 2002 0 e.1.length), (9, S e.2.2.1), (10, I e.2.2.2.1), (20, B e.2.2.2.2)], [(2002, ⟨1, false, rws eS e.1⟩)]⟩)) (fun e => ?_) (fun s o h => ?_) h
  · simp [alt]
  · obtain ⟨l, i2, h_, k⟩ := s
    simp only [s_l04Up_1_s] at h
    show Rn tab ow _ _ ⟨[(0, I i2), (2, sl eS path2), (8, .sl 2002 0 l.length), (9, S h_), (10, I k)], [(2002, ⟨1, false, rws eS l⟩)]⟩ = _
    simp +decide only [b_s_l04Up_4, go_sem, reduceIte, Nat.reduceAdd]
    rcases brc h with ⟨hb, h⟩ | ⟨hb, h⟩
    · refine br_t hb ?_
      obtain ⟨hb, h⟩ := brg h
      refine br_t hb ?_
      obtain ⟨x, h1, h⟩ := bd h
      refine bind_some h1 ?_
      obtain ⟨hb, h⟩ := brg h
      refine br_t hb ?_
      rcases brc h with ⟨hb, h⟩ | ⟨hb, h⟩
      · refine br_t hb ?_
        obtain ⟨x2, h1, h⟩ := bd h
        refine bind_some h1 ?_
        obtain ⟨hb, h⟩ := brg h
        refine br_t hb ?_
        obtain ⟨hb, h⟩ := brg h
        refine br_t hb ?_
        obtain ⟨hb, h⟩ := brg h
        refine br_t hb ?_
        obtain ⟨r_2, h1, h⟩ := bd h
        refine call_aft (s_l03Hash_c h1) ?_
        simp +decide only [go_sem, reduceIte, Nat.reduceAdd]
        obtain rfl := Option.some.inj h
        first | rfl | (simp only [List.length_set, go_sem]; done)
      · refine br_f hb ?_
        obtain ⟨hb, h⟩ := brg h
        refine br_t hb ?_
        obtain ⟨r_3, h1, h⟩ := bd h
        refine call_aft (s_l03Hash_c h1) ?_
        simp +decide only [go_sem, reduceIte, Nat.reduceAdd]
        obtain rfl := Option.some.inj h
        first | rfl | (simp only [List.length_set, go_sem]; done)
    · refine br_f hb ?_
      obtain rfl := Option.some.inj h
      first | rfl | (simp only [List.length_set, go_sem]; done)
noncomputable def s_l04Up (i : Int) (leaf : (List UInt8)) (path : (List (List UInt8))) : Option ((List (List UInt8)) × (List UInt8)) :=
  br (fits ((([0] : List UInt8)).length + leaf.length) 1) (
    (s_l04Leaf leaf).bind fun r_ =>
    (Loop (s_l04Up_1_s path) (([((([0] : List UInt8)) ++ leaf)] : List (List UInt8)), i, r_, (0 : Int))).bind fun e_ =>
    some (e_.1, e_.2.2.1)) (
    none)
theorem s_l04Up_c {i : Int} {leaf : (List UInt8)} {path : (List (List UInt8))} {r : (List (List UInt8)) × (List UInt8)} (h : s_l04Up i leaf path = some r) : Call tab ow 167 [I i, S leaf, sl eS path] [] = some (.tup [sl eS r.1, S r.2], []) := by
  rw [run_s_l04Up]
  unfold s_l04Up at h
  simp +decide only [b_s_l04Up, go_sem, reduceIte, Nat.reduceAdd]
  obtain ⟨hb, h⟩ := brg h
  refine br_t hb ?_
  obtain ⟨r_, h1, h⟩ := bd h
  refine call_aft (s_l04Leaf_c h1) ?_
  simp +decide only [go_sem, reduceIte, Nat.reduceAdd]
  obtain ⟨e_, h1, h⟩ := bd h
  refine goR_of (s_l04Up_1_l h1) ?_
  simp +decide only [go_sem, reduceIte, Nat.reduceAdd]
  obtain rfl := Option.some.inj h
  first | rfl | (simp only [List.length_set, go_sem]; done)
end
noncomputable def s_l04Check_1_s (root2 : List UInt8) (i2 : Int) (leaf2 : List UInt8) (path2 : List (List UInt8)) : Int → Option ((Int) ⊕ (Unit ⊕ (Int × Bool)))
  | k =>
    br (decide (k < ((path2.length : Nat) : Int))) (
      (atL path2 k).bind fun x =>
      br (((x.length : Nat) : Int) != (32 : Int)) (
        some (.inr (.inl ()))) (
        some (.inl (IntKind.wrap .i64 (k + (1 : Int)))))) (
      some (.inr (.inr (k, decide (k < ((path2.length : Nat) : Int))))))
theorem s_l04Check_1_l {root2 : List UInt8} {i2 : Int} {leaf2 : List UInt8} {path2 : List (List UInt8)} {k : Int} {e : Unit ⊕ (Int × Bool)} (h : Loop (s_l04Check_1_s root2 i2 leaf2 path2) k = some e) : LoopX tab ow (.close []) b_s_l04Check_4 ⟨[(0, S root2), (2, I i2), (3, S leaf2), (4, sl eS path2), (11, I k)], []⟩ = some ((alt (fun e => ((.ret, ⟨[(10, B false)], []⟩) : AExit × St)) (fun e => (.exit 0, ⟨[(0, S root2), (2, I i2), (3, S leaf2), (4, sl eS path2), (11, I e.1), (29, B e.2)], []⟩))) e) := by
  refine loop_runG (S := Int) (eS := fun s => ⟨[(0, S root2), (2, I i2), (3, S leaf2), (4, sl eS path2), (11, I s)], []⟩) (eE := fun e => (alt (fun e => ((.ret, ⟨[(10, B false)], []⟩) : AExit × St)) (fun e => (.exit 0, ⟨[(0, S root2), (2, I i2), (3, S leaf2), (4, sl eS path2), (11, I e.1), (29, B e.2)], []⟩))) e) (fun e => ?_) (fun k o h => ?_) h
  · rcases e with e | e <;> simp [alt]
  · skip
    simp only [s_l04Check_1_s] at h
    show Rn tab ow _ _ ⟨[(0, S root2), (2, I i2), (3, S leaf2), (4, sl eS path2), (11, I k)], []⟩ = _
    simp +decide only [b_s_l04Check_4, go_sem, reduceIte, Nat.reduceAdd]
    rcases brc h with ⟨hb, h⟩ | ⟨hb, h⟩
    · refine br_t hb ?_
      obtain ⟨x, h1, h⟩ := bd h
      refine bind_some h1 ?_
      rcases brc h with ⟨hb, h⟩ | ⟨hb, h⟩
      · refine br_t hb ?_
        obtain rfl := Option.some.inj h
        first | rfl | (simp only [List.length_set, go_sem]; done)
      · refine br_f hb ?_
        obtain rfl := Option.some.inj h
        first | rfl | (simp only [List.length_set, go_sem]; done)
    · refine br_f hb ?_
      obtain rfl := Option.some.inj h
      first | rfl | (simp only [List.length_set, go_sem]; done)
noncomputable def s_l04Check (root : (List UInt8)) (n : Int) (i : Int) (leaf : (List UInt8)) (path : (List (List UInt8))) : Option (Bool) :=
  br (decide (((leaf.length : Nat) : Int) > (64 : Int))) (
    some false) (
    br (decide (0 ≤ (IntKind.wrap .u64 (mn (20 : Int) ((path.length : Nat) : Int))))) (
      br (n != (shl64 .i64 (1 : Int) (IntKind.wrap .u64 (mn (20 : Int) ((path.length : Nat) : Int))))) (
        some false) (
        (Loop (s_l04Check_1_s root i leaf path) (0 : Int)).bind (alt (fun e_2 =>
          some false) (fun e_3 =>
          (s_l04Up i leaf path).bind fun r_ =>
          some (r_.2 == root))))) (
      none))
theorem s_l04Check_c {root : (List UInt8)} {n : Int} {i : Int} {leaf : (List UInt8)} {path : (List (List UInt8))} {r : Bool} (h : s_l04Check root n i leaf path = some r) : Call tab ow 166 [S root, I n, I i, S leaf, sl eS path] [] = some (B r, []) := by
  rw [run_s_l04Check]
  unfold s_l04Check at h
  simp +decide only [b_s_l04Check, go_sem, reduceIte, Nat.reduceAdd]
  rcases brc h with ⟨hb, h⟩ | ⟨hb, h⟩
  · refine br_t hb ?_
    obtain rfl := Option.some.inj h
    first | rfl | (simp only [List.length_set, go_sem]; done)
  · refine br_f hb ?_
    obtain ⟨hb, h⟩ := brg h
    refine br_t hb ?_
    rcases brc h with ⟨hb, h⟩ | ⟨hb, h⟩
    · refine br_t hb ?_
      obtain rfl := Option.some.inj h
      first | rfl | (simp only [List.length_set, go_sem]; done)
    · refine br_f hb ?_
      obtain ⟨e_, h1, h⟩ := bd h
      refine goR_of (s_l04Check_1_l h1) ?_
      rcases e_ with e_2 | e_3
      · simp +decide only [go_sem, reduceIte, Nat.reduceAdd]
        obtain rfl := Option.some.inj h
        first | rfl | (simp only [List.length_set, go_sem]; done)
      · simp +decide only [go_sem, reduceIte, Nat.reduceAdd]
        obtain ⟨r_, h1, h⟩ := bd h
        refine call_aft (s_l04Up_c h1) ?_
        simp +decide only [go_sem, reduceIte, Nat.reduceAdd]
        obtain rfl := Option.some.inj h
        first | rfl | (simp only [List.length_set, go_sem]; done)
end Go.AI.Fn

set_option linter.unusedVariables false
set_option linter.unusedSimpArgs false
set_option maxRecDepth 100000
set_option maxHeartbeats 1000000
namespace Go.AI.Fn
noncomputable def s_ExtractCollision_1_s (t : List (List UInt8)) (t2 : List (List UInt8)) (c : List UInt8) (c2 : List UInt8) : Int → Option ((Int) ⊕ (((List UInt8) × (List UInt8)) ⊕ (Int × Bool)))
  | t3 =>
    br (decide (t3 ≥ (0 : Int))) (
      (atL t t3).bind fun x =>
      (atL t2 t3).bind fun x2 =>
      br (x != x2) (
        (atL t t3).bind fun x3 =>
        (atL t2 t3).bind fun x4 =>
        some (.inr (.inl (x3, x4)))) (
        some (.inl (IntKind.wrap .i64 (t3 - (1 : Int)))))) (
      some (.inr (.inr (t3, decide (t3 ≥ (0 : Int))))))
theorem s_ExtractCollision_1_l {t : List (List UInt8)} {t2 : List (List UInt8)} {c : List UInt8} {c2 : List UInt8} {t3 : Int} {e : ((List UInt8) × (List UInt8)) ⊕ (Int × Bool)} (h : Loop (s_ExtractCollision_1_s t t2 c c2) t3 = some e) : LoopX tab ow (.close []) b_s_ExtractCollision_14 ⟨[(14, .ptr 1000 0 0 1), (18, sl eS t), (20, sl eS t2), (22, I t3)], [(1000, ⟨2, true, [[S c, S c2]]⟩)]⟩ = some ((alt (fun e => ((.ret, ⟨[(14, .ptr 1000 0 0 1), (15, I (0 : Int))], [(1000, ⟨2, true, [[S e.1, S e.2]]⟩)]⟩) : AExit × St)) (fun e => (.exit 0, ⟨[(14, .ptr 1000 0 0 1), (18, sl eS t), (20, sl eS t2), (22, I e.1), (102, B e.2)], [(1000, ⟨2, true, [[S c, S c2]]⟩)]⟩))) e) := by
  refine loop_runG (S := Int) (eS := fun s => ⟨[(14, .ptr 1000 0 0 1), (18, sl eS t), (20, sl eS t2), (22, I s)], [(1000, ⟨2, true, [[S c, S c2]]⟩)]⟩) (eE := fun e => (alt (fun e => ((.ret, ⟨[(14, .ptr 1000 0 0 1), (15, I (0 : Int))], [(1000, ⟨2, true, [[S e.1, S e.2]]⟩)]⟩) : AExit × St)) (fun e => (.exit 0, ⟨[(14, .ptr 1000 0 0 1), (18, sl eS t), (20, sl eS t2), (22, I e.1), (102, B e.2)], [(1000, ⟨2, true, [[S c, S c2]]⟩)]⟩))) e) (fun e => ?_) (fun t3 o h => ?_) h
  · rcases e with e | e <;> simp [alt]
  · skip
    simp only [s_ExtractCollision_1_s] at h
    show Rn tab ow _ _ ⟨[(14, .ptr 1000 0 0 1), (18, sl eS t), (20, sl eS t2), (22, I t3)], [(1000, ⟨2, true, [[S c, S c2]]⟩)]⟩ = _
    simp +decide only [b_s_ExtractCollision_14, go_sem, reduceIte, Nat.reduceAdd]
    rcases brc h with ⟨hb, h⟩ | ⟨hb, h⟩
    · refine br_t hb ?_
      obtain ⟨x, h1, h⟩ := bd h
      refine bind_some h1 ?_
      obtain ⟨x2, h1, h⟩ := bd h
      refine bind_some h1 ?_
      rcases brc h with ⟨hb, h⟩ | ⟨hb, h⟩
      · refine br_t hb ?_
        obtain ⟨x3, h1, h⟩ := bd h
        refine bind_some h1 ?_
        obtain ⟨x4, h1, h⟩ := bd h
        refine bind_some h1 ?_
        obtain rfl := Option.some.inj h
        first | rfl | (simp only [List.length_set, go_sem]; done)
      · refine br_f hb ?_
        obtain rfl := Option.some.inj h
        first | rfl | (simp only [List.length_set, go_sem]; done)
    · refine br_f hb ?_
      obtain rfl := Option.some.inj h
      first | rfl | (simp only [List.length_set, go_sem]; done)
noncomputable def s_ExtractCollision (ListtoArray : (List UInt8)) (a : Int) (a2 : Int) (a3 : (List UInt8)) (a4 : (List (List UInt8))) (a5 : (List UInt8)) (a6 : (List (List UInt8))) : Option (Collision × Int) :=
  br (decide (((ListtoArray.length : Nat) : Int) > (65536 : Int))) (
    some ((Collision.mk (([] : List UInt8)) (([] : List UInt8))), (2 : Int))) (
    br (decide (((a3.length : Nat) : Int) > (65536 : Int))) (
      some ((Collision.mk (([] : List UInt8)) (([] : List UInt8))), (2 : Int))) (
      br (decide (((a4.length : Nat) : Int) > (4096 : Int))) (
        some ((Collision.mk (([] : List UInt8)) (([] : List UInt8))), (2 : Int))) (
        br (decide (((a5.length : Nat) : Int) > (65536 : Int))) (
          some ((Collision.mk (([] : List UInt8)) (([] : List UInt8))), (2 : Int))) (
          br (decide (((a6.length : Nat) : Int) > (4096 : Int))) (
            some ((Collision.mk (([] : List UInt8)) (([] : List UInt8))), (2 : Int))) (
            (s_l04Ask ListtoArray a a2 a3 a4).bind fun r_ =>
            br (r_ != (0 : Int)) (
              some ((Collision.mk (([] : List UInt8)) (([] : List UInt8))), r_)) (
              (s_l04Ask ListtoArray a a2 a5 a6).bind fun r_2 =>
              br (r_2 != (0 : Int)) (
                some ((Collision.mk (([] : List UInt8)) (([] : List UInt8))), r_2)) (
                (s_l04Check ListtoArray a a2 a3 a4).bind fun r_3 =>
                br (!r_3) (
                  some ((Collision.mk (([] : List UInt8)) (([] : List UInt8))), (9 : Int))) (
                  (s_l04Check ListtoArray a a2 a5 a6).bind fun r_4 =>
                  br (!r_4) (
                    some ((Collision.mk (([] : List UInt8)) (([] : List UInt8))), (9 : Int))) (
                    (s_l04Up a2 a3 a4).bind fun r_5 =>
                    (s_l04Up a2 a5 a6).bind fun r_6 =>
                    (Loop (s_ExtractCollision_1_s r_5.1 r_6.1 (([] : List UInt8)) (([] : List UInt8))) (IntKind.wrap .i64 (((r_5.1.length : Nat) : Int) - (1 : Int)))).bind (alt (fun e_2 =>
                      some ((Collision.mk e_2.1 e_2.2), (0 : Int))) (fun e_3 =>
                      some ((Collision.mk (([] : List UInt8)) (([] : List UInt8))), (5 : Int)))))))))))))
theorem s_ExtractCollision_c {ListtoArray : (List UInt8)} {a : Int} {a2 : Int} {a3 : (List UInt8)} {a4 : (List (List UInt8))} {a5 : (List UInt8)} {a6 : (List (List UInt8))} {r : Collision × Int} (h : s_ExtractCollision ListtoArray a a2 a3 a4 a5 a6 = some r) : Call tab ow 69 [S ListtoArray, I a, I a2, S a3, sl eS a4, S a5, sl eS a6] [] = some (.tup [.agg [S r.1.A, S r.1.B], I r.2], []) := by
  rw [run_s_ExtractCollision]
  unfold s_ExtractCollision at h
  simp +decide only [b_s_ExtractCollision, go_sem, reduceIte, Nat.reduceAdd]
  rcases brc h with ⟨hb, h⟩ | ⟨hb, h⟩
  · refine br_t hb ?_
    obtain rfl := Option.some.inj h
    first | rfl | (simp only [List.length_set, go_sem]; done)
  · refine br_f hb ?_
    rcases brc h with ⟨hb, h⟩ | ⟨hb, h⟩
    · refine br_t hb ?_
      obtain rfl := Option.some.inj h
      first | rfl | (simp only [List.length_set, go_sem]; done)
    · refine br_f hb ?_
      rcases brc h with ⟨hb, h⟩ | ⟨hb, h⟩
      · refine br_t hb ?_
        obtain rfl := Option.some.inj h
        first | rfl | (simp only [List.length_set, go_sem]; done)
      · refine br_f hb ?_
        rcases brc h with ⟨hb, h⟩ | ⟨hb, h⟩
        · refine br_t hb ?_
          obtain rfl := Option.some.inj h
          first | rfl | (simp only [List.length_set, go_sem]; done)
        · refine br_f hb ?_
          rcases brc h with ⟨hb, h⟩ | ⟨hb, h⟩
          · refine br_t hb ?_
            obtain rfl := Option.some.inj h
            first | rfl | (simp only [List.length_set, go_sem]; done)
          · refine br_f hb ?_
            obtain ⟨r_, h1, h⟩ := bd h
            refine call_aft (s_l04Ask_c h1) ?_
            simp +decide only [go_sem, reduceIte, Nat.reduceAdd]
            rcases brc h with ⟨hb, h⟩ | ⟨hb, h⟩
            · refine br_t hb ?_
              obtain rfl := Option.some.inj h
              first | rfl | (simp only [List.length_set, go_sem]; done)
            · refine br_f hb ?_
              obtain ⟨r_2, h1, h⟩ := bd h
              refine call_aft (s_l04Ask_c h1) ?_
              simp +decide only [go_sem, reduceIte, Nat.reduceAdd]
              rcases brc h with ⟨hb, h⟩ | ⟨hb, h⟩
              · refine br_t hb ?_
                obtain rfl := Option.some.inj h
                first | rfl | (simp only [List.length_set, go_sem]; done)
              · refine br_f hb ?_
                obtain ⟨r_3, h1, h⟩ := bd h
                refine call_aft (s_l04Check_c h1) ?_
                simp +decide only [go_sem, reduceIte, Nat.reduceAdd]
                rcases brc h with ⟨hb, h⟩ | ⟨hb, h⟩
                · refine br_t hb ?_
                  obtain rfl := Option.some.inj h
                  first | rfl | (simp only [List.length_set, go_sem]; done)
                · refine br_f hb ?_
                  obtain ⟨r_4, h1, h⟩ := bd h
                  refine call_aft (s_l04Check_c h1) ?_
                  simp +decide only [go_sem, reduceIte, Nat.reduceAdd]
                  rcases brc h with ⟨hb, h⟩ | ⟨hb, h⟩
                  · refine br_t hb ?_
                    obtain rfl := Option.some.inj h
                    first | rfl | (simp only [List.length_set, go_sem]; done)
                  · refine br_f hb ?_
                    obtain ⟨r_5, h1, h⟩ := bd h
                    refine call_aft (s_l04Up_c h1) ?_
                    simp +decide only [go_sem, reduceIte, Nat.reduceAdd]
                    obtain ⟨r_6, h1, h⟩ := bd h
                    refine call_aft (s_l04Up_c h1) ?_
                    simp +decide only [go_sem, reduceIte, Nat.reduceAdd]
                    obtain ⟨e_, h1, h⟩ := bd h
                    refine goR_of (s_ExtractCollision_1_l h1) ?_
                    rcases e_ with e_2 | e_3
                    · simp +decide only [go_sem, reduceIte, Nat.reduceAdd]
                      obtain rfl := Option.some.inj h
                      first | rfl | (simp only [List.length_set, go_sem]; done)
                    · simp +decide only [go_sem, reduceIte, Nat.reduceAdd]
                      obtain rfl := Option.some.inj h
                      first | rfl | (simp only [List.length_set, go_sem]; done)
section
theorem i_Keccak256_k0 : mkR 4001 [] = rws (eL eU8) [] := rfl
attribute [local go_sem] i_Keccak256_k0
noncomputable def i_Keccak256 (b : (List UInt8)) : Option ((List UInt8)) :=
  br (decide (((b.length : Nat) : Int) > (65536 : Int))) (
    some (([] : List UInt8))) (
    (i_keccak ([b] : List (List UInt8))).bind fun r_ =>
    some r_)
theorem i_Keccak256_c {b : (List UInt8)} {r : (List UInt8)} (h : i_Keccak256 b = some r) : Call tab ow 70 [sl eU8 b] [] = some (S r, []) := by
  rw [run_i_Keccak256]
  unfold i_Keccak256 at h
  simp +decide only [b_i_Keccak256, go_sem, reduceIte, Nat.reduceAdd]
  rcases brc h with ⟨hb, h⟩ | ⟨hb, h⟩
  · refine br_t hb ?_
    obtain rfl := Option.some.inj h
    first | rfl | (simp only [List.length_set, go_sem]; done)
  · refine br_f hb ?_
    obtain ⟨r_, h1, h⟩ := bd h
    refine call_aft (i_keccak_c h1) ?_
    simp +decide only [go_sem, reduceIte, Nat.reduceAdd]
    obtain rfl := Option.some.inj h
    first | rfl | (simp only [List.length_set, go_sem]; done)
end
noncomputable def w_FnCollision (ListtoArray : (List UInt8)) (a : (List UInt8)) : Option (Bool) :=
  br (decide (((ListtoArray.length : Nat) : Int) > (1048576 : Int))) (
    some true) (
    br (decide (((a.length : Nat) : Int) > (1048576 : Int))) (
      some true) (
      (s_LeavesOf ListtoArray).bind fun r_ =>
      (w_at a (0 : Int) ((r_.length : Nat) : Int)).bind fun r_2 =>
      (i_MerkleRoot r_).bind fun r_3 =>
      (i_MerklePath r_ r_2).bind fun r_4 =>
      (atL r_ r_2).bind fun x =>
      (atL r_ r_2).bind fun x2 =>
      (i_ExtractCollision r_3.1 ((r_.length : Nat) : Int) r_2 x r_4.1 x2 r_4.1).bind fun r_5 =>
      (atL r_ r_2).bind fun x3 =>
      (s_BytesOf a (20 : Int)).bind fun r_6 =>
      (i_ExtractCollision r_3.1 ((r_.length : Nat) : Int) r_2 x3 r_4.1 r_6 r_4.1).bind fun r_7 =>
      (atL r_ r_2).bind fun x4 =>
      (s_BytesOf a (20 : Int)).bind fun r_8 =>
      (s_ExtractCollision r_3.1 ((r_.length : Nat) : Int) r_2 x4 r_4.1 r_8 r_4.1).bind fun r_9 =>
      br (r_3.2 != (0 : Int)) (
        some false) (
        br (r_4.2 != (0 : Int)) (
          some false) (
          br (r_5.2 != (5 : Int)) (
            some false) (
            br (r_7.2 != r_9.2) (
              some false) (
              br (r_7.1.A == r_9.1.A) (
                br (r_7.1.B == r_9.1.B) (
                  br (r_7.2 == (0 : Int)) (
                    br (r_7.1.A != r_7.1.B) (
                      br (fits r_7.1.A.length 1) (
                        (i_Keccak256 r_7.1.A).bind fun r_10 =>
                        br (fits r_7.1.B.length 1) (
                          (i_Keccak256 r_7.1.B).bind fun r_11 =>
                          some (r_10 == r_11)) (
                          none)) (
                        none)) (
                      some false)) (
                    br (r_7.2 == (9 : Int)) (
                      some true) (
                      some (r_7.2 == (5 : Int))))) (
                  some false)) (
                some false)))))))
theorem w_FnCollision_c {ListtoArray : (List UInt8)} {a : (List UInt8)} {r : Bool} (h : w_FnCollision ListtoArray a = some r) : Call tab ow 11 [sl eU8 ListtoArray, sl eU8 a] [] = some (B r, []) := by
  rw [run_w_FnCollision]
  unfold w_FnCollision at h
  simp +decide only [b_w_FnCollision, go_sem, reduceIte, Nat.reduceAdd]
  rcases brc h with ⟨hb, h⟩ | ⟨hb, h⟩
  · refine br_t hb ?_
    obtain rfl := Option.some.inj h
    first | rfl | (simp only [List.length_set, go_sem]; done)
  · refine br_f hb ?_
    rcases brc h with ⟨hb, h⟩ | ⟨hb, h⟩
    · refine br_t hb ?_
      obtain rfl := Option.some.inj h
      first | rfl | (simp only [List.length_set, go_sem]; done)
    · refine br_f hb ?_
      obtain ⟨r_, h1, h⟩ := bd h
      refine call_aft (s_LeavesOf_c h1) ?_
      simp +decide only [go_sem, reduceIte, Nat.reduceAdd]
      obtain ⟨r_2, h1, h⟩ := bd h
      refine call_aft (w_at_c h1) ?_
      simp +decide only [go_sem, reduceIte, Nat.reduceAdd]
      obtain ⟨r_3, h1, h⟩ := bd h
      refine call_aft (i_MerkleRoot_c h1) ?_
      simp +decide only [go_sem, reduceIte, Nat.reduceAdd]
      obtain ⟨r_4, h1, h⟩ := bd h
      refine call_aft (i_MerklePath_c h1) ?_
      simp +decide only [go_sem, reduceIte, Nat.reduceAdd]
      obtain ⟨x, h1, h⟩ := bd h
      refine bind_some h1 ?_
      obtain ⟨x2, h1, h⟩ := bd h
      refine bind_some h1 ?_
      obtain ⟨r_5, h1, h⟩ := bd h
      refine call_aftD (i_ExtractCollision_c h1) ?_
      simp +decide only [go_sem, reduceIte, Nat.reduceAdd]
      obtain ⟨x3, h1, h⟩ := bd h
      refine bind_some h1 ?_
      obtain ⟨r_6, h1, h⟩ := bd h
      refine call_aftD (s_BytesOf_c h1) ?_
      simp +decide only [go_sem, reduceIte, Nat.reduceAdd]
      obtain ⟨r_7, h1, h⟩ := bd h
      refine call_aftD (i_ExtractCollision_c h1) ?_
      simp +decide only [go_sem, reduceIte, Nat.reduceAdd]
      obtain ⟨x4, h1, h⟩ := bd h
      refine bind_some h1 ?_
      obtain ⟨r_8, h1, h⟩ := bd h
      refine call_aftD (s_BytesOf_c h1) ?_
      simp +decide only [go_sem, reduceIte, Nat.reduceAdd]
      obtain ⟨r_9, h1, h⟩ := bd h
      refine call_aftD (s_ExtractCollision_c h1) ?_
      simp +decide only [go_sem, reduceIte, Nat.reduceAdd]
      rcases brc h with ⟨hb, h⟩ | ⟨hb, h⟩
      · refine br_t hb ?_
        obtain rfl := Option.some.inj h
        first | rfl | (simp only [List.length_set, go_sem]; done)
      · refine br_f hb ?_
        rcases brc h with ⟨hb, h⟩ | ⟨hb, h⟩
        · refine br_t hb ?_
          obtain rfl := Option.some.inj h
          first | rfl | (simp only [List.length_set, go_sem]; done)
        · refine br_f hb ?_
          rcases brc h with ⟨hb, h⟩ | ⟨hb, h⟩
          · refine br_t hb ?_
            obtain rfl := Option.some.inj h
            first | rfl | (simp only [List.length_set, go_sem]; done)
          · refine br_f hb ?_
            rcases brc h with ⟨hb, h⟩ | ⟨hb, h⟩
            · refine br_t hb ?_
              obtain rfl := Option.some.inj h
              first | rfl | (simp only [List.length_set, go_sem]; done)
            · refine br_f hb ?_
              rcases brc h with ⟨hb, h⟩ | ⟨hb, h⟩
              · refine br_t hb ?_
                rcases brc h with ⟨hb, h⟩ | ⟨hb, h⟩
                · refine br_t hb ?_
                  rcases brc h with ⟨hb, h⟩ | ⟨hb, h⟩
                  · refine br_t hb ?_
                    rcases brc h with ⟨hb, h⟩ | ⟨hb, h⟩
                    · refine br_t hb ?_
                      obtain ⟨hb, h⟩ := brg h
                      refine br_t hb ?_
                      obtain ⟨r_10, h1, h⟩ := bd h
                      refine call_aftD (i_Keccak256_c h1) ?_
                      simp +decide only [go_sem, reduceIte, Nat.reduceAdd]
                      obtain ⟨hb, h⟩ := brg h
                      refine br_t hb ?_
                      obtain ⟨r_11, h1, h⟩ := bd h
                      refine call_aftD (i_Keccak256_c h1) ?_
                      simp +decide only [go_sem, reduceIte, Nat.reduceAdd]
                      obtain rfl := Option.some.inj h
                      first | rfl | (simp only [List.length_set, go_sem]; done)
                    · refine br_f hb ?_
                      obtain rfl := Option.some.inj h
                      first | rfl | (simp only [List.length_set, go_sem]; done)
                  · refine br_f hb ?_
                    rcases brc h with ⟨hb, h⟩ | ⟨hb, h⟩
                    · refine br_t hb ?_
                      obtain rfl := Option.some.inj h
                      first | rfl | (simp only [List.length_set, go_sem]; done)
                    · refine br_f hb ?_
                      obtain rfl := Option.some.inj h
                      first | rfl | (simp only [List.length_set, go_sem]; done)
                · refine br_f hb ?_
                  obtain rfl := Option.some.inj h
                  first | rfl | (simp only [List.length_set, go_sem]; done)
              · refine br_f hb ?_
                obtain rfl := Option.some.inj h
                first | rfl | (simp only [List.length_set, go_sem]; done)
end Go.AI.Fn

