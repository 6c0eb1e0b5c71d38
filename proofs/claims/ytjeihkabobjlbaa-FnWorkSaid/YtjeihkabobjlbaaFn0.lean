/- Walks through the program, with open values. -/
import Derived.Test.YtjeihkabobjlbaaStr
set_option linter.unusedVariables false
set_option linter.unusedSimpArgs false
set_option maxRecDepth 100000
set_option maxHeartbeats 1000000
namespace Go.AI.Fn
noncomputable def s_l00Source (code : (List UInt8)) : Option (l00Src) :=
  some (l00Src.mk code (0 : Int) (((code.length : Nat) : Int).tmod (1000 : Int)))
theorem s_l00Source_c {code : (List UInt8)} {r : l00Src} (h : s_l00Source code = some r) : Call tab ow 34 [sl eU8 code] [] = some (.ptr 0 0 0 1, [⟨3, true, [[sl eU8 r.code, I r.at_, I r.seed]]⟩]) := by
  rw [run_s_l00Source]
  unfold s_l00Source at h
  simp +decide only [b_s_l00Source, go_sem, reduceIte, Nat.reduceAdd]
  obtain rfl := Option.some.inj h
  first | rfl | (simp only [List.length_set, go_sem]; done)
noncomputable def s_l00Src_byte (m : l00Src) : Option (Int × l00Src) :=
  br (decide ((IntKind.wrap .i64 (m.at_ + (1 : Int))) ≤ ((m.code.length : Nat) : Int))) (
    (atL m.code (IntKind.wrap .i64 ((IntKind.wrap .i64 (m.at_ + (1 : Int))) - (1 : Int)))).bind fun x =>
    (atL m.code (IntKind.wrap .i64 ((IntKind.wrap .i64 (m.at_ + (1 : Int))) - (1 : Int)))).bind fun x2 =>
    some ((IntKind.wrap .i64 (x2.toNat : Int)), (l00Src.mk m.code (IntKind.wrap .i64 (m.at_ + (1 : Int))) ((IntKind.wrap .i64 ((IntKind.wrap .i64 ((IntKind.wrap .i64 (m.seed * (31 : Int))) + (IntKind.wrap .i64 (x.toNat : Int)))) + (7 : Int))).tmod (2147483648 : Int))))) (
    br (decide ((IntKind.wrap .i64 (m.at_ + (1 : Int))) > (3000 : Int))) (
      some ((0 : Int), (l00Src.mk m.code (IntKind.wrap .i64 (m.at_ + (1 : Int))) m.seed))) (
      some (((IntKind.wrap .i64 (((IntKind.wrap .i64 ((IntKind.wrap .i64 (m.seed * (1103515245 : Int))) + (12345 : Int))).tmod (2147483648 : Int)).tdiv (65536 : Int))).tmod (256 : Int)), (l00Src.mk m.code (IntKind.wrap .i64 (m.at_ + (1 : Int))) ((IntKind.wrap .i64 ((IntKind.wrap .i64 (m.seed * (1103515245 : Int))) + (12345 : Int))).tmod (2147483648 : Int))))))
theorem s_l00Src_byte_c {m : l00Src} {r : Int × l00Src} (h : s_l00Src_byte m = some r) : Call tab ow 61 [.ptr 0 0 0 1] [⟨3, true, [[sl eU8 m.code, I m.at_, I m.seed]]⟩] = some (I r.1, [⟨3, true, [[sl eU8 r.2.code, I r.2.at_, I r.2.seed]]⟩]) := by
  rw [run_s_l00Src_byte]
  unfold s_l00Src_byte at h
  simp +decide only [b_s_l00Src_byte, go_sem, reduceIte, Nat.reduceAdd]
  rcases brc h with ⟨hb, h⟩ | ⟨hb, h⟩
  · refine br_t hb ?_
    obtain ⟨x, h1, h⟩ := bd h
    refine bind_some h1 ?_
    obtain ⟨x2, h1, h⟩ := bd h
    refine bind_some h1 ?_
    obtain rfl := Option.some.inj h
    first | rfl | (simp only [List.length_set, go_sem]; done)
  · refine br_f hb ?_
    rcases brc h with ⟨hb, h⟩ | ⟨hb, h⟩
    · refine br_t hb ?_
      obtain rfl := Option.some.inj h
      first | rfl | (simp only [List.length_set, go_sem]; done)
    · refine br_f hb ?_
      obtain rfl := Option.some.inj h
      first | rfl | (simp only [List.length_set, go_sem]; done)
noncomputable def s_l00Src_next (n : Int) (m : l00Src) : Option (Int × l00Src) :=
  br (decide (n ≤ (1 : Int))) (
    some ((0 : Int), m)) (
    br (decide (n ≤ (256 : Int))) (
      (s_l00Src_byte m).bind fun r_ =>
      br (decide (n ≠ 0)) (
        some ((r_.1.tmod n), r_.2)) (
        none)) (
      (s_l00Src_byte m).bind fun r_2 =>
      (s_l00Src_byte r_2.2).bind fun r_3 =>
      (s_l00Src_byte r_3.2).bind fun r_4 =>
      br (decide (n ≠ 0)) (
        some (((IntKind.wrap .i64 ((IntKind.wrap .i64 ((IntKind.wrap .i64 (r_2.1 * (65536 : Int))) + (IntKind.wrap .i64 (r_3.1 * (256 : Int))))) + r_4.1)).tmod n), r_4.2)) (
        none)))
theorem s_l00Src_next_c {n : Int} {m : l00Src} {r : Int × l00Src} (h : s_l00Src_next n m = some r) : Call tab ow 47 [.ptr 0 0 0 1, I n] [⟨3, true, [[sl eU8 m.code, I m.at_, I m.seed]]⟩] = some (I r.1, [⟨3, true, [[sl eU8 r.2.code, I r.2.at_, I r.2.seed]]⟩]) := by
  rw [run_s_l00Src_next]
  unfold s_l00Src_next at h
  simp +decide only [b_s_l00Src_next, go_sem, reduceIte, Nat.reduceAdd]
  rcases brc h with ⟨hb, h⟩ | ⟨hb, h⟩
  · refine br_t hb ?_
    obtain rfl := Option.some.inj h
    first | rfl | (simp only [List.length_set, go_sem]; done)
  · refine br_f hb ?_
    rcases brc h with ⟨hb, h⟩ | ⟨hb, h⟩
    · refine br_t hb ?_
      obtain ⟨r_, h1, h⟩ := bd h
      refine call_aft (s_l00Src_byte_c h1) ?_
      simp +decide only [go_sem, reduceIte, Nat.reduceAdd]
      obtain ⟨hb, h⟩ := brg h
      refine br_t hb ?_
      obtain rfl := Option.some.inj h
      first | rfl | (simp only [List.length_set, go_sem]; done)
    · refine br_f hb ?_
      obtain ⟨r_2, h1, h⟩ := bd h
      refine call_aft (s_l00Src_byte_c h1) ?_
      simp +decide only [go_sem, reduceIte, Nat.reduceAdd]
      obtain ⟨r_3, h1, h⟩ := bd h
      refine call_aft (s_l00Src_byte_c h1) ?_
      simp +decide only [go_sem, reduceIte, Nat.reduceAdd]
      obtain ⟨r_4, h1, h⟩ := bd h
      refine call_aft (s_l00Src_byte_c h1) ?_
      simp +decide only [go_sem, reduceIte, Nat.reduceAdd]
      obtain ⟨hb, h⟩ := brg h
      refine br_t hb ?_
      obtain rfl := Option.some.inj h
      first | rfl | (simp only [List.length_set, go_sem]; done)
noncomputable def s_l00Src_chance (n : Int) (m : l00Src) : Option (Bool × l00Src) :=
  (s_l00Src_next n m).bind fun r_ =>
  some ((r_.1 == (IntKind.wrap .i64 (n - (1 : Int)))), r_.2)
theorem s_l00Src_chance_c {n : Int} {m : l00Src} {r : Bool × l00Src} (h : s_l00Src_chance n m = some r) : Call tab ow 62 [.ptr 0 0 0 1, I n] [⟨3, true, [[sl eU8 m.code, I m.at_, I m.seed]]⟩] = some (B r.1, [⟨3, true, [[sl eU8 r.2.code, I r.2.at_, I r.2.seed]]⟩]) := by
  rw [run_s_l00Src_chance]
  unfold s_l00Src_chance at h
  simp +decide only [b_s_l00Src_chance, go_sem, reduceIte, Nat.reduceAdd]
  obtain ⟨r_, h1, h⟩ := bd h
  refine call_aft (s_l00Src_next_c h1) ?_
  simp +decide only [go_sem, reduceIte, Nat.reduceAdd]
  obtain rfl := Option.some.inj h
  first | rfl | (simp only [List.length_set, go_sem]; done)
noncomputable def s_l00Src_field_1_s : Int × Int × (List UInt8) × Int × Int → Option ((Int × Int × (List UInt8) × Int × Int) ⊕ ((Int × Int × Bool × (List UInt8) × Int × Int)))
  | (n, i, c, c2, c3) =>
    br (decide (i < (5 : Int))) (
      (s_l00Src_next (256 : Int) (l00Src.mk c c2 c3)).bind fun r_4 =>
      some (.inl (((IntKind.wrap .i64 ((IntKind.wrap .i64 (n * (256 : Int))) + r_4.1)).tmod (2130706433 : Int)), (IntKind.wrap .i64 (i + (1 : Int))), r_4.2.code, r_4.2.at_, r_4.2.seed))) (
      some (.inr (n, i, decide (i < (5 : Int)), c, c2, c3)))
theorem s_l00Src_field_1_l {n : Int} {i : Int} {c : List UInt8} {c2 : Int} {c3 : Int} {e : (Int × Int × Bool × (List UInt8) × Int × Int)} (h : Loop (s_l00Src_field_1_s) (n, i, c, c2, c3) = some e) : LoopX tab ow (.close [11003]) b_s_l00Src_field_8 ⟨[(0, .ptr 0 0 0 1), (3, I n), (4, I i)], [(0, ⟨3, true, [[sl eU8 c, I c2, I c3]]⟩)]⟩ = some ((.exit 1, ⟨[(0, .ptr 0 0 0 1), (3, I e.1), (4, I e.2.1), (17, B e.2.2.1)], [(0, ⟨3, true, [[sl eU8 e.2.2.2.1, I e.2.2.2.2.1, I e.2.2.2.2.2]]⟩)]⟩)) := by
  refine loop_runG (S := Int × Int × (List UInt8) × Int × Int) (eS := fun s => ⟨[(0, .ptr 0 0 0 1), (3, I s.1), (4, I s.2.1)], [(0, ⟨3, true, [[sl eU8 s.2.2.1, I s.2.2.2.1, I s.2.2.2.2]]⟩)]⟩) (eE := fun e => (.exit 1, ⟨[(0, .ptr 0 0 0 1), (3, I e.1), (4, I e.2.1), (17, B e.2.2.1)], [(0, ⟨3, true, [[sl eU8 e.2.2.2.1, I e.2.2.2.2.1, I e.2.2.2.2.2]]⟩)]⟩)) (fun e => ?_) (fun s o h => ?_) h
  · simp [alt]
  · obtain ⟨n, i, c, c2, c3⟩ := s
    simp only [s_l00Src_field_1_s] at h
    show Rn tab ow _ _ ⟨[(0, .ptr 0 0 0 1), (3, I n), (4, I i)], [(0, ⟨3, true, [[sl eU8 c, I c2, I c3]]⟩)]⟩ = _
    simp +decide only [b_s_l00Src_field_8, go_sem, reduceIte, Nat.reduceAdd]
    rcases brc h with ⟨hb, h⟩ | ⟨hb, h⟩
    · refine br_t hb ?_
      obtain ⟨r_4, h1, h⟩ := bd h
      refine call_aft (s_l00Src_next_c h1) ?_
      simp +decide only [go_sem, reduceIte, Nat.reduceAdd]
      obtain rfl := Option.some.inj h
      first | rfl | (simp only [List.length_set, go_sem]; done)
    · refine br_f hb ?_
      obtain rfl := Option.some.inj h
      first | rfl | (simp only [List.length_set, go_sem]; done)
noncomputable def s_l00Src_field (m : l00Src) : Option (Int × l00Src) :=
  (s_l00Src_next (5 : Int) m).bind fun r_ =>
  br (r_.1 == (0 : Int)) (
    (s_l00Src_next (4 : Int) r_.2).bind fun r_2 =>
    some (r_2.1, r_2.2)) (
    br (r_.1 == (1 : Int)) (
      (s_l00Src_next (3 : Int) r_.2).bind fun r_3 =>
      some ((IntKind.wrap .i64 ((2130706432 : Int) - r_3.1)), r_3.2)) (
      (Loop (s_l00Src_field_1_s) ((0 : Int), (0 : Int), r_.2.code, r_.2.at_, r_.2.seed)).bind fun e_ =>
      some (e_.1, (l00Src.mk e_.2.2.2.1 e_.2.2.2.2.1 e_.2.2.2.2.2))))
theorem s_l00Src_field_c {m : l00Src} {r : Int × l00Src} (h : s_l00Src_field m = some r) : Call tab ow 63 [.ptr 0 0 0 1] [⟨3, true, [[sl eU8 m.code, I m.at_, I m.seed]]⟩] = some (I r.1, [⟨3, true, [[sl eU8 r.2.code, I r.2.at_, I r.2.seed]]⟩]) := by
  rw [run_s_l00Src_field]
  unfold s_l00Src_field at h
  simp +decide only [b_s_l00Src_field, go_sem, reduceIte, Nat.reduceAdd]
  obtain ⟨r_, h1, h⟩ := bd h
  refine call_aft (s_l00Src_next_c h1) ?_
  simp +decide only [go_sem, reduceIte, Nat.reduceAdd]
  rcases brc h with ⟨hb, h⟩ | ⟨hb, h⟩
  · refine br_t hb ?_
    obtain ⟨r_2, h1, h⟩ := bd h
    refine call_aft (s_l00Src_next_c h1) ?_
    simp +decide only [go_sem, reduceIte, Nat.reduceAdd]
    obtain rfl := Option.some.inj h
    first | rfl | (simp only [List.length_set, go_sem]; done)
  · refine br_f hb ?_
    rcases brc h with ⟨hb, h⟩ | ⟨hb, h⟩
    · refine br_t hb ?_
      obtain ⟨r_3, h1, h⟩ := bd h
      refine call_aft (s_l00Src_next_c h1) ?_
      simp +decide only [go_sem, reduceIte, Nat.reduceAdd]
      obtain rfl := Option.some.inj h
      first | rfl | (simp only [List.length_set, go_sem]; done)
    · refine br_f hb ?_
      obtain ⟨e_, h1, h⟩ := bd h
      refine goR_of (s_l00Src_field_1_l h1) ?_
      simp +decide only [go_sem, reduceIte, Nat.reduceAdd]
      obtain rfl := Option.some.inj h
      first | rfl | (simp only [List.length_set, go_sem]; done)
section
theorem s_l00Src_entries_k0 : mkR 2000 [] = rws eEntry [] := rfl
attribute [local go_sem] s_l00Src_entries_k0
theorem s_l00Src_entries_k1 : mkR 10007 [] = rws eEntry [] := rfl
attribute [local go_sem] s_l00Src_entries_k1
noncomputable def s_l00Src_entries_2_s (rows3 : Int) (cols3 : Int) (r_2 : Int) : (List Entry) × Int × (List UInt8) × Int × Int → Option (((List Entry) × Int × (List UInt8) × Int × Int) ⊕ (((List Entry) × Int × Bool × (List UInt8) × Int × Int)))
  | (l2, c4, c5, c6, c7) =>
    br (decide (0 ≤ (IntKind.wrap .u64 cols3))) (
      br (decide (c4 < (shl64 .i64 (1 : Int) (IntKind.wrap .u64 cols3)))) (
        (s_l00Src_chance (4 : Int) (l00Src.mk c5 c6 c7)).bind fun r_3 =>
        br r_3.1 (
          (s_l00Src_field r_3.2).bind fun r_4 =>
          br (fits ((l2 ++ ([(Entry.mk r_2 c4 (mx (1 : Int) r_4.1))] : List Entry)).length) 24) (
            some (.inl ((l2 ++ ([(Entry.mk r_2 c4 (mx (1 : Int) r_4.1))] : List Entry)), (IntKind.wrap .i64 (c4 + (1 : Int))), r_4.2.code, r_4.2.at_, r_4.2.seed))) (
            none)) (
          some (.inl (l2, (IntKind.wrap .i64 (c4 + (1 : Int))), r_3.2.code, r_3.2.at_, r_3.2.seed)))) (
        some (.inr (l2, c4, decide (c4 < (shl64 .i64 (1 : Int) (IntKind.wrap .u64 cols3))), c5, c6, c7)))) (
      none)
theorem s_l00Src_entries_2_l {rows3 : Int} {cols3 : Int} {r_2 : Int} {l2 : List Entry} {c4 : Int} {c5 : List UInt8} {c6 : Int} {c7 : Int} {e : ((List Entry) × Int × Bool × (List UInt8) × Int × Int)} (h : Loop (s_l00Src_entries_2_s rows3 cols3 r_2) (l2, c4, c5, c6, c7) = some e) : LoopX tab ow (.close [9001, 10004, 10007, 10008]) b_s_l00Src_entries_6 ⟨[(0, .ptr 0 0 0 1), (1, I rows3), (2, I cols3), (7, .sl 2000 0 l2.length), (8, I r_2), (9, I c4)], [(0, ⟨3, true, [[sl eU8 c5, I c6, I c7]]⟩), (2000, ⟨3, false, rws eEntry l2⟩)]⟩ = some ((.exit 2, ⟨[(0, .ptr 0 0 0 1), (1, I rows3), (2, I cols3), (7, .sl 2000 0 e.1.length), (8, I r_2), (9, I e.2.1), (22, B e.2.2.1)], [(0, ⟨3, true, [[sl eU8 e.2.2.2.1, I e.2.2.2.2.1, I e.2.2.2.2.2]]⟩), (2000, ⟨3, false, rws eEntry e.1⟩)]⟩)) := by
  refine loop_runG (S := (List Entry) × Int × (List UInt8) × Int × Int) (eS := fun s => ⟨[(0, .ptr 0 0 0 1), (1, I rows3), (2, I cols3), (7, .sl 2000 0 s.1.length), (8, I r_2), (9, I s.2.1)], [(0, ⟨3, true, [[sl eU8 s.2.2.1, I s.2.2.2.1, I s.2.2.2.2]]⟩), (2000, ⟨3, false, rws eEntry s.1⟩)]⟩) (eE := fun e => (.exit 2, ⟨[(0, .ptr 0 0 0 1), (1, I rows3), (2, I cols3), (7, .sl 2000 0 e.1.length), (8, I r_2), (9, I e.2.1), (22, B e.2.2.1)], [(0, ⟨3, true, [[sl eU8 e.2.2.2.1, I e.2.2.2.2.1, I e.2.2.2.2.2]]⟩), (2000, ⟨3, false, rws eEntry e.1⟩)]⟩)) (fun e => ?_) (fun s o h => ?_) h
  · simp [alt]
  · obtain ⟨l2, c4, c5, c6, c7⟩ := s
    simp only [s_l00Src_entries_2_s] at h
    show Rn tab ow _ _ ⟨[(0, .ptr 0 0 0 1), (1, I rows3), (2, I cols3), (7, .sl 2000 0 l2.length), (8, I r_2), (9, I c4)], [(0, ⟨3, true, [[sl eU8 c5, I c6, I c7]]⟩), (2000, ⟨3, false, rws eEntry l2⟩)]⟩ = _
    simp +decide only [b_s_l00Src_entries_6, go_sem, reduceIte, Nat.reduceAdd]
    obtain ⟨hb, h⟩ := brg h
    refine br_t hb ?_
    rcases brc h with ⟨hb, h⟩ | ⟨hb, h⟩
    · refine br_t hb ?_
      obtain ⟨r_3, h1, h⟩ := bd h
      refine call_aft (s_l00Src_chance_c h1) ?_
      simp +decide only [go_sem, reduceIte, Nat.reduceAdd]
      rcases brc h with ⟨hb, h⟩ | ⟨hb, h⟩
      · refine br_t hb ?_
        obtain ⟨r_4, h1, h⟩ := bd h
        refine call_aft (s_l00Src_field_c h1) ?_
        simp +decide only [go_sem, reduceIte, Nat.reduceAdd]
        obtain ⟨hb, h⟩ := brg h
        refine br_t hb ?_
        obtain rfl := Option.some.inj h
        first | rfl | (simp only [List.length_set, go_sem]; done)
      · refine br_f hb ?_
        obtain rfl := Option.some.inj h
        first | rfl | (simp only [List.length_set, go_sem]; done)
    · refine br_f hb ?_
      obtain rfl := Option.some.inj h
      first | rfl | (simp only [List.length_set, go_sem]; done)
noncomputable def s_l00Src_entries_1_s (rows2 : Int) (cols2 : Int) : (List Entry) × Int × (List UInt8) × Int × Int → Option (((List Entry) × Int × (List UInt8) × Int × Int) ⊕ (((List Entry) × Int × Bool × (List UInt8) × Int × Int)))
  | (l, r_, c, c2, c3) =>
    br (decide (0 ≤ (IntKind.wrap .u64 rows2))) (
      br (decide (r_ < (shl64 .i64 (1 : Int) (IntKind.wrap .u64 rows2)))) (
        (Loop (s_l00Src_entries_2_s rows2 cols2 r_) (l, (0 : Int), c, c2, c3)).bind fun e_ =>
        some (.inl (e_.1, (IntKind.wrap .i64 (r_ + (1 : Int))), e_.2.2.2.1, e_.2.2.2.2.1, e_.2.2.2.2.2))) (
        some (.inr (l, r_, decide (r_ < (shl64 .i64 (1 : Int) (IntKind.wrap .u64 rows2))), c, c2, c3)))) (
      none)
theorem s_l00Src_entries_1_l {rows2 : Int} {cols2 : Int} {l : List Entry} {r_ : Int} {c : List UInt8} {c2 : Int} {c3 : Int} {e : ((List Entry) × Int × Bool × (List UInt8) × Int × Int)} (h : Loop (s_l00Src_entries_1_s rows2 cols2) (l, r_, c, c2, c3) = some e) : LoopX tab ow (.close [9001, 10004, 10007, 10008]) b_s_l00Src_entries_3 ⟨[(0, .ptr 0 0 0 1), (1, I rows2), (2, I cols2), (7, .sl 2000 0 l.length), (8, I r_)], [(0, ⟨3, true, [[sl eU8 c, I c2, I c3]]⟩), (2000, ⟨3, false, rws eEntry l⟩)]⟩ = some ((.exit 0, ⟨[(0, .ptr 0 0 0 1), (1, I rows2), (2, I cols2), (7, .sl 2000 0 e.1.length), (8, I e.2.1), (15, B e.2.2.1)], [(0, ⟨3, true, [[sl eU8 e.2.2.2.1, I e.2.2.2.2.1, I e.2.2.2.2.2]]⟩), (2000, ⟨3, false, rws eEntry e.1⟩)]⟩)) := by
  refine loop_runG (S := (List Entry) × Int × (List UInt8) × Int × Int) (eS := fun s => ⟨[(0, .ptr 0 0 0 1), (1, I rows2), (2, I cols2), (7, .sl 2000 0 s.1.length), (8, I s.2.1)], [(0, ⟨3, true, [[sl eU8 s.2.2.1, I s.2.2.2.1, I s.2.2.2.2]]⟩), (2000, ⟨3, false, rws eEntry s.1⟩)]⟩) (eE := fun e => (.exit 0, ⟨[(0, .ptr 0 0 0 1), (1, I rows2), (2, I cols2), (7, .sl 2000 0 e.1.length), (8, I e.2.1), (15, B e.2.2.1)], [(0, ⟨3, true, [[sl eU8 e.2.2.2.1, I e.2.2.2.2.1, I e.2.2.2.2.2]]⟩), (2000, ⟨3, false, rws eEntry e.1⟩)]⟩)) (fun e => ?_) (fun s o h => ?_) h
  · simp [alt]
  · obtain ⟨l, r_, c, c2, c3⟩ := s
    simp only [s_l00Src_entries_1_s] at h
    show Rn tab ow _ _ ⟨[(0, .ptr 0 0 0 1), (1, I rows2), (2, I cols2), (7, .sl 2000 0 l.length), (8, I r_)], [(0, ⟨3, true, [[sl eU8 c, I c2, I c3]]⟩), (2000, ⟨3, false, rws eEntry l⟩)]⟩ = _
    simp +decide only [b_s_l00Src_entries_3, go_sem, reduceIte, Nat.reduceAdd]
    obtain ⟨hb, h⟩ := brg h
    refine br_t hb ?_
    rcases brc h with ⟨hb, h⟩ | ⟨hb, h⟩
    · refine br_t hb ?_
      obtain ⟨e_, h1, h⟩ := bd h
      refine goR_of (s_l00Src_entries_2_l h1) ?_
      simp +decide only [go_sem, reduceIte, Nat.reduceAdd]
      obtain rfl := Option.some.inj h
      first | rfl | (simp only [List.length_set, go_sem]; done)
    · refine br_f hb ?_
      obtain rfl := Option.some.inj h
      first | rfl | (simp only [List.length_set, go_sem]; done)
noncomputable def s_l00Src_entries (rows : Int) (cols : Int) (m : l00Src) : Option ((List Entry) × l00Src) :=
  (Loop (s_l00Src_entries_1_s rows cols) (([] : List Entry), (0 : Int), m.code, m.at_, m.seed)).bind fun e_2 =>
  some (e_2.1, (l00Src.mk e_2.2.2.2.1 e_2.2.2.2.2.1 e_2.2.2.2.2.2))
theorem s_l00Src_entries_c {rows : Int} {cols : Int} {m : l00Src} {r : (List Entry) × l00Src} (h : s_l00Src_entries rows cols m = some r) : Call tab ow 48 [.ptr 0 0 0 1, I rows, I cols] [⟨3, true, [[sl eU8 m.code, I m.at_, I m.seed]]⟩] = some (sl eEntry r.1, [⟨3, true, [[sl eU8 r.2.code, I r.2.at_, I r.2.seed]]⟩]) := by
  rw [run_s_l00Src_entries]
  unfold s_l00Src_entries at h
  simp +decide only [b_s_l00Src_entries, go_sem, reduceIte, Nat.reduceAdd]
  obtain ⟨e_2, h1, h⟩ := bd h
  refine goR_of (s_l00Src_entries_1_l h1) ?_
  simp +decide only [go_sem, reduceIte, Nat.reduceAdd]
  obtain rfl := Option.some.inj h
  first | rfl | (simp only [List.length_set, go_sem]; done)
end
noncomputable def s_l00Src_system (m : l00Src) : Option (System × l00Src) :=
  (s_l00Src_next (2 : Int) m).bind fun r_ =>
  (s_l00Src_next (2 : Int) r_.2).bind fun r_2 =>
  br (decide (0 ≤ (IntKind.wrap .u64 (IntKind.wrap .i64 ((IntKind.wrap .i64 ((2 : Int) + r_2.1)) - (1 : Int)))))) (
    (s_l00Src_next (shl64 .i64 (1 : Int) (IntKind.wrap .u64 (IntKind.wrap .i64 ((IntKind.wrap .i64 ((2 : Int) + r_2.1)) - (1 : Int))))) r_2.2).bind fun r_3 =>
    (s_l00Src_entries (IntKind.wrap .i64 ((1 : Int) + r_.1)) (IntKind.wrap .i64 ((2 : Int) + r_2.1)) r_3.2).bind fun r_4 =>
    (s_l00Src_entries (IntKind.wrap .i64 ((1 : Int) + r_.1)) (IntKind.wrap .i64 ((2 : Int) + r_2.1)) r_4.2).bind fun r_5 =>
    (s_l00Src_entries (IntKind.wrap .i64 ((1 : Int) + r_.1)) (IntKind.wrap .i64 ((2 : Int) + r_2.1)) r_5.2).bind fun r_6 =>
    some ((System.mk (IntKind.wrap .i64 ((1 : Int) + r_.1)) (IntKind.wrap .i64 ((2 : Int) + r_2.1)) r_3.1 r_4.1 r_5.1 r_6.1), r_6.2)) (
    none)
theorem s_l00Src_system_c {m : l00Src} {r : System × l00Src} (h : s_l00Src_system m = some r) : Call tab ow 35 [.ptr 0 0 0 1] [⟨3, true, [[sl eU8 m.code, I m.at_, I m.seed]]⟩] = some (.agg [I r.1.Rows, I r.1.Cols, I r.1.Publics, sl eEntry r.1.A, sl eEntry r.1.B, sl eEntry r.1.C], [⟨3, true, [[sl eU8 r.2.code, I r.2.at_, I r.2.seed]]⟩]) := by
  rw [run_s_l00Src_system]
  unfold s_l00Src_system at h
  simp +decide only [b_s_l00Src_system, go_sem, reduceIte, Nat.reduceAdd]
  obtain ⟨r_, h1, h⟩ := bd h
  refine call_aft (s_l00Src_next_c h1) ?_
  simp +decide only [go_sem, reduceIte, Nat.reduceAdd]
  obtain ⟨r_2, h1, h⟩ := bd h
  refine call_aft (s_l00Src_next_c h1) ?_
  simp +decide only [go_sem, reduceIte, Nat.reduceAdd]
  obtain ⟨hb, h⟩ := brg h
  refine br_t hb ?_
  obtain ⟨r_3, h1, h⟩ := bd h
  refine call_aft (s_l00Src_next_c h1) ?_
  simp +decide only [go_sem, reduceIte, Nat.reduceAdd]
  obtain ⟨r_4, h1, h⟩ := bd h
  refine call_aft (s_l00Src_entries_c h1) ?_
  simp +decide only [go_sem, reduceIte, Nat.reduceAdd]
  obtain ⟨r_5, h1, h⟩ := bd h
  refine call_aft (s_l00Src_entries_c h1) ?_
  simp +decide only [go_sem, reduceIte, Nat.reduceAdd]
  obtain ⟨r_6, h1, h⟩ := bd h
  refine call_aft (s_l00Src_entries_c h1) ?_
  simp +decide only [go_sem, reduceIte, Nat.reduceAdd]
  obtain rfl := Option.some.inj h
  first | rfl | (simp only [List.length_set, go_sem]; done)
noncomputable def s_SystemDrawn (code : (List UInt8)) : Option (System) :=
  (s_l00Source code).bind fun r_ =>
  (s_l00Src_system r_).bind fun r_2 =>
  some r_2.1
theorem s_SystemDrawn_c {code : (List UInt8)} {r : System} (h : s_SystemDrawn code = some r) : Call tab ow 19 [sl eU8 code] [] = some (.agg [I r.Rows, I r.Cols, I r.Publics, sl eEntry r.A, sl eEntry r.B, sl eEntry r.C], []) := by
  rw [run_s_SystemDrawn]
  unfold s_SystemDrawn at h
  simp +decide only [b_s_SystemDrawn, go_sem, reduceIte, Nat.reduceAdd]
  obtain ⟨r_, h1, h⟩ := bd h
  refine call_aft (s_l00Source_c h1) ?_
  simp +decide only [go_sem, reduceIte, Nat.reduceAdd]
  obtain ⟨r_2, h1, h⟩ := bd h
  refine call_aft (s_l00Src_system_c h1) ?_
  simp +decide only [go_sem, reduceIte, Nat.reduceAdd]
  obtain rfl := Option.some.inj h
  first | rfl | (simp only [List.length_set, go_sem]; done)
noncomputable def s_l00Src_setting (m : l00Src) : Option (Setting × l00Src) :=
  (s_l00Src_next (2 : Int) m).bind fun r_ =>
  (s_l00Src_next (3 : Int) r_.2).bind fun r_2 =>
  (s_l00Src_next (3 : Int) r_2.2).bind fun r_3 =>
  some ((Setting.mk (IntKind.wrap .i64 ((1 : Int) + r_.1)) (IntKind.wrap .i64 ((1 : Int) + r_2.1)) r_3.1), r_3.2)
theorem s_l00Src_setting_c {m : l00Src} {r : Setting × l00Src} (h : s_l00Src_setting m = some r) : Call tab ow 36 [.ptr 0 0 0 1] [⟨3, true, [[sl eU8 m.code, I m.at_, I m.seed]]⟩] = some (.agg [I r.1.Rate, I r.1.Queries, I r.1.Grind], [⟨3, true, [[sl eU8 r.2.code, I r.2.at_, I r.2.seed]]⟩]) := by
  rw [run_s_l00Src_setting]
  unfold s_l00Src_setting at h
  simp +decide only [b_s_l00Src_setting, go_sem, reduceIte, Nat.reduceAdd]
  obtain ⟨r_, h1, h⟩ := bd h
  refine call_aft (s_l00Src_next_c h1) ?_
  simp +decide only [go_sem, reduceIte, Nat.reduceAdd]
  obtain ⟨r_2, h1, h⟩ := bd h
  refine call_aft (s_l00Src_next_c h1) ?_
  simp +decide only [go_sem, reduceIte, Nat.reduceAdd]
  obtain ⟨r_3, h1, h⟩ := bd h
  refine call_aft (s_l00Src_next_c h1) ?_
  simp +decide only [go_sem, reduceIte, Nat.reduceAdd]
  obtain rfl := Option.some.inj h
  first | rfl | (simp only [List.length_set, go_sem]; done)
noncomputable def s_SettingOf (code : (List UInt8)) : Option (Setting) :=
  (s_l00Source code).bind fun r_ =>
  (s_l00Src_setting r_).bind fun r_2 =>
  some r_2.1
theorem s_SettingOf_c {code : (List UInt8)} {r : Setting} (h : s_SettingOf code = some r) : Call tab ow 20 [sl eU8 code] [] = some (.agg [I r.Rate, I r.Queries, I r.Grind], []) := by
  rw [run_s_SettingOf]
  unfold s_SettingOf at h
  simp +decide only [b_s_SettingOf, go_sem, reduceIte, Nat.reduceAdd]
  obtain ⟨r_, h1, h⟩ := bd h
  refine call_aft (s_l00Source_c h1) ?_
  simp +decide only [go_sem, reduceIte, Nat.reduceAdd]
  obtain ⟨r_2, h1, h⟩ := bd h
  refine call_aft (s_l00Src_setting_c h1) ?_
  simp +decide only [go_sem, reduceIte, Nat.reduceAdd]
  obtain rfl := Option.some.inj h
  first | rfl | (simp only [List.length_set, go_sem]; done)
noncomputable def i_in (n : Int) (low : Int) (high : Int) : Option (Bool) :=
  br (decide (low ≤ n)) (
    some (decide (n ≤ high))) (
    some false)
theorem i_in_c {n : Int} {low : Int} {high : Int} {r : Bool} (h : i_in n low high = some r) : Call tab ow 33 [I n, I low, I high] [] = some (B r, []) := by
  rw [run_i_in]
  unfold i_in at h
  simp +decide only [b_i_in, go_sem, reduceIte, Nat.reduceAdd]
  rcases brc h with ⟨hb, h⟩ | ⟨hb, h⟩
  · refine br_t hb ?_
    obtain rfl := Option.some.inj h
    first | rfl | (simp only [List.length_set, go_sem]; done)
  · refine br_f hb ?_
    obtain rfl := Option.some.inj h
    first | rfl | (simp only [List.length_set, go_sem]; done)
noncomputable def i_System_half (s : System) : Option (Int) :=
  br (decide (0 ≤ (IntKind.wrap .i64 (s.Cols - (1 : Int))))) (
    some (shl64 .i64 (1 : Int) (IntKind.wrap .i64 (s.Cols - (1 : Int))))) (
    none)
theorem i_System_half_c {s : System} {r : Int} (h : i_System_half s = some r) : Call tab ow 49 [.agg [I s.Rows, I s.Cols, I s.Publics, sl eEntry s.A, sl eEntry s.B, sl eEntry s.C]] [] = some (I r, []) := by
  rw [run_i_System_half]
  unfold i_System_half at h
  simp +decide only [b_i_System_half, go_sem, reduceIte, Nat.reduceAdd]
  obtain ⟨hb, h⟩ := brg h
  refine br_t hb ?_
  obtain rfl := Option.some.inj h
  first | rfl | (simp only [List.length_set, go_sem]; done)
noncomputable def i_System_matrices (s : System) : Option (((List Entry) × (List Entry) × (List Entry))) :=
  some (s.A, s.B, s.C)
theorem i_System_matrices_c {s : System} {r : ((List Entry) × (List Entry) × (List Entry))} (h : i_System_matrices s = some r) : Call tab ow 50 [.agg [I s.Rows, I s.Cols, I s.Publics, sl eEntry s.A, sl eEntry s.B, sl eEntry s.C]] [] = some (.agg [sl eEntry r.1, sl eEntry r.2.1, sl eEntry r.2.2], []) := by
  rw [run_i_System_matrices]
  unfold i_System_matrices at h
  simp +decide only [b_i_System_matrices, go_sem, reduceIte, Nat.reduceAdd]
  obtain rfl := Option.some.inj h
  first | rfl | (simp only [List.length_set, go_sem]; done)
noncomputable def cmp_isNaN_int (x : Int) : Option (Bool) :=
  some (x != x)
theorem cmp_isNaN_int_c {x : Int} {r : Bool} (h : cmp_isNaN_int x = some r) : Call tab ow 68 [I x] [] = some (B r, []) := by
  rw [run_cmp_isNaN_int]
  unfold cmp_isNaN_int at h
  simp +decide only [b_cmp_isNaN_int, go_sem, reduceIte, Nat.reduceAdd]
  obtain rfl := Option.some.inj h
  first | rfl | (simp only [List.length_set, go_sem]; done)
noncomputable def cmp_Compare_int (x : Int) (y : Int) : Option (Int) :=
  (cmp_isNaN_int x).bind fun r_ =>
  (cmp_isNaN_int y).bind fun r_2 =>
  br r_ (
    br r_2 (
      some (0 : Int)) (
      some (-1 : Int))) (
    br r_2 (
      some (1 : Int)) (
      br (decide (x < y)) (
        some (-1 : Int)) (
        br (decide (x > y)) (
          some (1 : Int)) (
          some (0 : Int)))))
theorem cmp_Compare_int_c {x : Int} {y : Int} {r : Int} (h : cmp_Compare_int x y = some r) : Call tab ow 67 [I x, I y] [] = some (I r, []) := by
  rw [run_cmp_Compare_int]
  unfold cmp_Compare_int at h
  simp +decide only [b_cmp_Compare_int, go_sem, reduceIte, Nat.reduceAdd]
  obtain ⟨r_, h1, h⟩ := bd h
  refine call_aft (cmp_isNaN_int_c h1) ?_
  simp +decide only [go_sem, reduceIte, Nat.reduceAdd]
  obtain ⟨r_2, h1, h⟩ := bd h
  refine call_aft (cmp_isNaN_int_c h1) ?_
  simp +decide only [go_sem, reduceIte, Nat.reduceAdd]
  rcases brc h with ⟨hb, h⟩ | ⟨hb, h⟩
  · refine br_t hb ?_
    rcases brc h with ⟨hb, h⟩ | ⟨hb, h⟩
    · refine br_t hb ?_
      obtain rfl := Option.some.inj h
      first | rfl | (simp only [List.length_set, go_sem]; done)
    · refine br_f hb ?_
      obtain rfl := Option.some.inj h
      first | rfl | (simp only [List.length_set, go_sem]; done)
  · refine br_f hb ?_
    rcases brc h with ⟨hb, h⟩ | ⟨hb, h⟩
    · refine br_t hb ?_
      obtain rfl := Option.some.inj h
      first | rfl | (simp only [List.length_set, go_sem]; done)
    · refine br_f hb ?_
      rcases brc h with ⟨hb, h⟩ | ⟨hb, h⟩
      · refine br_t hb ?_
        obtain rfl := Option.some.inj h
        first | rfl | (simp only [List.length_set, go_sem]; done)
      · refine br_f hb ?_
        rcases brc h with ⟨hb, h⟩ | ⟨hb, h⟩
        · refine br_t hb ?_
          obtain rfl := Option.some.inj h
          first | rfl | (simp only [List.length_set, go_sem]; done)
        · refine br_f hb ?_
          obtain rfl := Option.some.inj h
          first | rfl | (simp only [List.length_set, go_sem]; done)
noncomputable def cmp_Or_int_1_s (zero : Int) (t : List Int) (t2 : Int) : Int → Option ((Int) ⊕ (Int ⊕ (Int × Bool)))
  | t3 =>
    br (decide (t3 < t2)) (
      (atL t t3).bind fun x =>
      br (x != zero) (
        some (.inr (.inl x))) (
        some (.inl (IntKind.wrap .i64 (t3 + (1 : Int)))))) (
      some (.inr (.inr (t3, decide (t3 < t2)))))
theorem cmp_Or_int_1_l {zero : Int} {t : List Int} {t2 : Int} {t3 : Int} {e : Int ⊕ (Int × Bool)} (h : Loop (cmp_Or_int_1_s zero t t2) t3 = some e) : LoopX tab ow (.close []) b_cmp_Or_int_3 ⟨[(3, I zero), (6, sl eI t), (7, I t2), (8, I t3)], []⟩ = some ((alt (fun e => ((.ret, ⟨[(2, I e)], []⟩) : AExit × St)) (fun e => (.exit 0, ⟨[(3, I zero), (6, sl eI t), (7, I t2), (8, I e.1), (9, B e.2)], []⟩))) e) := by
  refine loop_runG (S := Int) (eS := fun s => ⟨[(3, I zero), (6, sl eI t), (7, I t2), (8, I s)], []⟩) (eE := fun e => (alt (fun e => ((.ret, ⟨[(2, I e)], []⟩) : AExit × St)) (fun e => (.exit 0, ⟨[(3, I zero), (6, sl eI t), (7, I t2), (8, I e.1), (9, B e.2)], []⟩))) e) (fun e => ?_) (fun t3 o h => ?_) h
  · rcases e with e | e <;> simp [alt]
  · skip
    simp only [cmp_Or_int_1_s] at h
    show Rn tab ow _ _ ⟨[(3, I zero), (6, sl eI t), (7, I t2), (8, I t3)], []⟩ = _
    simp +decide only [b_cmp_Or_int_3, go_sem, reduceIte, Nat.reduceAdd]
    rcases brc h with ⟨hb, h⟩ | ⟨hb, h⟩
    · refine br_t hb ?_
      obtain ⟨x, h1, h⟩ := bd h
      refine bind_some h1 ?_
      rcases brc h with ⟨hb, h⟩ | ⟨hb, h⟩
      · refine br_t hb ?_
        obtain rfl := Option.some.inj h
        first | rfl | (simp only [List.length_set, go_sem]; done)
      · refine br_f hb ?_
        obtain rfl := Option.some.inj h
        first | rfl | (simp only [List.length_set, go_sem]; done)
    · refine br_f hb ?_
      obtain rfl := Option.some.inj h
      first | rfl | (simp only [List.length_set, go_sem]; done)
noncomputable def cmp_Or_int (vals : (List Int)) : Option (Int) :=
  (Loop (cmp_Or_int_1_s (0 : Int) vals ((vals.length : Nat) : Int)) (0 : Int)).bind (alt (fun e_2 =>
    some e_2) (fun e_3 =>
    some (0 : Int)))
theorem cmp_Or_int_c {vals : (List Int)} {r : Int} (h : cmp_Or_int vals = some r) : Call tab ow 66 [sl eI vals] [] = some (I r, []) := by
  rw [run_cmp_Or_int]
  unfold cmp_Or_int at h
  simp +decide only [b_cmp_Or_int, go_sem, reduceIte, Nat.reduceAdd]
  obtain ⟨e_, h1, h⟩ := bd h
  refine goR_of (cmp_Or_int_1_l h1) ?_
  rcases e_ with e_2 | e_3
  · simp +decide only [go_sem, reduceIte, Nat.reduceAdd]
    obtain rfl := Option.some.inj h
    first | rfl | (simp only [List.length_set, go_sem]; done)
  · simp +decide only [go_sem, reduceIte, Nat.reduceAdd]
    obtain rfl := Option.some.inj h
    first | rfl | (simp only [List.length_set, go_sem]; done)
section
theorem i_Entry_order_k0 : mkR 2010 [] = rws eI [] := rfl
attribute [local go_sem] i_Entry_order_k0
noncomputable def i_Entry_order (e_ : Entry) (f : Entry) : Option (Int) :=
  (cmp_Compare_int e_.Row f.Row).bind fun r_ =>
  (cmp_Compare_int e_.Col f.Col).bind fun r_2 =>
  (cmp_Or_int ([r_, r_2] : List Int)).bind fun r_3 =>
  some r_3
theorem i_Entry_order_c {e_ : Entry} {f : Entry} {r : Int} (h : i_Entry_order e_ f = some r) : Call tab ow 64 [.agg [I e_.Row, I e_.Col, I e_.Value], .agg [I f.Row, I f.Col, I f.Value]] [] = some (I r, []) := by
  rw [run_i_Entry_order]
  unfold i_Entry_order at h
  simp +decide only [b_i_Entry_order, go_sem, reduceIte, Nat.reduceAdd]
  obtain ⟨r_, h1, h⟩ := bd h
  refine call_aftD (cmp_Compare_int_c h1) ?_
  simp +decide only [go_sem, reduceIte, Nat.reduceAdd]
  obtain ⟨r_2, h1, h⟩ := bd h
  refine call_aftD (cmp_Compare_int_c h1) ?_
  simp +decide only [go_sem, reduceIte, Nat.reduceAdd]
  obtain ⟨r_3, h1, h⟩ := bd h
  refine call_aftD (cmp_Or_int_c h1) ?_
  simp +decide only [go_sem, reduceIte, Nat.reduceAdd]
  obtain rfl := Option.some.inj h
  first | rfl | (simp only [List.length_set, go_sem]; done)
end
noncomputable def i_isMatrix_1_s (list2 : List Entry) (rows2 : Int) (cols2 : Int) (t : List Entry) (t2 : Int) : Int → Option ((Int) ⊕ ((Int × Int × Int) ⊕ (Int × Bool)))
  | t3 =>
    br (decide (t3 < t2)) (
      (atL t t3).bind fun x =>
      (i_in x.Row (0 : Int) (IntKind.wrap .i64 (rows2 - (1 : Int)))).bind fun r_ =>
      br (!r_) (
        some (.inr (.inl (x.Row, x.Col, x.Value)))) (
        (i_in x.Col (0 : Int) (IntKind.wrap .i64 (cols2 - (1 : Int)))).bind fun r_2 =>
        br (!r_2) (
          some (.inr (.inl (x.Row, x.Col, x.Value)))) (
          (i_in x.Value (1 : Int) (2130706432 : Int)).bind fun r_3 =>
          br (!r_3) (
            some (.inr (.inl (x.Row, x.Col, x.Value)))) (
            br (decide (t3 > (0 : Int))) (
              (atL list2 (IntKind.wrap .i64 (t3 - (1 : Int)))).bind fun x2 =>
              (i_Entry_order x2 x).bind fun r_4 =>
              br (decide (r_4 ≥ (0 : Int))) (
                some (.inr (.inl (x.Row, x.Col, x.Value)))) (
                some (.inl (IntKind.wrap .i64 (t3 + (1 : Int)))))) (
              some (.inl (IntKind.wrap .i64 (t3 + (1 : Int))))))))) (
      some (.inr (.inr (t3, decide (t3 < t2)))))
theorem i_isMatrix_1_l {list2 : List Entry} {rows2 : Int} {cols2 : Int} {t : List Entry} {t2 : Int} {t3 : Int} {e : (Int × Int × Int) ⊕ (Int × Bool)} (h : Loop (i_isMatrix_1_s list2 rows2 cols2 t t2) t3 = some e) : LoopX tab ow (.close [4003, 5004, 5011, 5017, 5030]) b_i_isMatrix_2 ⟨[(0, sl eEntry list2), (1, I rows2), (2, I cols2), (9, sl eEntry t), (10, I t2), (11, I t3)], []⟩ = some ((alt (fun e => ((.ret, ⟨[(6, B false)], [(4003, ⟨3, true, [[I e.1, I e.2.1, I e.2.2]]⟩)]⟩) : AExit × St)) (fun e => (.exit 0, ⟨[(0, sl eEntry list2), (1, I rows2), (2, I cols2), (9, sl eEntry t), (10, I t2), (11, I e.1), (12, B e.2)], []⟩))) e) := by
  refine loop_runG (S := Int) (eS := fun s => ⟨[(0, sl eEntry list2), (1, I rows2), (2, I cols2), (9, sl eEntry t), (10, I t2), (11, I s)], []⟩) (eE := fun e => (alt (fun e => ((.ret, ⟨[(6, B false)], [(4003, ⟨3, true, [[I e.1, I e.2.1, I e.2.2]]⟩)]⟩) : AExit × St)) (fun e => (.exit 0, ⟨[(0, sl eEntry list2), (1, I rows2), (2, I cols2), (9, sl eEntry t), (10, I t2), (11, I e.1), (12, B e.2)], []⟩))) e) (fun e => ?_) (fun t3 o h => ?_) h
  · rcases e with e | e <;> simp [alt]
  · skip
    simp only [i_isMatrix_1_s] at h
    show Rn tab ow _ _ ⟨[(0, sl eEntry list2), (1, I rows2), (2, I cols2), (9, sl eEntry t), (10, I t2), (11, I t3)], []⟩ = _
    simp +decide only [b_i_isMatrix_2, go_sem, reduceIte, Nat.reduceAdd]
    rcases brc h with ⟨hb, h⟩ | ⟨hb, h⟩
    · refine br_t hb ?_
      obtain ⟨x, h1, h⟩ := bd h
      refine bind_some h1 ?_
      obtain ⟨r_, h1, h⟩ := bd h
      refine call_aftD (i_in_c h1) ?_
      simp +decide only [go_sem, reduceIte, Nat.reduceAdd]
      rcases brc h with ⟨hb, h⟩ | ⟨hb, h⟩
      · refine br_t hb ?_
        obtain rfl := Option.some.inj h
        first | rfl | (simp only [List.length_set, go_sem]; done)
      · refine br_f hb ?_
        obtain ⟨r_2, h1, h⟩ := bd h
        refine call_aftD (i_in_c h1) ?_
        simp +decide only [go_sem, reduceIte, Nat.reduceAdd]
        rcases brc h with ⟨hb, h⟩ | ⟨hb, h⟩
        · refine br_t hb ?_
          obtain rfl := Option.some.inj h
          first | rfl | (simp only [List.length_set, go_sem]; done)
        · refine br_f hb ?_
          obtain ⟨r_3, h1, h⟩ := bd h
          refine call_aftD (i_in_c h1) ?_
          simp +decide only [go_sem, reduceIte, Nat.reduceAdd]
          rcases brc h with ⟨hb, h⟩ | ⟨hb, h⟩
          · refine br_t hb ?_
            obtain rfl := Option.some.inj h
            first | rfl | (simp only [List.length_set, go_sem]; done)
          · refine br_f hb ?_
            rcases brc h with ⟨hb, h⟩ | ⟨hb, h⟩
            · refine br_t hb ?_
              obtain ⟨x2, h1, h⟩ := bd h
              refine bind_some h1 ?_
              obtain ⟨r_4, h1, h⟩ := bd h
              refine call_aftD (i_Entry_order_c h1) ?_
              simp +decide only [go_sem, reduceIte, Nat.reduceAdd]
              rcases brc h with ⟨hb, h⟩ | ⟨hb, h⟩
              · refine br_t hb ?_
                obtain rfl := Option.some.inj h
                first | rfl | (simp only [List.length_set, go_sem]; done)
              · refine br_f hb ?_
                obtain rfl := Option.some.inj h
                first | rfl | (simp only [List.length_set, go_sem]; done)
            · refine br_f hb ?_
              obtain rfl := Option.some.inj h
              first | rfl | (simp only [List.length_set, go_sem]; done)
    · refine br_f hb ?_
      obtain rfl := Option.some.inj h
      first | rfl | (simp only [List.length_set, go_sem]; done)
noncomputable def i_isMatrix (list : (List Entry)) (rows : Int) (cols : Int) : Option (Bool) :=
  (Loop (i_isMatrix_1_s list rows cols list ((list.length : Nat) : Int)) (0 : Int)).bind (alt (fun e_2 =>
    some false) (fun e_3 =>
    some (decide (((list.length : Nat) : Int) ≤ (200 : Int)))))
theorem i_isMatrix_c {list : (List Entry)} {rows : Int} {cols : Int} {r : Bool} (h : i_isMatrix list rows cols = some r) : Call tab ow 51 [sl eEntry list, I rows, I cols] [] = some (B r, []) := by
  rw [run_i_isMatrix]
  unfold i_isMatrix at h
  simp +decide only [b_i_isMatrix, go_sem, reduceIte, Nat.reduceAdd]
  obtain ⟨e_, h1, h⟩ := bd h
  refine goR_of (i_isMatrix_1_l h1) ?_
  rcases e_ with e_2 | e_3
  · simp +decide only [go_sem, reduceIte, Nat.reduceAdd]
    obtain rfl := Option.some.inj h
    first | rfl | (simp only [List.length_set, go_sem]; done)
  · simp +decide only [go_sem, reduceIte, Nat.reduceAdd]
    obtain rfl := Option.some.inj h
    first | rfl | (simp only [List.length_set, go_sem]; done)
noncomputable def i_SystemOK (s : System) : Option (Bool) :=
  (i_in s.Rows (1 : Int) (5 : Int)).bind fun r_ =>
  br (!r_) (
    some false) (
    (i_in s.Cols (2 : Int) (5 : Int)).bind fun r_2 =>
    br (!r_2) (
      some false) (
      (i_System_half s).bind fun r_3 =>
      (i_in s.Publics (0 : Int) (IntKind.wrap .i64 (r_3 - (1 : Int)))).bind fun r_4 =>
      br (!r_4) (
        some false) (
        (i_System_matrices s).bind fun r_5 =>
        br (decide (0 ≤ s.Rows)) (
          br (decide (0 ≤ s.Cols)) (
            (i_isMatrix r_5.1 (shl64 .i64 (1 : Int) s.Rows) (shl64 .i64 (1 : Int) s.Cols)).bind fun r_6 =>
            br (!r_6) (
              some false) (
              br (decide (0 ≤ s.Rows)) (
                br (decide (0 ≤ s.Cols)) (
                  (i_isMatrix r_5.2.1 (shl64 .i64 (1 : Int) s.Rows) (shl64 .i64 (1 : Int) s.Cols)).bind fun r_7 =>
                  br (!r_7) (
                    some false) (
                    br (decide (0 ≤ s.Rows)) (
                      br (decide (0 ≤ s.Cols)) (
                        (i_isMatrix r_5.2.2 (shl64 .i64 (1 : Int) s.Rows) (shl64 .i64 (1 : Int) s.Cols)).bind fun r_8 =>
                        br (!r_8) (
                          some false) (
                          some true)) (
                        none)) (
                      none))) (
                  none)) (
                none))) (
            none)) (
          none))))
theorem i_SystemOK_c {s : System} {r : Bool} (h : i_SystemOK s = some r) : Call tab ow 37 [.agg [I s.Rows, I s.Cols, I s.Publics, sl eEntry s.A, sl eEntry s.B, sl eEntry s.C]] [] = some (B r, []) := by
  rw [run_i_SystemOK]
  unfold i_SystemOK at h
  simp +decide only [b_i_SystemOK, go_sem, reduceIte, Nat.reduceAdd, Int.reduceAdd, Int.reduceMul, Int.reduceSub]
  obtain ⟨r_, h1, h⟩ := bd h
  refine call_aftD (i_in_c h1) ?_
  simp +decide only [go_sem, reduceIte, Nat.reduceAdd, Int.reduceAdd, Int.reduceMul, Int.reduceSub]
  rcases brc h with ⟨hb, h⟩ | ⟨hb, h⟩
  · refine br_t hb ?_
    obtain rfl := Option.some.inj h
    first | rfl | (simp only [List.length_set, go_sem]; done)
  · refine br_f hb ?_
    obtain ⟨r_2, h1, h⟩ := bd h
    refine call_aftD (i_in_c h1) ?_
    simp +decide only [go_sem, reduceIte, Nat.reduceAdd, Int.reduceAdd, Int.reduceMul, Int.reduceSub]
    rcases brc h with ⟨hb, h⟩ | ⟨hb, h⟩
    · refine br_t hb ?_
      obtain rfl := Option.some.inj h
      first | rfl | (simp only [List.length_set, go_sem]; done)
    · refine br_f hb ?_
      obtain ⟨r_3, h1, h⟩ := bd h
      refine call_aftD (i_System_half_c h1) ?_
      simp +decide only [go_sem, reduceIte, Nat.reduceAdd, Int.reduceAdd, Int.reduceMul, Int.reduceSub]
      obtain ⟨r_4, h1, h⟩ := bd h
      refine call_aftD (i_in_c h1) ?_
      simp +decide only [go_sem, reduceIte, Nat.reduceAdd, Int.reduceAdd, Int.reduceMul, Int.reduceSub]
      rcases brc h with ⟨hb, h⟩ | ⟨hb, h⟩
      · refine br_t hb ?_
        obtain rfl := Option.some.inj h
        first | rfl | (simp only [List.length_set, go_sem]; done)
      · refine br_f hb ?_
        obtain ⟨r_5, h1, h⟩ := bd h
        refine call_aft (i_System_matrices_c h1) ?_
        simp +decide only [go_sem, reduceIte, Nat.reduceAdd, Int.reduceAdd, Int.reduceMul, Int.reduceSub]
        refine unroll_of ?_
        simp +decide only [b_i_SystemOK_4, go_sem, reduceIte, Nat.reduceAdd, Int.reduceAdd, Int.reduceMul, Int.reduceSub]
        obtain ⟨hb, h⟩ := brg h
        refine br_t hb ?_
        obtain ⟨hb, h⟩ := brg h
        refine br_t hb ?_
        obtain ⟨r_6, h1, h⟩ := bd h
        refine call_aftD (i_isMatrix_c h1) ?_
        simp +decide only [go_sem, reduceIte, Nat.reduceAdd, Int.reduceAdd, Int.reduceMul, Int.reduceSub]
        rcases brc h with ⟨hb, h⟩ | ⟨hb, h⟩
        · refine br_t hb ?_
          obtain rfl := Option.some.inj h
          first | rfl | (simp only [List.length_set, go_sem]; done)
        · refine br_f hb ?_
          refine unroll_of ?_
          simp +decide only [b_i_SystemOK_4, go_sem, reduceIte, Nat.reduceAdd, Int.reduceAdd, Int.reduceMul, Int.reduceSub]
          obtain ⟨hb, h⟩ := brg h
          refine br_t hb ?_
          obtain ⟨hb, h⟩ := brg h
          refine br_t hb ?_
          obtain ⟨r_7, h1, h⟩ := bd h
          refine call_aftD (i_isMatrix_c h1) ?_
          simp +decide only [go_sem, reduceIte, Nat.reduceAdd, Int.reduceAdd, Int.reduceMul, Int.reduceSub]
          rcases brc h with ⟨hb, h⟩ | ⟨hb, h⟩
          · refine br_t hb ?_
            obtain rfl := Option.some.inj h
            first | rfl | (simp only [List.length_set, go_sem]; done)
          · refine br_f hb ?_
            refine unroll_of ?_
            simp +decide only [b_i_SystemOK_4, go_sem, reduceIte, Nat.reduceAdd, Int.reduceAdd, Int.reduceMul, Int.reduceSub]
            obtain ⟨hb, h⟩ := brg h
            refine br_t hb ?_
            obtain ⟨hb, h⟩ := brg h
            refine br_t hb ?_
            obtain ⟨r_8, h1, h⟩ := bd h
            refine call_aftD (i_isMatrix_c h1) ?_
            simp +decide only [go_sem, reduceIte, Nat.reduceAdd, Int.reduceAdd, Int.reduceMul, Int.reduceSub]
            rcases brc h with ⟨hb, h⟩ | ⟨hb, h⟩
            · refine br_t hb ?_
              obtain rfl := Option.some.inj h
              first | rfl | (simp only [List.length_set, go_sem]; done)
            · refine br_f hb ?_
              refine unroll_of ?_
              simp +decide only [b_i_SystemOK_4, go_sem, reduceIte, Nat.reduceAdd, Int.reduceAdd, Int.reduceMul, Int.reduceSub]
              obtain rfl := Option.some.inj h
              first | rfl | (simp only [List.length_set, go_sem]; done)
noncomputable def i_SettingOK (t : Setting) : Option (Bool) :=
  (i_in t.Rate (1 : Int) (3 : Int)).bind fun r_ =>
  br r_ (
    (i_in t.Queries (1 : Int) (8 : Int)).bind fun r_2 =>
    br r_2 (
      (i_in t.Grind (0 : Int) (12 : Int)).bind fun r_3 =>
      some r_3) (
      some false)) (
    some false)
theorem i_SettingOK_c {t : Setting} {r : Bool} (h : i_SettingOK t = some r) : Call tab ow 30 [.agg [I t.Rate, I t.Queries, I t.Grind]] [] = some (B r, []) := by
  rw [run_i_SettingOK]
  unfold i_SettingOK at h
  simp +decide only [b_i_SettingOK, go_sem, reduceIte, Nat.reduceAdd]
  obtain ⟨r_, h1, h⟩ := bd h
  refine call_aft (i_in_c h1) ?_
  simp +decide only [go_sem, reduceIte, Nat.reduceAdd]
  rcases brc h with ⟨hb, h⟩ | ⟨hb, h⟩
  · refine br_t hb ?_
    obtain ⟨r_2, h1, h⟩ := bd h
    refine call_aft (i_in_c h1) ?_
    simp +decide only [go_sem, reduceIte, Nat.reduceAdd]
    rcases brc h with ⟨hb, h⟩ | ⟨hb, h⟩
    · refine br_t hb ?_
      obtain ⟨r_3, h1, h⟩ := bd h
      refine call_aft (i_in_c h1) ?_
      simp +decide only [go_sem, reduceIte, Nat.reduceAdd]
      obtain rfl := Option.some.inj h
      first | rfl | (simp only [List.length_set, go_sem]; done)
    · refine br_f hb ?_
      obtain rfl := Option.some.inj h
      first | rfl | (simp only [List.length_set, go_sem]; done)
  · refine br_f hb ?_
    obtain rfl := Option.some.inj h
    first | rfl | (simp only [List.length_set, go_sem]; done)
section
theorem i_four_k0 : mkR 2012 [] = rws eU8 [] := rfl
attribute [local go_sem] i_four_k0
noncomputable def i_four (n : Int) (l : List UInt8) : Option ((List UInt8)) :=
  br (fits ((l ++ ([(UInt8.ofInt (shr64 .i64 n (24 : Int))), (UInt8.ofInt (shr64 .i64 n (16 : Int))), (UInt8.ofInt (shr64 .i64 n (8 : Int))), (UInt8.ofInt n)] : List UInt8)).length) 1) (
    some (l ++ ([(UInt8.ofInt (shr64 .i64 n (24 : Int))), (UInt8.ofInt (shr64 .i64 n (16 : Int))), (UInt8.ofInt (shr64 .i64 n (8 : Int))), (UInt8.ofInt n)] : List UInt8))) (
    none)
theorem i_four_c {n : Int} {l : List UInt8} {r : (List UInt8)} (h : i_four n l = some r) : Call tab ow 65 [.sl 0 0 l.length, I n] [⟨1, false, rws eU8 l⟩] = some (.sl 0 0 r.length, [⟨1, false, rws eU8 r⟩]) := by
  rw [run_i_four]
  unfold i_four at h
  simp +decide only [b_i_four, go_sem, reduceIte, Nat.reduceAdd]
  obtain ⟨hb, h⟩ := brg h
  refine br_t hb ?_
  obtain rfl := Option.some.inj h
  first | rfl | (simp only [List.length_set, go_sem]; done)
end
end Go.AI.Fn
