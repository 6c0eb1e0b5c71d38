/- Walks through the program, with open values. -/
import Derived.Test.YthjmakpfalhadaaStr
import Derived.Test.YthjmakpfalhadaaTb2
set_option linter.unusedVariables false
set_option linter.unusedSimpArgs false
set_option maxRecDepth 100000
set_option maxHeartbeats 1000000
namespace Go.AI.Fn
noncomputable def s_l00Source (code : (List UInt8)) : Option (l00Src) :=
  some (l00Src.mk code (0 : Int) (((code.length : Nat) : Int).tmod (1000 : Int)))
theorem s_l00Source_c {code : (List UInt8)} {r : l00Src} (h : s_l00Source code = some r) : Call tab ow 93 [sl eU8 code] [] = some (.ptr 0 0 0 1, [⟨3, true, [[sl eU8 r.code, I r.at_, I r.seed]]⟩]) := by
  rw [run_s_l00Source]
  unfold s_l00Source at h
  simp +decide only [b_s_l00Source, go_sem, reduceIte, Nat.reduceAdd]
  obtain rfl := Option.some.inj h
  first | rfl | (simp only [List.length_set, go_sem]; done)
noncomputable def s_l00Src_byte (m : l00Src) : Option (Int × l00Src) :=
  br (decide ((IntKind.wrap .i64 (m.at_ + (1 : Int))) ≤ ((m.code.length : Nat) : Int))) (
    (atL m.code (IntKind.wrap .i64 ((IntKind.wrap .i64 (m.at_ + (1 : Int))) - (1 : Int)))).bind fun x =>
    (atL m.code (IntKind.wrap .i64 ((IntKind.wrap .i64 (m.at_ + (1 : Int))) - (1 : Int)))).bind fun x2 =>
    some ((IntKind.wrap .i64 (x2.toNat : Int)), (l00Src.mk m.code (IntKind.wrap .i64 (m.at_ + (1 : Int))) ((IntKind.wrap .i64 ((IntKind.wrap .i64 ((IntKind.wrap .i64 (m.seed * (31 : Int))) + (IntKind.wrap .i64 (x.toNat : Int)))) + (7 : Int))).tmod (2147483648 : Int))))) (
    br (decide ((IntKind.wrap .i64 (m.at_ + (1 : Int))) > (3000 : Int))) (
      some ((0 : Int), (l00Src.mk m.code (IntKind.wrap .i64 (m.at_ + (1 : Int))) m.seed))) (
      some (((IntKind.wrap .i64 (((IntKind.wrap .i64 ((IntKind.wrap .i64 (m.seed * (1103515245 : Int))) + (12345 : Int))).tmod (2147483648 : Int)).tdiv (65536 : Int))).tmod (256 : Int)), (l00Src.mk m.code (IntKind.wrap .i64 (m.at_ + (1 : Int))) ((IntKind.wrap .i64 ((IntKind.wrap .i64 (m.seed * (1103515245 : Int))) + (12345 : Int))).tmod (2147483648 : Int))))))
theorem s_l00Src_byte_c {m : l00Src} {r : Int × l00Src} (h : s_l00Src_byte m = some r) : Call tab ow 264 [.ptr 0 0 0 1] [⟨3, true, [[sl eU8 m.code, I m.at_, I m.seed]]⟩] = some (I r.1, [⟨3, true, [[sl eU8 r.2.code, I r.2.at_, I r.2.seed]]⟩]) := by
  rw [run_s_l00Src_byte]
  unfold s_l00Src_byte at h
  simp +decide only [b_s_l00Src_byte, go_sem, reduceIte, Nat.reduceAdd]
  rcases brc h with ⟨hb, h⟩ | ⟨hb, h⟩
  · refine br_t hb ?_
    obtain ⟨x, h1, h⟩ := bd h
    refine bind_some h1 ?_
    obtain ⟨x2, h1, h⟩ := bd h
    refine bind_some h1 ?_
    obtain rfl := Option.some.inj h
    first | rfl | (simp only [List.length_set, go_sem]; done)
  · refine br_f hb ?_
    rcases brc h with ⟨hb, h⟩ | ⟨hb, h⟩
    · refine br_t hb ?_
      obtain rfl := Option.some.inj h
      first | rfl | (simp only [List.length_set, go_sem]; done)
    · refine br_f hb ?_
      obtain rfl := Option.some.inj h
      first | rfl | (simp only [List.length_set, go_sem]; done)
noncomputable def s_l00Src_next (n : Int) (m : l00Src) : Option (Int × l00Src) :=
  br (decide (n ≤ (1 : Int))) (
    some ((0 : Int), m)) (
    br (decide (n ≤ (256 : Int))) (
      (s_l00Src_byte m).bind fun r_ =>
      br (decide (n ≠ 0)) (
        some ((r_.1.tmod n), r_.2)) (
        none)) (
      (s_l00Src_byte m).bind fun r_2 =>
      (s_l00Src_byte r_2.2).bind fun r_3 =>
      (s_l00Src_byte r_3.2).bind fun r_4 =>
      br (decide (n ≠ 0)) (
        some (((IntKind.wrap .i64 ((IntKind.wrap .i64 ((IntKind.wrap .i64 (r_2.1 * (65536 : Int))) + (IntKind.wrap .i64 (r_3.1 * (256 : Int))))) + r_4.1)).tmod n), r_4.2)) (
        none)))
theorem s_l00Src_next_c {n : Int} {m : l00Src} {r : Int × l00Src} (h : s_l00Src_next n m = some r) : Call tab ow 200 [.ptr 0 0 0 1, I n] [⟨3, true, [[sl eU8 m.code, I m.at_, I m.seed]]⟩] = some (I r.1, [⟨3, true, [[sl eU8 r.2.code, I r.2.at_, I r.2.seed]]⟩]) := by
  rw [run_s_l00Src_next]
  unfold s_l00Src_next at h
  simp +decide only [b_s_l00Src_next, go_sem, reduceIte, Nat.reduceAdd]
  rcases brc h with ⟨hb, h⟩ | ⟨hb, h⟩
  · refine br_t hb ?_
    obtain rfl := Option.some.inj h
    first | rfl | (simp only [List.length_set, go_sem]; done)
  · refine br_f hb ?_
    rcases brc h with ⟨hb, h⟩ | ⟨hb, h⟩
    · refine br_t hb ?_
      obtain ⟨r_, h1, h⟩ := bd h
      refine call_aft (s_l00Src_byte_c h1) ?_
      simp +decide only [go_sem, reduceIte, Nat.reduceAdd]
      obtain ⟨hb, h⟩ := brg h
      refine br_t hb ?_
      obtain rfl := Option.some.inj h
      first | rfl | (simp only [List.length_set, go_sem]; done)
    · refine br_f hb ?_
      obtain ⟨r_2, h1, h⟩ := bd h
      refine call_aft (s_l00Src_byte_c h1) ?_
      simp +decide only [go_sem, reduceIte, Nat.reduceAdd]
      obtain ⟨r_3, h1, h⟩ := bd h
      refine call_aft (s_l00Src_byte_c h1) ?_
      simp +decide only [go_sem, reduceIte, Nat.reduceAdd]
      obtain ⟨r_4, h1, h⟩ := bd h
      refine call_aft (s_l00Src_byte_c h1) ?_
      simp +decide only [go_sem, reduceIte, Nat.reduceAdd]
      obtain ⟨hb, h⟩ := brg h
      refine br_t hb ?_
      obtain rfl := Option.some.inj h
      first | rfl | (simp only [List.length_set, go_sem]; done)
noncomputable def s_l00Src_chance (n : Int) (m : l00Src) : Option (Bool × l00Src) :=
  (s_l00Src_next n m).bind fun r_ =>
  some ((r_.1 == (IntKind.wrap .i64 (n - (1 : Int)))), r_.2)
theorem s_l00Src_chance_c {n : Int} {m : l00Src} {r : Bool × l00Src} (h : s_l00Src_chance n m = some r) : Call tab ow 210 [.ptr 0 0 0 1, I n] [⟨3, true, [[sl eU8 m.code, I m.at_, I m.seed]]⟩] = some (B r.1, [⟨3, true, [[sl eU8 r.2.code, I r.2.at_, I r.2.seed]]⟩]) := by
  rw [run_s_l00Src_chance]
  unfold s_l00Src_chance at h
  simp +decide only [b_s_l00Src_chance, go_sem, reduceIte, Nat.reduceAdd]
  obtain ⟨r_, h1, h⟩ := bd h
  refine call_aft (s_l00Src_next_c h1) ?_
  simp +decide only [go_sem, reduceIte, Nat.reduceAdd]
  obtain rfl := Option.some.inj h
  first | rfl | (simp only [List.length_set, go_sem]; done)
noncomputable def s_l00Src_field_1_s : Int × Int × (List UInt8) × Int × Int → Option ((Int × Int × (List UInt8) × Int × Int) ⊕ ((Int × Int × Bool × (List UInt8) × Int × Int)))
  | (n, i, c, c2, c3) =>
    br (decide (i < (5 : Int))) (
      (s_l00Src_next (256 : Int) (l00Src.mk c c2 c3)).bind fun r_4 =>
      some (.inl (((IntKind.wrap .i64 ((IntKind.wrap .i64 (n * (256 : Int))) + r_4.1)).tmod (2130706433 : Int)), (IntKind.wrap .i64 (i + (1 : Int))), r_4.2.code, r_4.2.at_, r_4.2.seed))) (
      some (.inr (n, i, decide (i < (5 : Int)), c, c2, c3)))
theorem s_l00Src_field_1_l {n : Int} {i : Int} {c : List UInt8} {c2 : Int} {c3 : Int} {e : (Int × Int × Bool × (List UInt8) × Int × Int)} (h : Loop (s_l00Src_field_1_s) (n, i, c, c2, c3) = some e) : LoopX tab ow (.close [11003]) b_s_l00Src_field_8 ⟨[(0, .ptr 0 0 0 1), (3, I n), (4, I i)], [(0, ⟨3, true, [[sl eU8 c, I c2, I c3]]⟩)]⟩ = some ((.exit 1, ⟨[(0, .ptr 0 0 0 1), (3, I e.1), (4, I e.2.1), (17, B e.2.2.1)], [(0, ⟨3, true, [[sl eU8 e.2.2.2.1, I e.2.2.2.2.1, I e.2.2.2.2.2]]⟩)]⟩)) := by
  refine loop_runG (S := Int × Int × (List UInt8) × Int × Int) (eS := fun s => ⟨[(0, .ptr 0 0 0 1), (3, I s.1), (4, I s.2.1)], [(0, ⟨3, true, [[sl eU8 s.2.2.1, I s.2.2.2.1, I s.2.2.2.2]]⟩)]⟩) (eE := fun e => (.exit 1, ⟨[(0, .ptr 0 0 0 1), (3, I e.1), (4, I e.2.1), (17, B e.2.2.1)], [(0, ⟨3, true, [[sl eU8 e.2.2.2.1, I e.2.2.2.2.1, I e.2.2.2.2.2]]⟩)]⟩)) (fun e => ?_) (fun s o h => ?_) h
  · simp [alt]
  · obtain ⟨n, i, c, c2, c3⟩ := s
    simp only [s_l00Src_field_1_s] at h
    show Rn tab ow _ _ ⟨[(0, .ptr 0 0 0 1), (3, I n), (4, I i)], [(0, ⟨3, true, [[sl eU8 c, I c2, I c3]]⟩)]⟩ = _
    simp +decide only [b_s_l00Src_field_8, go_sem, reduceIte, Nat.reduceAdd]
    rcases brc h with ⟨hb, h⟩ | ⟨hb, h⟩
    · refine br_t hb ?_
      obtain ⟨r_4, h1, h⟩ := bd h
      refine call_aft (s_l00Src_next_c h1) ?_
      simp +decide only [go_sem, reduceIte, Nat.reduceAdd]
      obtain rfl := Option.some.inj h
      first | rfl | (simp only [List.length_set, go_sem]; done)
    · refine br_f hb ?_
      obtain rfl := Option.some.inj h
      first | rfl | (simp only [List.length_set, go_sem]; done)
noncomputable def s_l00Src_field (m : l00Src) : Option (Int × l00Src) :=
  (s_l00Src_next (5 : Int) m).bind fun r_ =>
  br (r_.1 == (0 : Int)) (
    (s_l00Src_next (4 : Int) r_.2).bind fun r_2 =>
    some (r_2.1, r_2.2)) (
    br (r_.1 == (1 : Int)) (
      (s_l00Src_next (3 : Int) r_.2).bind fun r_3 =>
      some ((IntKind.wrap .i64 ((2130706432 : Int) - r_3.1)), r_3.2)) (
      (Loop (s_l00Src_field_1_s) ((0 : Int), (0 : Int), r_.2.code, r_.2.at_, r_.2.seed)).bind fun e_ =>
      some (e_.1, (l00Src.mk e_.2.2.2.1 e_.2.2.2.2.1 e_.2.2.2.2.2))))
theorem s_l00Src_field_c {m : l00Src} {r : Int × l00Src} (h : s_l00Src_field m = some r) : Call tab ow 202 [.ptr 0 0 0 1] [⟨3, true, [[sl eU8 m.code, I m.at_, I m.seed]]⟩] = some (I r.1, [⟨3, true, [[sl eU8 r.2.code, I r.2.at_, I r.2.seed]]⟩]) := by
  rw [run_s_l00Src_field]
  unfold s_l00Src_field at h
  simp +decide only [b_s_l00Src_field, go_sem, reduceIte, Nat.reduceAdd]
  obtain ⟨r_, h1, h⟩ := bd h
  refine call_aft (s_l00Src_next_c h1) ?_
  simp +decide only [go_sem, reduceIte, Nat.reduceAdd]
  rcases brc h with ⟨hb, h⟩ | ⟨hb, h⟩
  · refine br_t hb ?_
    obtain ⟨r_2, h1, h⟩ := bd h
    refine call_aft (s_l00Src_next_c h1) ?_
    simp +decide only [go_sem, reduceIte, Nat.reduceAdd]
    obtain rfl := Option.some.inj h
    first | rfl | (simp only [List.length_set, go_sem]; done)
  · refine br_f hb ?_
    rcases brc h with ⟨hb, h⟩ | ⟨hb, h⟩
    · refine br_t hb ?_
      obtain ⟨r_3, h1, h⟩ := bd h
      refine call_aft (s_l00Src_next_c h1) ?_
      simp +decide only [go_sem, reduceIte, Nat.reduceAdd]
      obtain rfl := Option.some.inj h
      first | rfl | (simp only [List.length_set, go_sem]; done)
    · refine br_f hb ?_
      obtain ⟨e_, h1, h⟩ := bd h
      refine goR_of (s_l00Src_field_1_l h1) ?_
      simp +decide only [go_sem, reduceIte, Nat.reduceAdd]
      obtain rfl := Option.some.inj h
      first | rfl | (simp only [List.length_set, go_sem]; done)
section
theorem s_l00Src_entries_k0 : mkR 2000 [] = rws eEntry [] := rfl
attribute [local go_sem] s_l00Src_entries_k0
theorem s_l00Src_entries_k1 : mkR 10007 [] = rws eEntry [] := rfl
attribute [local go_sem] s_l00Src_entries_k1
noncomputable def s_l00Src_entries_2_s (rows3 : Int) (cols3 : Int) (r_2 : Int) : (List Entry) × Int × (List UInt8) × Int × Int → Option (((List Entry) × Int × (List UInt8) × Int × Int) ⊕ (((List Entry) × Int × Bool × (List UInt8) × Int × Int)))
  | (l2, c4, c5, c6, c7) =>
    br (decide (0 ≤ (IntKind.wrap .u64 cols3))) (
      br (decide (c4 < (shl64 .i64 (1 : Int) (IntKind.wrap .u64 cols3)))) (
        (s_l00Src_chance (4 : Int) (l00Src.mk c5 c6 c7)).bind fun r_3 =>
        br r_3.1 (
          (s_l00Src_field r_3.2).bind fun r_4 =>
          br (fits ((l2 ++ ([(Entry.mk r_2 c4 (mx (1 : Int) r_4.1))] : List Entry)).length) 24) (
            some (.inl ((l2 ++ ([(Entry.mk r_2 c4 (mx (1 : Int) r_4.1))] : List Entry)), (IntKind.wrap .i64 (c4 + (1 : Int))), r_4.2.code, r_4.2.at_, r_4.2.seed))) (
            none)) (
          some (.inl (l2, (IntKind.wrap .i64 (c4 + (1 : Int))), r_3.2.code, r_3.2.at_, r_3.2.seed)))) (
        some (.inr (l2, c4, decide (c4 < (shl64 .i64 (1 : Int) (IntKind.wrap .u64 cols3))), c5, c6, c7)))) (
      none)
theorem s_l00Src_entries_2_l {rows3 : Int} {cols3 : Int} {r_2 : Int} {l2 : List Entry} {c4 : Int} {c5 : List UInt8} {c6 : Int} {c7 : Int} {e : ((List Entry) × Int × Bool × (List UInt8) × Int × Int)} (h : Loop (s_l00Src_entries_2_s rows3 cols3 r_2) (l2, c4, c5, c6, c7) = some e) : LoopX tab ow (.close [9001, 10004, 10007, 10008]) b_s_l00Src_entries_6 ⟨[(0, .ptr 0 0 0 1), (1, I rows3), (2, I cols3), (7, .sl 2000 0 l2.length), (8, I r_2), (9, I c4)], [(0, ⟨3, true, [[sl eU8 c5, I c6, I c7]]⟩), (2000, ⟨3, false, rws eEntry l2⟩)]⟩ = some ((.exit 2, ⟨[(0, .ptr 0 0 0 1), (1, I rows3), (2, I cols3), (7, .sl 2000 0 e.1.length), (8, I r_2), (9, I e.2.1), (22, B e.2.2.1)], [(0, ⟨3, true, [[sl eU8 e.2.2.2.1, I e.2.2.2.2.1, I e.2.2.2.2.2]]⟩), (2000, ⟨3, false, rws eEntry e.1⟩)]⟩)) := by
  refine loop_runG (S := (List Entry) × Int × (List UInt8) × Int × Int) (eS := fun s => ⟨[(0, .ptr 0 0 0 1), (1, I rows3), (2, I cols3), (7, .sl 2000 0 s.1.length), (8, I r_2), (9, I s.2.1)], [(0, ⟨3, true, [[sl eU8 s.2.2.1, I s.2.2.2.1, I s.2.2.2.2]]⟩), (2000, ⟨3, false, rws eEntry s.1⟩)]⟩) (eE := fun e => (.exit 2, ⟨[(0, .ptr 0 0 0 1), (1, I rows3), (2, I cols3), (7, .sl 2000 0 e.1.length), (8, I r_2), (9, I e.2.1), (22, B e.2.2.1)], [(0, ⟨3, true, [[sl eU8 e.2.2.2.1, I e.2.2.2.2.1, I e.2.2.2.2.2]]⟩), (2000, ⟨3, false, rws eEntry e.1⟩)]⟩)) (fun e => ?_) (fun s o h => ?_) h
  · simp [alt]
  · obtain ⟨l2, c4, c5, c6, c7⟩ := s
    simp only [s_l00Src_entries_2_s] at h
    show Rn tab ow _ _ ⟨[(0, .ptr 0 0 0 1), (1, I rows3), (2, I cols3), (7, .sl 2000 0 l2.length), (8, I r_2), (9, I c4)], [(0, ⟨3, true, [[sl eU8 c5, I c6, I c7]]⟩), (2000, ⟨3, false, rws eEntry l2⟩)]⟩ = _
    simp +decide only [b_s_l00Src_entries_6, go_sem, reduceIte, Nat.reduceAdd]
    obtain ⟨hb, h⟩ := brg h
    refine br_t hb ?_
    rcases brc h with ⟨hb, h⟩ | ⟨hb, h⟩
    · refine br_t hb ?_
      obtain ⟨r_3, h1, h⟩ := bd h
      refine call_aft (s_l00Src_chance_c h1) ?_
      simp +decide only [go_sem, reduceIte, Nat.reduceAdd]
      rcases brc h with ⟨hb, h⟩ | ⟨hb, h⟩
      · refine br_t hb ?_
        obtain ⟨r_4, h1, h⟩ := bd h
        refine call_aft (s_l00Src_field_c h1) ?_
        simp +decide only [go_sem, reduceIte, Nat.reduceAdd]
        obtain ⟨hb, h⟩ := brg h
        refine br_t hb ?_
        obtain rfl := Option.some.inj h
        first | rfl | (simp only [List.length_set, go_sem]; done)
      · refine br_f hb ?_
        obtain rfl := Option.some.inj h
        first | rfl | (simp only [List.length_set, go_sem]; done)
    · refine br_f hb ?_
      obtain rfl := Option.some.inj h
      first | rfl | (simp only [List.length_set, go_sem]; done)
noncomputable def s_l00Src_entries_1_s (rows2 : Int) (cols2 : Int) : (List Entry) × Int × (List UInt8) × Int × Int → Option (((List Entry) × Int × (List UInt8) × Int × Int) ⊕ (((List Entry) × Int × Bool × (List UInt8) × Int × Int)))
  | (l, r_, c, c2, c3) =>
    br (decide (0 ≤ (IntKind.wrap .u64 rows2))) (
      br (decide (r_ < (shl64 .i64 (1 : Int) (IntKind.wrap .u64 rows2)))) (
        (Loop (s_l00Src_entries_2_s rows2 cols2 r_) (l, (0 : Int), c, c2, c3)).bind fun e_ =>
        some (.inl (e_.1, (IntKind.wrap .i64 (r_ + (1 : Int))), e_.2.2.2.1, e_.2.2.2.2.1, e_.2.2.2.2.2))) (
        some (.inr (l, r_, decide (r_ < (shl64 .i64 (1 : Int) (IntKind.wrap .u64 rows2))), c, c2, c3)))) (
      none)
theorem s_l00Src_entries_1_l {rows2 : Int} {cols2 : Int} {l : List Entry} {r_ : Int} {c : List UInt8} {c2 : Int} {c3 : Int} {e : ((List Entry) × Int × Bool × (List UInt8) × Int × Int)} (h : Loop (s_l00Src_entries_1_s rows2 cols2) (l, r_, c, c2, c3) = some e) : LoopX tab ow (.close [9001, 10004, 10007, 10008]) b_s_l00Src_entries_3 ⟨[(0, .ptr 0 0 0 1), (1, I rows2), (2, I cols2), (7, .sl 2000 0 l.length), (8, I r_)], [(0, ⟨3, true, [[sl eU8 c, I c2, I c3]]⟩), (2000, ⟨3, false, rws eEntry l⟩)]⟩ = some ((.exit 0, ⟨[(0, .ptr 0 0 0 1), (1, I rows2), (2, I cols2), (7, .sl 2000 0 e.1.length), (8, I e.2.1), (15, B e.2.2.1)], [(0, ⟨3, true, [[sl eU8 e.2.2.2.1, I e.2.2.2.2.1, I e.2.2.2.2.2]]⟩), (2000, ⟨3, false, rws eEntry e.1⟩)]⟩)) := by
  refine loop_runG (S := (List Entry) × Int × (List UInt8) × Int × Int) (eS := fun s => ⟨[(0, .ptr 0 0 0 1), (1, I rows2), (2, I cols2), (7, .sl 2000 0 s.1.length), (8, I s.2.1)], [(0, ⟨3, true, [[sl eU8 s.2.2.1, I s.2.2.2.1, I s.2.2.2.2]]⟩), (2000, ⟨3, false, rws eEntry s.1⟩)]⟩) (eE := fun e => (.exit 0, ⟨[(0, .ptr 0 0 0 1), (1, I rows2), (2, I cols2), (7, .sl 2000 0 e.1.length), (8, I e.2.1), (15, B e.2.2.1)], [(0, ⟨3, true, [[sl eU8 e.2.2.2.1, I e.2.2.2.2.1, I e.2.2.2.2.2]]⟩), (2000, ⟨3, false, rws eEntry e.1⟩)]⟩)) (fun e => ?_) (fun s o h => ?_) h
  · simp [alt]
  · obtain ⟨l, r_, c, c2, c3⟩ := s
    simp only [s_l00Src_entries_1_s] at h
    show Rn tab ow _ _ ⟨[(0, .ptr 0 0 0 1), (1, I rows2), (2, I cols2), (7, .sl 2000 0 l.length), (8, I r_)], [(0, ⟨3, true, [[sl eU8 c, I c2, I c3]]⟩), (2000, ⟨3, false, rws eEntry l⟩)]⟩ = _
    simp +decide only [b_s_l00Src_entries_3, go_sem, reduceIte, Nat.reduceAdd]
    obtain ⟨hb, h⟩ := brg h
    refine br_t hb ?_
    rcases brc h with ⟨hb, h⟩ | ⟨hb, h⟩
    · refine br_t hb ?_
      obtain ⟨e_, h1, h⟩ := bd h
      refine goR_of (s_l00Src_entries_2_l h1) ?_
      simp +decide only [go_sem, reduceIte, Nat.reduceAdd]
      obtain rfl := Option.some.inj h
      first | rfl | (simp only [List.length_set, go_sem]; done)
    · refine br_f hb ?_
      obtain rfl := Option.some.inj h
      first | rfl | (simp only [List.length_set, go_sem]; done)
noncomputable def s_l00Src_entries (rows : Int) (cols : Int) (m : l00Src) : Option ((List Entry) × l00Src) :=
  (Loop (s_l00Src_entries_1_s rows cols) (([] : List Entry), (0 : Int), m.code, m.at_, m.seed)).bind fun e_2 =>
  some (e_2.1, (l00Src.mk e_2.2.2.2.1 e_2.2.2.2.2.1 e_2.2.2.2.2.2))
theorem s_l00Src_entries_c {rows : Int} {cols : Int} {m : l00Src} {r : (List Entry) × l00Src} (h : s_l00Src_entries rows cols m = some r) : Call tab ow 201 [.ptr 0 0 0 1, I rows, I cols] [⟨3, true, [[sl eU8 m.code, I m.at_, I m.seed]]⟩] = some (sl eEntry r.1, [⟨3, true, [[sl eU8 r.2.code, I r.2.at_, I r.2.seed]]⟩]) := by
  rw [run_s_l00Src_entries]
  unfold s_l00Src_entries at h
  simp +decide only [b_s_l00Src_entries, go_sem, reduceIte, Nat.reduceAdd]
  obtain ⟨e_2, h1, h⟩ := bd h
  refine goR_of (s_l00Src_entries_1_l h1) ?_
  simp +decide only [go_sem, reduceIte, Nat.reduceAdd]
  obtain rfl := Option.some.inj h
  first | rfl | (simp only [List.length_set, go_sem]; done)
end
noncomputable def s_l00Src_system (m : l00Src) : Option (System × l00Src) :=
  (s_l00Src_next (2 : Int) m).bind fun r_ =>
  (s_l00Src_next (2 : Int) r_.2).bind fun r_2 =>
  br (decide (0 ≤ (IntKind.wrap .u64 (IntKind.wrap .i64 ((IntKind.wrap .i64 ((2 : Int) + r_2.1)) - (1 : Int)))))) (
    (s_l00Src_next (shl64 .i64 (1 : Int) (IntKind.wrap .u64 (IntKind.wrap .i64 ((IntKind.wrap .i64 ((2 : Int) + r_2.1)) - (1 : Int))))) r_2.2).bind fun r_3 =>
    (s_l00Src_entries (IntKind.wrap .i64 ((1 : Int) + r_.1)) (IntKind.wrap .i64 ((2 : Int) + r_2.1)) r_3.2).bind fun r_4 =>
    (s_l00Src_entries (IntKind.wrap .i64 ((1 : Int) + r_.1)) (IntKind.wrap .i64 ((2 : Int) + r_2.1)) r_4.2).bind fun r_5 =>
    (s_l00Src_entries (IntKind.wrap .i64 ((1 : Int) + r_.1)) (IntKind.wrap .i64 ((2 : Int) + r_2.1)) r_5.2).bind fun r_6 =>
    some ((System.mk (IntKind.wrap .i64 ((1 : Int) + r_.1)) (IntKind.wrap .i64 ((2 : Int) + r_2.1)) r_3.1 r_4.1 r_5.1 r_6.1), r_6.2)) (
    none)
theorem s_l00Src_system_c {m : l00Src} {r : System × l00Src} (h : s_l00Src_system m = some r) : Call tab ow 94 [.ptr 0 0 0 1] [⟨3, true, [[sl eU8 m.code, I m.at_, I m.seed]]⟩] = some (.agg [I r.1.Rows, I r.1.Cols, I r.1.Publics, sl eEntry r.1.A, sl eEntry r.1.B, sl eEntry r.1.C], [⟨3, true, [[sl eU8 r.2.code, I r.2.at_, I r.2.seed]]⟩]) := by
  rw [run_s_l00Src_system]
  unfold s_l00Src_system at h
  simp +decide only [b_s_l00Src_system, go_sem, reduceIte, Nat.reduceAdd]
  obtain ⟨r_, h1, h⟩ := bd h
  refine call_aft (s_l00Src_next_c h1) ?_
  simp +decide only [go_sem, reduceIte, Nat.reduceAdd]
  obtain ⟨r_2, h1, h⟩ := bd h
  refine call_aft (s_l00Src_next_c h1) ?_
  simp +decide only [go_sem, reduceIte, Nat.reduceAdd]
  obtain ⟨hb, h⟩ := brg h
  refine br_t hb ?_
  obtain ⟨r_3, h1, h⟩ := bd h
  refine call_aft (s_l00Src_next_c h1) ?_
  simp +decide only [go_sem, reduceIte, Nat.reduceAdd]
  obtain ⟨r_4, h1, h⟩ := bd h
  refine call_aft (s_l00Src_entries_c h1) ?_
  simp +decide only [go_sem, reduceIte, Nat.reduceAdd]
  obtain ⟨r_5, h1, h⟩ := bd h
  refine call_aft (s_l00Src_entries_c h1) ?_
  simp +decide only [go_sem, reduceIte, Nat.reduceAdd]
  obtain ⟨r_6, h1, h⟩ := bd h
  refine call_aft (s_l00Src_entries_c h1) ?_
  simp +decide only [go_sem, reduceIte, Nat.reduceAdd]
  obtain rfl := Option.some.inj h
  first | rfl | (simp only [List.length_set, go_sem]; done)
noncomputable def s_SystemDrawn (code : (List UInt8)) : Option (System) :=
  (s_l00Source code).bind fun r_ =>
  (s_l00Src_system r_).bind fun r_2 =>
  some r_2.1
theorem s_SystemDrawn_c {code : (List UInt8)} {r : System} (h : s_SystemDrawn code = some r) : Call tab ow 15 [sl eU8 code] [] = some (.agg [I r.Rows, I r.Cols, I r.Publics, sl eEntry r.A, sl eEntry r.B, sl eEntry r.C], []) := by
  rw [run_s_SystemDrawn]
  unfold s_SystemDrawn at h
  simp +decide only [b_s_SystemDrawn, go_sem, reduceIte, Nat.reduceAdd]
  obtain ⟨r_, h1, h⟩ := bd h
  refine call_aft (s_l00Source_c h1) ?_
  simp +decide only [go_sem, reduceIte, Nat.reduceAdd]
  obtain ⟨r_2, h1, h⟩ := bd h
  refine call_aft (s_l00Src_system_c h1) ?_
  simp +decide only [go_sem, reduceIte, Nat.reduceAdd]
  obtain rfl := Option.some.inj h
  first | rfl | (simp only [List.length_set, go_sem]; done)
noncomputable def s_l00Src_ext (m : l00Src) : Option (Ext × l00Src) :=
  (s_l00Src_chance (4 : Int) m).bind fun r_ =>
  br r_.1 (
    (s_l00Src_field r_.2).bind fun r_2 =>
    some ((Ext.mk r_2.1 (0 : Int)), r_2.2)) (
    (s_l00Src_field r_.2).bind fun r_3 =>
    (s_l00Src_field r_3.2).bind fun r_4 =>
    some ((Ext.mk r_3.1 r_4.1), r_4.2))
theorem s_l00Src_ext_c {m : l00Src} {r : Ext × l00Src} (h : s_l00Src_ext m = some r) : Call tab ow 109 [.ptr 0 0 0 1] [⟨3, true, [[sl eU8 m.code, I m.at_, I m.seed]]⟩] = some (.agg [I r.1.A, I r.1.B], [⟨3, true, [[sl eU8 r.2.code, I r.2.at_, I r.2.seed]]⟩]) := by
  rw [run_s_l00Src_ext]
  unfold s_l00Src_ext at h
  simp +decide only [b_s_l00Src_ext, go_sem, reduceIte, Nat.reduceAdd]
  obtain ⟨r_, h1, h⟩ := bd h
  refine call_aft (s_l00Src_chance_c h1) ?_
  simp +decide only [go_sem, reduceIte, Nat.reduceAdd]
  rcases brc h with ⟨hb, h⟩ | ⟨hb, h⟩
  · refine br_t hb ?_
    obtain ⟨r_2, h1, h⟩ := bd h
    refine call_aft (s_l00Src_field_c h1) ?_
    simp +decide only [go_sem, reduceIte, Nat.reduceAdd]
    obtain rfl := Option.some.inj h
    first | rfl | (simp only [List.length_set, go_sem]; done)
  · refine br_f hb ?_
    obtain ⟨r_3, h1, h⟩ := bd h
    refine call_aft (s_l00Src_field_c h1) ?_
    simp +decide only [go_sem, reduceIte, Nat.reduceAdd]
    obtain ⟨r_4, h1, h⟩ := bd h
    refine call_aft (s_l00Src_field_c h1) ?_
    simp +decide only [go_sem, reduceIte, Nat.reduceAdd]
    obtain rfl := Option.some.inj h
    first | rfl | (simp only [List.length_set, go_sem]; done)
section
theorem s_l00Src_exts_k0 : mkR 2000 [] = rws eExt [] := rfl
attribute [local go_sem] s_l00Src_exts_k0
theorem s_l00Src_exts_k1 : mkR 6003 [] = rws eExt [] := rfl
attribute [local go_sem] s_l00Src_exts_k1
noncomputable def s_l00Src_exts_1_s (n2 : Int) : (List Ext) × Int × (List UInt8) × Int × Int → Option (((List Ext) × Int × (List UInt8) × Int × Int) ⊕ (((List Ext) × Int × Bool × (List UInt8) × Int × Int)))
  | (l, i, c, c2, c3) =>
    br (decide (i < n2)) (
      (s_l00Src_ext (l00Src.mk c c2 c3)).bind fun r_ =>
      br (fits ((l ++ ([r_.1] : List Ext)).length) 16) (
        some (.inl ((l ++ ([r_.1] : List Ext)), (IntKind.wrap .i64 (i + (1 : Int))), r_.2.code, r_.2.at_, r_.2.seed))) (
        none)) (
      some (.inr (l, i, decide (i < n2), c, c2, c3)))
theorem s_l00Src_exts_1_l {n2 : Int} {l : List Ext} {i : Int} {c : List UInt8} {c2 : Int} {c3 : Int} {e : ((List Ext) × Int × Bool × (List UInt8) × Int × Int)} (h : Loop (s_l00Src_exts_1_s n2) (l, i, c, c2, c3) = some e) : LoopX tab ow (.close [6002, 6003, 6004]) b_s_l00Src_exts_3 ⟨[(0, .ptr 0 0 0 1), (1, I n2), (5, .sl 2000 0 l.length), (6, I i)], [(0, ⟨3, true, [[sl eU8 c, I c2, I c3]]⟩), (2000, ⟨2, false, rws eExt l⟩)]⟩ = some ((.exit 0, ⟨[(0, .ptr 0 0 0 1), (1, I n2), (5, .sl 2000 0 e.1.length), (6, I e.2.1), (10, B e.2.2.1)], [(0, ⟨3, true, [[sl eU8 e.2.2.2.1, I e.2.2.2.2.1, I e.2.2.2.2.2]]⟩), (2000, ⟨2, false, rws eExt e.1⟩)]⟩)) := by
  refine loop_runG (S := (List Ext) × Int × (List UInt8) × Int × Int) (eS := fun s => ⟨[(0, .ptr 0 0 0 1), (1, I n2), (5, .sl 2000 0 s.1.length), (6, I s.2.1)], [(0, ⟨3, true, [[sl eU8 s.2.2.1, I s.2.2.2.1, I s.2.2.2.2]]⟩), (2000, ⟨2, false, rws eExt s.1⟩)]⟩) (eE := fun e => (.exit 0, ⟨[(0, .ptr 0 0 0 1), (1, I n2), (5, .sl 2000 0 e.1.length), (6, I e.2.1), (10, B e.2.2.1)], [(0, ⟨3, true, [[sl eU8 e.2.2.2.1, I e.2.2.2.2.1, I e.2.2.2.2.2]]⟩), (2000, ⟨2, false, rws eExt e.1⟩)]⟩)) (fun e => ?_) (fun s o h => ?_) h
  · simp [alt]
  · obtain ⟨l, i, c, c2, c3⟩ := s
    simp only [s_l00Src_exts_1_s] at h
    show Rn tab ow _ _ ⟨[(0, .ptr 0 0 0 1), (1, I n2), (5, .sl 2000 0 l.length), (6, I i)], [(0, ⟨3, true, [[sl eU8 c, I c2, I c3]]⟩), (2000, ⟨2, false, rws eExt l⟩)]⟩ = _
    simp +decide only [b_s_l00Src_exts_3, go_sem, reduceIte, Nat.reduceAdd]
    rcases brc h with ⟨hb, h⟩ | ⟨hb, h⟩
    · refine br_t hb ?_
      obtain ⟨r_, h1, h⟩ := bd h
      refine call_aft (s_l00Src_ext_c h1) ?_
      simp +decide only [go_sem, reduceIte, Nat.reduceAdd]
      obtain ⟨hb, h⟩ := brg h
      refine br_t hb ?_
      obtain rfl := Option.some.inj h
      first | rfl | (simp only [List.length_set, go_sem]; done)
    · refine br_f hb ?_
      obtain rfl := Option.some.inj h
      first | rfl | (simp only [List.length_set, go_sem]; done)
noncomputable def s_l00Src_exts (n : Int) (m : l00Src) : Option ((List Ext) × l00Src) :=
  (Loop (s_l00Src_exts_1_s n) (([] : List Ext), (0 : Int), m.code, m.at_, m.seed)).bind fun e_ =>
  some (e_.1, (l00Src.mk e_.2.2.2.1 e_.2.2.2.2.1 e_.2.2.2.2.2))
theorem s_l00Src_exts_c {n : Int} {m : l00Src} {r : (List Ext) × l00Src} (h : s_l00Src_exts n m = some r) : Call tab ow 96 [.ptr 0 0 0 1, I n] [⟨3, true, [[sl eU8 m.code, I m.at_, I m.seed]]⟩] = some (sl eExt r.1, [⟨3, true, [[sl eU8 r.2.code, I r.2.at_, I r.2.seed]]⟩]) := by
  rw [run_s_l00Src_exts]
  unfold s_l00Src_exts at h
  simp +decide only [b_s_l00Src_exts, go_sem, reduceIte, Nat.reduceAdd]
  obtain ⟨e_, h1, h⟩ := bd h
  refine goR_of (s_l00Src_exts_1_l h1) ?_
  simp +decide only [go_sem, reduceIte, Nat.reduceAdd]
  obtain rfl := Option.some.inj h
  first | rfl | (simp only [List.length_set, go_sem]; done)
end
noncomputable def s_ExtsOf (code : (List UInt8)) (n : Int) : Option ((List Ext)) :=
  (s_l00Source code).bind fun r_ =>
  (s_l00Src_exts n r_).bind fun r_2 =>
  some r_2.1
theorem s_ExtsOf_c {code : (List UInt8)} {n : Int} {r : (List Ext)} (h : s_ExtsOf code n = some r) : Call tab ow 17 [sl eU8 code, I n] [] = some (sl eExt r, []) := by
  rw [run_s_ExtsOf]
  unfold s_ExtsOf at h
  simp +decide only [b_s_ExtsOf, go_sem, reduceIte, Nat.reduceAdd]
  obtain ⟨r_, h1, h⟩ := bd h
  refine call_aft (s_l00Source_c h1) ?_
  simp +decide only [go_sem, reduceIte, Nat.reduceAdd]
  obtain ⟨r_2, h1, h⟩ := bd h
  refine call_aft (s_l00Src_exts_c h1) ?_
  simp +decide only [go_sem, reduceIte, Nat.reduceAdd]
  obtain rfl := Option.some.inj h
  first | rfl | (simp only [List.length_set, go_sem]; done)
noncomputable def i_in (n : Int) (low : Int) (high : Int) : Option (Bool) :=
  br (decide (low ≤ n)) (
    some (decide (n ≤ high))) (
    some false)
theorem i_in_c {n : Int} {low : Int} {high : Int} {r : Bool} (h : i_in n low high = some r) : Call tab ow 111 [I n, I low, I high] [] = some (B r, []) := by
  rw [run_i_in]
  unfold i_in at h
  simp +decide only [b_i_in, go_sem, reduceIte, Nat.reduceAdd]
  rcases brc h with ⟨hb, h⟩ | ⟨hb, h⟩
  · refine br_t hb ?_
    obtain rfl := Option.some.inj h
    first | rfl | (simp only [List.length_set, go_sem]; done)
  · refine br_f hb ?_
    obtain rfl := Option.some.inj h
    first | rfl | (simp only [List.length_set, go_sem]; done)
noncomputable def i_System_half (s : System) : Option (Int) :=
  br (decide (0 ≤ (IntKind.wrap .i64 (s.Cols - (1 : Int))))) (
    some (shl64 .i64 (1 : Int) (IntKind.wrap .i64 (s.Cols - (1 : Int))))) (
    none)
theorem i_System_half_c {s : System} {r : Int} (h : i_System_half s = some r) : Call tab ow 103 [.agg [I s.Rows, I s.Cols, I s.Publics, sl eEntry s.A, sl eEntry s.B, sl eEntry s.C]] [] = some (I r, []) := by
  rw [run_i_System_half]
  unfold i_System_half at h
  simp +decide only [b_i_System_half, go_sem, reduceIte, Nat.reduceAdd]
  obtain ⟨hb, h⟩ := brg h
  refine br_t hb ?_
  obtain rfl := Option.some.inj h
  first | rfl | (simp only [List.length_set, go_sem]; done)
noncomputable def i_System_matrices (s : System) : Option (((List Entry) × (List Entry) × (List Entry))) :=
  some (s.A, s.B, s.C)
theorem i_System_matrices_c {s : System} {r : ((List Entry) × (List Entry) × (List Entry))} (h : i_System_matrices s = some r) : Call tab ow 203 [.agg [I s.Rows, I s.Cols, I s.Publics, sl eEntry s.A, sl eEntry s.B, sl eEntry s.C]] [] = some (.agg [sl eEntry r.1, sl eEntry r.2.1, sl eEntry r.2.2], []) := by
  rw [run_i_System_matrices]
  unfold i_System_matrices at h
  simp +decide only [b_i_System_matrices, go_sem, reduceIte, Nat.reduceAdd]
  obtain rfl := Option.some.inj h
  first | rfl | (simp only [List.length_set, go_sem]; done)
noncomputable def cmp_isNaN_int (x : Int) : Option (Bool) :=
  some (x != x)
theorem cmp_isNaN_int_c {x : Int} {r : Bool} (h : cmp_isNaN_int x = some r) : Call tab ow 293 [I x] [] = some (B r, []) := by
  rw [run_cmp_isNaN_int]
  unfold cmp_isNaN_int at h
  simp +decide only [b_cmp_isNaN_int, go_sem, reduceIte, Nat.reduceAdd]
  obtain rfl := Option.some.inj h
  first | rfl | (simp only [List.length_set, go_sem]; done)
noncomputable def cmp_Compare_int (x : Int) (y : Int) : Option (Int) :=
  (cmp_isNaN_int x).bind fun r_ =>
  (cmp_isNaN_int y).bind fun r_2 =>
  br r_ (
    br r_2 (
      some (0 : Int)) (
      some (-1 : Int))) (
    br r_2 (
      some (1 : Int)) (
      br (decide (x < y)) (
        some (-1 : Int)) (
        br (decide (x > y)) (
          some (1 : Int)) (
          some (0 : Int)))))
theorem cmp_Compare_int_c {x : Int} {y : Int} {r : Int} (h : cmp_Compare_int x y = some r) : Call tab ow 279 [I x, I y] [] = some (I r, []) := by
  rw [run_cmp_Compare_int]
  unfold cmp_Compare_int at h
  simp +decide only [b_cmp_Compare_int, go_sem, reduceIte, Nat.reduceAdd]
  obtain ⟨r_, h1, h⟩ := bd h
  refine call_aft (cmp_isNaN_int_c h1) ?_
  simp +decide only [go_sem, reduceIte, Nat.reduceAdd]
  obtain ⟨r_2, h1, h⟩ := bd h
  refine call_aft (cmp_isNaN_int_c h1) ?_
  simp +decide only [go_sem, reduceIte, Nat.reduceAdd]
  rcases brc h with ⟨hb, h⟩ | ⟨hb, h⟩
  · refine br_t hb ?_
    rcases brc h with ⟨hb, h⟩ | ⟨hb, h⟩
    · refine br_t hb ?_
      obtain rfl := Option.some.inj h
      first | rfl | (simp only [List.length_set, go_sem]; done)
    · refine br_f hb ?_
      obtain rfl := Option.some.inj h
      first | rfl | (simp only [List.length_set, go_sem]; done)
  · refine br_f hb ?_
    rcases brc h with ⟨hb, h⟩ | ⟨hb, h⟩
    · refine br_t hb ?_
      obtain rfl := Option.some.inj h
      first | rfl | (simp only [List.length_set, go_sem]; done)
    · refine br_f hb ?_
      rcases brc h with ⟨hb, h⟩ | ⟨hb, h⟩
      · refine br_t hb ?_
        obtain rfl := Option.some.inj h
        first | rfl | (simp only [List.length_set, go_sem]; done)
      · refine br_f hb ?_
        rcases brc h with ⟨hb, h⟩ | ⟨hb, h⟩
        · refine br_t hb ?_
          obtain rfl := Option.some.inj h
          first | rfl | (simp only [List.length_set, go_sem]; done)
        · refine br_f hb ?_
          obtain rfl := Option.some.inj h
          first | rfl | (simp only [List.length_set, go_sem]; done)
noncomputable def cmp_Or_int_1_s (zero : Int) (t : List Int) (t2 : Int) : Int → Option ((Int) ⊕ (Int ⊕ (Int × Bool)))
  | t3 =>
    br (decide (t3 < t2)) (
      (atL t t3).bind fun x =>
      br (x != zero) (
        some (.inr (.inl x))) (
        some (.inl (IntKind.wrap .i64 (t3 + (1 : Int)))))) (
      some (.inr (.inr (t3, decide (t3 < t2)))))
theorem cmp_Or_int_1_l {zero : Int} {t : List Int} {t2 : Int} {t3 : Int} {e : Int ⊕ (Int × Bool)} (h : Loop (cmp_Or_int_1_s zero t t2) t3 = some e) : LoopX tab ow (.close []) b_cmp_Or_int_3 ⟨[(3, I zero), (6, sl eI t), (7, I t2), (8, I t3)], []⟩ = some ((alt (fun e => ((.ret, ⟨[(2, I e)], []⟩) : AExit × St)) (fun e => (.exit 0, ⟨[(3, I zero), (6, sl eI t), (7, I t2), (8, I e.1), (9, B e.2)], []⟩))) e) := by
  refine loop_runG (S := Int) (eS := fun s => ⟨[(3, I zero), (6, sl eI t), (7, I t2), (8, I s)], []⟩) (eE := fun e => (alt (fun e => ((.ret, ⟨[(2, I e)], []⟩) : AExit × St)) (fun e => (.exit 0, ⟨[(3, I zero), (6, sl eI t), (7, I t2), (8, I e.1), (9, B e.2)], []⟩))) e) (fun e => ?_) (fun t3 o h => ?_) h
  · rcases e with e | e <;> simp [alt]
  · skip
    simp only [cmp_Or_int_1_s] at h
    show Rn tab ow _ _ ⟨[(3, I zero), (6, sl eI t), (7, I t2), (8, I t3)], []⟩ = _
    simp +decide only [b_cmp_Or_int_3, go_sem, reduceIte, Nat.reduceAdd]
    rcases brc h with ⟨hb, h⟩ | ⟨hb, h⟩
    · refine br_t hb ?_
      obtain ⟨x, h1, h⟩ := bd h
      refine bind_some h1 ?_
      rcases brc h with ⟨hb, h⟩ | ⟨hb, h⟩
      · refine br_t hb ?_
        obtain rfl := Option.some.inj h
        first | rfl | (simp only [List.length_set, go_sem]; done)
      · refine br_f hb ?_
        obtain rfl := Option.some.inj h
        first | rfl | (simp only [List.length_set, go_sem]; done)
    · refine br_f hb ?_
      obtain rfl := Option.some.inj h
      first | rfl | (simp only [List.length_set, go_sem]; done)
noncomputable def cmp_Or_int (vals : (List Int)) : Option (Int) :=
  (Loop (cmp_Or_int_1_s (0 : Int) vals ((vals.length : Nat) : Int)) (0 : Int)).bind (alt (fun e_2 =>
    some e_2) (fun e_3 =>
    some (0 : Int)))
theorem cmp_Or_int_c {vals : (List Int)} {r : Int} (h : cmp_Or_int vals = some r) : Call tab ow 278 [sl eI vals] [] = some (I r, []) := by
  rw [run_cmp_Or_int]
  unfold cmp_Or_int at h
  simp +decide only [b_cmp_Or_int, go_sem, reduceIte, Nat.reduceAdd]
  obtain ⟨e_, h1, h⟩ := bd h
  refine goR_of (cmp_Or_int_1_l h1) ?_
  rcases e_ with e_2 | e_3
  · simp +decide only [go_sem, reduceIte, Nat.reduceAdd]
    obtain rfl := Option.some.inj h
    first | rfl | (simp only [List.length_set, go_sem]; done)
  · simp +decide only [go_sem, reduceIte, Nat.reduceAdd]
    obtain rfl := Option.some.inj h
    first | rfl | (simp only [List.length_set, go_sem]; done)
section
theorem i_Entry_order_k0 : mkR 2010 [] = rws eI [] := rfl
attribute [local go_sem] i_Entry_order_k0
noncomputable def i_Entry_order (e_ : Entry) (f : Entry) : Option (Int) :=
  (cmp_Compare_int e_.Row f.Row).bind fun r_ =>
  (cmp_Compare_int e_.Col f.Col).bind fun r_2 =>
  (cmp_Or_int ([r_, r_2] : List Int)).bind fun r_3 =>
  some r_3
theorem i_Entry_order_c {e_ : Entry} {f : Entry} {r : Int} (h : i_Entry_order e_ f = some r) : Call tab ow 251 [.agg [I e_.Row, I e_.Col, I e_.Value], .agg [I f.Row, I f.Col, I f.Value]] [] = some (I r, []) := by
  rw [run_i_Entry_order]
  unfold i_Entry_order at h
  simp +decide only [b_i_Entry_order, go_sem, reduceIte, Nat.reduceAdd]
  obtain ⟨r_, h1, h⟩ := bd h
  refine call_aftD (cmp_Compare_int_c h1) ?_
  simp +decide only [go_sem, reduceIte, Nat.reduceAdd]
  obtain ⟨r_2, h1, h⟩ := bd h
  refine call_aftD (cmp_Compare_int_c h1) ?_
  simp +decide only [go_sem, reduceIte, Nat.reduceAdd]
  obtain ⟨r_3, h1, h⟩ := bd h
  refine call_aftD (cmp_Or_int_c h1) ?_
  simp +decide only [go_sem, reduceIte, Nat.reduceAdd]
  obtain rfl := Option.some.inj h
  first | rfl | (simp only [List.length_set, go_sem]; done)
end
noncomputable def i_isMatrix_1_s (list2 : List Entry) (rows2 : Int) (cols2 : Int) (t : List Entry) (t2 : Int) : Int → Option ((Int) ⊕ ((Int × Int × Int) ⊕ (Int × Bool)))
  | t3 =>
    br (decide (t3 < t2)) (
      (atL t t3).bind fun x =>
      (i_in x.Row (0 : Int) (IntKind.wrap .i64 (rows2 - (1 : Int)))).bind fun r_ =>
      br (!r_) (
        some (.inr (.inl (x.Row, x.Col, x.Value)))) (
        (i_in x.Col (0 : Int) (IntKind.wrap .i64 (cols2 - (1 : Int)))).bind fun r_2 =>
        br (!r_2) (
          some (.inr (.inl (x.Row, x.Col, x.Value)))) (
          (i_in x.Value (1 : Int) (2130706432 : Int)).bind fun r_3 =>
          br (!r_3) (
            some (.inr (.inl (x.Row, x.Col, x.Value)))) (
            br (decide (t3 > (0 : Int))) (
              (atL list2 (IntKind.wrap .i64 (t3 - (1 : Int)))).bind fun x2 =>
              (i_Entry_order x2 x).bind fun r_4 =>
              br (decide (r_4 ≥ (0 : Int))) (
                some (.inr (.inl (x.Row, x.Col, x.Value)))) (
                some (.inl (IntKind.wrap .i64 (t3 + (1 : Int)))))) (
              some (.inl (IntKind.wrap .i64 (t3 + (1 : Int))))))))) (
      some (.inr (.inr (t3, decide (t3 < t2)))))
theorem i_isMatrix_1_l {list2 : List Entry} {rows2 : Int} {cols2 : Int} {t : List Entry} {t2 : Int} {t3 : Int} {e : (Int × Int × Int) ⊕ (Int × Bool)} (h : Loop (i_isMatrix_1_s list2 rows2 cols2 t t2) t3 = some e) : LoopX tab ow (.close [4003, 5004, 5011, 5017, 5030]) b_i_isMatrix_2 ⟨[(0, sl eEntry list2), (1, I rows2), (2, I cols2), (9, sl eEntry t), (10, I t2), (11, I t3)], []⟩ = some ((alt (fun e => ((.ret, ⟨[(6, B false)], [(4003, ⟨3, true, [[I e.1, I e.2.1, I e.2.2]]⟩)]⟩) : AExit × St)) (fun e => (.exit 0, ⟨[(0, sl eEntry list2), (1, I rows2), (2, I cols2), (9, sl eEntry t), (10, I t2), (11, I e.1), (12, B e.2)], []⟩))) e) := by
  refine loop_runG (S := Int) (eS := fun s => ⟨[(0, sl eEntry list2), (1, I rows2), (2, I cols2), (9, sl eEntry t), (10, I t2), (11, I s)], []⟩) (eE := fun e => (alt (fun e => ((.ret, ⟨[(6, B false)], [(4003, ⟨3, true, [[I e.1, I e.2.1, I e.2.2]]⟩)]⟩) : AExit × St)) (fun e => (.exit 0, ⟨[(0, sl eEntry list2), (1, I rows2), (2, I cols2), (9, sl eEntry t), (10, I t2), (11, I e.1), (12, B e.2)], []⟩))) e) (fun e => ?_) (fun t3 o h => ?_) h
  · rcases e with e | e <;> simp [alt]
  · skip
    simp only [i_isMatrix_1_s] at h
    show Rn tab ow _ _ ⟨[(0, sl eEntry list2), (1, I rows2), (2, I cols2), (9, sl eEntry t), (10, I t2), (11, I t3)], []⟩ = _
    simp +decide only [b_i_isMatrix_2, go_sem, reduceIte, Nat.reduceAdd]
    rcases brc h with ⟨hb, h⟩ | ⟨hb, h⟩
    · refine br_t hb ?_
      obtain ⟨x, h1, h⟩ := bd h
      refine bind_some h1 ?_
      obtain ⟨r_, h1, h⟩ := bd h
      refine call_aftD (i_in_c h1) ?_
      simp +decide only [go_sem, reduceIte, Nat.reduceAdd]
      rcases brc h with ⟨hb, h⟩ | ⟨hb, h⟩
      · refine br_t hb ?_
        obtain rfl := Option.some.inj h
        first | rfl | (simp only [List.length_set, go_sem]; done)
      · refine br_f hb ?_
        obtain ⟨r_2, h1, h⟩ := bd h
        refine call_aftD (i_in_c h1) ?_
        simp +decide only [go_sem, reduceIte, Nat.reduceAdd]
        rcases brc h with ⟨hb, h⟩ | ⟨hb, h⟩
        · refine br_t hb ?_
          obtain rfl := Option.some.inj h
          first | rfl | (simp only [List.length_set, go_sem]; done)
        · refine br_f hb ?_
          obtain ⟨r_3, h1, h⟩ := bd h
          refine call_aftD (i_in_c h1) ?_
          simp +decide only [go_sem, reduceIte, Nat.reduceAdd]
          rcases brc h with ⟨hb, h⟩ | ⟨hb, h⟩
          · refine br_t hb ?_
            obtain rfl := Option.some.inj h
            first | rfl | (simp only [List.length_set, go_sem]; done)
          · refine br_f hb ?_
            rcases brc h with ⟨hb, h⟩ | ⟨hb, h⟩
            · refine br_t hb ?_
              obtain ⟨x2, h1, h⟩ := bd h
              refine bind_some h1 ?_
              obtain ⟨r_4, h1, h⟩ := bd h
              refine call_aftD (i_Entry_order_c h1) ?_
              simp +decide only [go_sem, reduceIte, Nat.reduceAdd]
              rcases brc h with ⟨hb, h⟩ | ⟨hb, h⟩
              · refine br_t hb ?_
                obtain rfl := Option.some.inj h
                first | rfl | (simp only [List.length_set, go_sem]; done)
              · refine br_f hb ?_
                obtain rfl := Option.some.inj h
                first | rfl | (simp only [List.length_set, go_sem]; done)
            · refine br_f hb ?_
              obtain rfl := Option.some.inj h
              first | rfl | (simp only [List.length_set, go_sem]; done)
    · refine br_f hb ?_
      obtain rfl := Option.some.inj h
      first | rfl | (simp only [List.length_set, go_sem]; done)
noncomputable def i_isMatrix (list : (List Entry)) (rows : Int) (cols : Int) : Option (Bool) :=
  (Loop (i_isMatrix_1_s list rows cols list ((list.length : Nat) : Int)) (0 : Int)).bind (alt (fun e_2 =>
    some false) (fun e_3 =>
    some (decide (((list.length : Nat) : Int) ≤ (200 : Int)))))
theorem i_isMatrix_c {list : (List Entry)} {rows : Int} {cols : Int} {r : Bool} (h : i_isMatrix list rows cols = some r) : Call tab ow 169 [sl eEntry list, I rows, I cols] [] = some (B r, []) := by
  rw [run_i_isMatrix]
  unfold i_isMatrix at h
  simp +decide only [b_i_isMatrix, go_sem, reduceIte, Nat.reduceAdd]
  obtain ⟨e_, h1, h⟩ := bd h
  refine goR_of (i_isMatrix_1_l h1) ?_
  rcases e_ with e_2 | e_3
  · simp +decide only [go_sem, reduceIte, Nat.reduceAdd]
    obtain rfl := Option.some.inj h
    first | rfl | (simp only [List.length_set, go_sem]; done)
  · simp +decide only [go_sem, reduceIte, Nat.reduceAdd]
    obtain rfl := Option.some.inj h
    first | rfl | (simp only [List.length_set, go_sem]; done)
noncomputable def i_SystemOK (s : System) : Option (Bool) :=
  (i_in s.Rows (1 : Int) (5 : Int)).bind fun r_ =>
  br (!r_) (
    some false) (
    (i_in s.Cols (2 : Int) (5 : Int)).bind fun r_2 =>
    br (!r_2) (
      some false) (
      (i_System_half s).bind fun r_3 =>
      (i_in s.Publics (0 : Int) (IntKind.wrap .i64 (r_3 - (1 : Int)))).bind fun r_4 =>
      br (!r_4) (
        some false) (
        (i_System_matrices s).bind fun r_5 =>
        br (decide (0 ≤ s.Rows)) (
          br (decide (0 ≤ s.Cols)) (
            (i_isMatrix r_5.1 (shl64 .i64 (1 : Int) s.Rows) (shl64 .i64 (1 : Int) s.Cols)).bind fun r_6 =>
            br (!r_6) (
              some false) (
              br (decide (0 ≤ s.Rows)) (
                br (decide (0 ≤ s.Cols)) (
                  (i_isMatrix r_5.2.1 (shl64 .i64 (1 : Int) s.Rows) (shl64 .i64 (1 : Int) s.Cols)).bind fun r_7 =>
                  br (!r_7) (
                    some false) (
                    br (decide (0 ≤ s.Rows)) (
                      br (decide (0 ≤ s.Cols)) (
                        (i_isMatrix r_5.2.2 (shl64 .i64 (1 : Int) s.Rows) (shl64 .i64 (1 : Int) s.Cols)).bind fun r_8 =>
                        br (!r_8) (
                          some false) (
                          some true)) (
                        none)) (
                      none))) (
                  none)) (
                none))) (
            none)) (
          none))))
theorem i_SystemOK_c {s : System} {r : Bool} (h : i_SystemOK s = some r) : Call tab ow 97 [.agg [I s.Rows, I s.Cols, I s.Publics, sl eEntry s.A, sl eEntry s.B, sl eEntry s.C]] [] = some (B r, []) := by
  rw [run_i_SystemOK]
  unfold i_SystemOK at h
  simp +decide only [b_i_SystemOK, go_sem, reduceIte, Nat.reduceAdd, Int.reduceAdd, Int.reduceMul, Int.reduceSub]
  obtain ⟨r_, h1, h⟩ := bd h
  refine call_aftD (i_in_c h1) ?_
  simp +decide only [go_sem, reduceIte, Nat.reduceAdd, Int.reduceAdd, Int.reduceMul, Int.reduceSub]
  rcases brc h with ⟨hb, h⟩ | ⟨hb, h⟩
  · refine br_t hb ?_
    obtain rfl := Option.some.inj h
    first | rfl | (simp only [List.length_set, go_sem]; done)
  · refine br_f hb ?_
    obtain ⟨r_2, h1, h⟩ := bd h
    refine call_aftD (i_in_c h1) ?_
    simp +decide only [go_sem, reduceIte, Nat.reduceAdd, Int.reduceAdd, Int.reduceMul, Int.reduceSub]
    rcases brc h with ⟨hb, h⟩ | ⟨hb, h⟩
    · refine br_t hb ?_
      obtain rfl := Option.some.inj h
      first | rfl | (simp only [List.length_set, go_sem]; done)
    · refine br_f hb ?_
      obtain ⟨r_3, h1, h⟩ := bd h
      refine call_aftD (i_System_half_c h1) ?_
      simp +decide only [go_sem, reduceIte, Nat.reduceAdd, Int.reduceAdd, Int.reduceMul, Int.reduceSub]
      obtain ⟨r_4, h1, h⟩ := bd h
      refine call_aftD (i_in_c h1) ?_
      simp +decide only [go_sem, reduceIte, Nat.reduceAdd, Int.reduceAdd, Int.reduceMul, Int.reduceSub]
      rcases brc h with ⟨hb, h⟩ | ⟨hb, h⟩
      · refine br_t hb ?_
        obtain rfl := Option.some.inj h
        first | rfl | (simp only [List.length_set, go_sem]; done)
      · refine br_f hb ?_
        obtain ⟨r_5, h1, h⟩ := bd h
        refine call_aft (i_System_matrices_c h1) ?_
        simp +decide only [go_sem, reduceIte, Nat.reduceAdd, Int.reduceAdd, Int.reduceMul, Int.reduceSub]
        refine unroll_of ?_
        simp +decide only [b_i_SystemOK_4, go_sem, reduceIte, Nat.reduceAdd, Int.reduceAdd, Int.reduceMul, Int.reduceSub]
        obtain ⟨hb, h⟩ := brg h
        refine br_t hb ?_
        obtain ⟨hb, h⟩ := brg h
        refine br_t hb ?_
        obtain ⟨r_6, h1, h⟩ := bd h
        refine call_aftD (i_isMatrix_c h1) ?_
        simp +decide only [go_sem, reduceIte, Nat.reduceAdd, Int.reduceAdd, Int.reduceMul, Int.reduceSub]
        rcases brc h with ⟨hb, h⟩ | ⟨hb, h⟩
        · refine br_t hb ?_
          obtain rfl := Option.some.inj h
          first | rfl | (simp only [List.length_set, go_sem]; done)
        · refine br_f hb ?_
          refine unroll_of ?_
          simp +decide only [b_i_SystemOK_4, go_sem, reduceIte, Nat.reduceAdd, Int.reduceAdd, Int.reduceMul, Int.reduceSub]
          obtain ⟨hb, h⟩ := brg h
          refine br_t hb ?_
          obtain ⟨hb, h⟩ := brg h
          refine br_t hb ?_
          obtain ⟨r_7, h1, h⟩ := bd h
          refine call_aftD (i_isMatrix_c h1) ?_
          simp +decide only [go_sem, reduceIte, Nat.reduceAdd, Int.reduceAdd, Int.reduceMul, Int.reduceSub]
          rcases brc h with ⟨hb, h⟩ | ⟨hb, h⟩
          · refine br_t hb ?_
            obtain rfl := Option.some.inj h
            first | rfl | (simp only [List.length_set, go_sem]; done)
          · refine br_f hb ?_
            refine unroll_of ?_
            simp +decide only [b_i_SystemOK_4, go_sem, reduceIte, Nat.reduceAdd, Int.reduceAdd, Int.reduceMul, Int.reduceSub]
            obtain ⟨hb, h⟩ := brg h
            refine br_t hb ?_
            obtain ⟨hb, h⟩ := brg h
            refine br_t hb ?_
            obtain ⟨r_8, h1, h⟩ := bd h
            refine call_aftD (i_isMatrix_c h1) ?_
            simp +decide only [go_sem, reduceIte, Nat.reduceAdd, Int.reduceAdd, Int.reduceMul, Int.reduceSub]
            rcases brc h with ⟨hb, h⟩ | ⟨hb, h⟩
            · refine br_t hb ?_
              obtain rfl := Option.some.inj h
              first | rfl | (simp only [List.length_set, go_sem]; done)
            · refine br_f hb ?_
              refine unroll_of ?_
              simp +decide only [b_i_SystemOK_4, go_sem, reduceIte, Nat.reduceAdd, Int.reduceAdd, Int.reduceMul, Int.reduceSub]
              obtain rfl := Option.some.inj h
              first | rfl | (simp only [List.length_set, go_sem]; done)
noncomputable def i_FieldOK (a : Int) : Option (Bool) :=
  (i_in a (0 : Int) (2130706432 : Int)).bind fun r_ =>
  some r_
theorem i_FieldOK_c {a : Int} {r : Bool} (h : i_FieldOK a = some r) : Call tab ow 99 [I a] [] = some (B r, []) := by
  rw [run_i_FieldOK]
  unfold i_FieldOK at h
  simp +decide only [b_i_FieldOK, go_sem, reduceIte, Nat.reduceAdd]
  obtain ⟨r_, h1, h⟩ := bd h
  refine call_aft (i_in_c h1) ?_
  simp +decide only [go_sem, reduceIte, Nat.reduceAdd]
  obtain rfl := Option.some.inj h
  first | rfl | (simp only [List.length_set, go_sem]; done)
noncomputable def i_ExtOK (a : Ext) : Option (Bool) :=
  (i_FieldOK a.A).bind fun r_ =>
  br r_ (
    (i_FieldOK a.B).bind fun r_2 =>
    some r_2) (
    some false)
theorem i_ExtOK_c {a : Ext} {r : Bool} (h : i_ExtOK a = some r) : Call tab ow 101 [.agg [I a.A, I a.B]] [] = some (B r, []) := by
  rw [run_i_ExtOK]
  unfold i_ExtOK at h
  simp +decide only [b_i_ExtOK, go_sem, reduceIte, Nat.reduceAdd]
  obtain ⟨r_, h1, h⟩ := bd h
  refine call_aft (i_FieldOK_c h1) ?_
  simp +decide only [go_sem, reduceIte, Nat.reduceAdd]
  rcases brc h with ⟨hb, h⟩ | ⟨hb, h⟩
  · refine br_t hb ?_
    obtain ⟨r_2, h1, h⟩ := bd h
    refine call_aft (i_FieldOK_c h1) ?_
    simp +decide only [go_sem, reduceIte, Nat.reduceAdd]
    obtain rfl := Option.some.inj h
    first | rfl | (simp only [List.length_set, go_sem]; done)
  · refine br_f hb ?_
    obtain rfl := Option.some.inj h
    first | rfl | (simp only [List.length_set, go_sem]; done)
noncomputable def i_are_i_Ext_1_ExtOK (x : Ext) : Option (Bool) :=
  (i_ExtOK x).bind fun r_ =>
  some (!r_)
theorem i_are_i_Ext_1_ExtOK_c {x : Ext} {r : Bool} (h : i_are_i_Ext_1_ExtOK x = some r) : Call tab ow 206 [.agg [I x.A, I x.B], .ptr 0 0 0 1] [⟨1, true, [[.fn 101 []]]⟩] = some (B r, [⟨1, true, [[.fn 101 []]]⟩]) := by
  rw [run_i_are_i_Ext_1]
  unfold i_are_i_Ext_1_ExtOK at h
  simp +decide only [b_i_are_i_Ext_1, go_sem, reduceIte, Nat.reduceAdd]
  obtain ⟨r_, h1, h⟩ := bd h
  refine call_aft (i_ExtOK_c h1) ?_
  simp +decide only [go_sem, reduceIte, Nat.reduceAdd]
  obtain rfl := Option.some.inj h
  first | rfl | (simp only [List.length_set, go_sem]; done)
noncomputable def slices_IndexFunc_Li_Ext_i_Ext_are_i_Ext_1_ExtOK_1_s (s2 : List Ext) (t : Int) : Int → Option ((Int) ⊕ (Int ⊕ (Int × Bool)))
  | t2 =>
    br (decide (t2 < t)) (
      (atL s2 t2).bind fun x =>
      (i_are_i_Ext_1_ExtOK x).bind fun r_ =>
      br r_ (
        some (.inr (.inl t2))) (
        some (.inl (IntKind.wrap .i64 (t2 + (1 : Int)))))) (
      some (.inr (.inr (t2, decide (t2 < t)))))
theorem slices_IndexFunc_Li_Ext_i_Ext_are_i_Ext_1_ExtOK_1_l {s2 : List Ext} {t : Int} {t2 : Int} {e : Int ⊕ (Int × Bool)} (h : Loop (slices_IndexFunc_Li_Ext_i_Ext_are_i_Ext_1_ExtOK_1_s s2 t) t2 = some e) : LoopX tab ow (.close [5005]) b_slices_IndexFunc_Li_Ext_i_Ext_2 ⟨[(0, sl eExt s2), (1, .fn 206 [.ptr 0 0 0 1]), (7, I t), (8, I t2)], [(0, ⟨1, true, [[.fn 101 []]]⟩)]⟩ = some ((alt (fun e => ((.ret, ⟨[(4, I e)], [(0, ⟨1, true, [[.fn 101 []]]⟩)]⟩) : AExit × St)) (fun e => (.exit 0, ⟨[(0, sl eExt s2), (1, .fn 206 [.ptr 0 0 0 1]), (7, I t), (8, I e.1), (9, B e.2)], [(0, ⟨1, true, [[.fn 101 []]]⟩)]⟩))) e) := by
  refine loop_runG (S := Int) (eS := fun s => ⟨[(0, sl eExt s2), (1, .fn 206 [.ptr 0 0 0 1]), (7, I t), (8, I s)], [(0, ⟨1, true, [[.fn 101 []]]⟩)]⟩) (eE := fun e => (alt (fun e => ((.ret, ⟨[(4, I e)], [(0, ⟨1, true, [[.fn 101 []]]⟩)]⟩) : AExit × St)) (fun e => (.exit 0, ⟨[(0, sl eExt s2), (1, .fn 206 [.ptr 0 0 0 1]), (7, I t), (8, I e.1), (9, B e.2)], [(0, ⟨1, true, [[.fn 101 []]]⟩)]⟩))) e) (fun e => ?_) (fun t2 o h => ?_) h
  · rcases e with e | e <;> simp [alt]
  · skip
    simp only [slices_IndexFunc_Li_Ext_i_Ext_are_i_Ext_1_ExtOK_1_s] at h
    show Rn tab ow _ _ ⟨[(0, sl eExt s2), (1, .fn 206 [.ptr 0 0 0 1]), (7, I t), (8, I t2)], [(0, ⟨1, true, [[.fn 101 []]]⟩)]⟩ = _
    simp +decide only [b_slices_IndexFunc_Li_Ext_i_Ext_2, go_sem, reduceIte, Nat.reduceAdd]
    rcases brc h with ⟨hb, h⟩ | ⟨hb, h⟩
    · refine br_t hb ?_
      obtain ⟨x, h1, h⟩ := bd h
      refine bind_some h1 ?_
      obtain ⟨r_, h1, h⟩ := bd h
      refine call_aft (i_are_i_Ext_1_ExtOK_c h1) ?_
      simp +decide only [go_sem, reduceIte, Nat.reduceAdd]
      rcases brc h with ⟨hb, h⟩ | ⟨hb, h⟩
      · refine br_t hb ?_
        obtain rfl := Option.some.inj h
        first | rfl | (simp only [List.length_set, go_sem]; done)
      · refine br_f hb ?_
        obtain rfl := Option.some.inj h
        first | rfl | (simp only [List.length_set, go_sem]; done)
    · refine br_f hb ?_
      obtain rfl := Option.some.inj h
      first | rfl | (simp only [List.length_set, go_sem]; done)
noncomputable def slices_IndexFunc_Li_Ext_i_Ext_are_i_Ext_1_ExtOK (s : (List Ext)) : Option (Int) :=
  (Loop (slices_IndexFunc_Li_Ext_i_Ext_are_i_Ext_1_ExtOK_1_s s ((s.length : Nat) : Int)) (0 : Int)).bind (alt (fun e_2 =>
    some e_2) (fun e_3 =>
    some (-1 : Int)))
theorem slices_IndexFunc_Li_Ext_i_Ext_are_i_Ext_1_ExtOK_c {s : (List Ext)} {r : Int} (h : slices_IndexFunc_Li_Ext_i_Ext_are_i_Ext_1_ExtOK s = some r) : Call tab ow 234 [sl eExt s, .fn 206 [.ptr 0 0 0 1]] [⟨1, true, [[.fn 101 []]]⟩] = some (I r, [⟨1, true, [[.fn 101 []]]⟩]) := by
  rw [run_slices_IndexFunc_Li_Ext_i_Ext]
  unfold slices_IndexFunc_Li_Ext_i_Ext_are_i_Ext_1_ExtOK at h
  simp +decide only [b_slices_IndexFunc_Li_Ext_i_Ext, go_sem, reduceIte, Nat.reduceAdd]
  obtain ⟨e_, h1, h⟩ := bd h
  refine goR_of (slices_IndexFunc_Li_Ext_i_Ext_are_i_Ext_1_ExtOK_1_l h1) ?_
  rcases e_ with e_2 | e_3
  · simp +decide only [go_sem, reduceIte, Nat.reduceAdd]
    obtain rfl := Option.some.inj h
    first | rfl | (simp only [List.length_set, go_sem]; done)
  · simp +decide only [go_sem, reduceIte, Nat.reduceAdd]
    obtain rfl := Option.some.inj h
    first | rfl | (simp only [List.length_set, go_sem]; done)
noncomputable def slices_ContainsFunc_Li_Ext_i_Ext_are_i_Ext_1_ExtOK (s : (List Ext)) : Option (Bool) :=
  (slices_IndexFunc_Li_Ext_i_Ext_are_i_Ext_1_ExtOK s).bind fun r_ =>
  some (decide (r_ ≥ (0 : Int)))
theorem slices_ContainsFunc_Li_Ext_i_Ext_are_i_Ext_1_ExtOK_c {s : (List Ext)} {r : Bool} (h : slices_ContainsFunc_Li_Ext_i_Ext_are_i_Ext_1_ExtOK s = some r) : Call tab ow 144 [sl eExt s, .fn 206 [.ptr 0 0 0 1]] [⟨1, true, [[.fn 101 []]]⟩] = some (B r, [⟨1, true, [[.fn 101 []]]⟩]) := by
  rw [run_slices_ContainsFunc_Li_Ext_i_Ext]
  unfold slices_ContainsFunc_Li_Ext_i_Ext_are_i_Ext_1_ExtOK at h
  simp +decide only [b_slices_ContainsFunc_Li_Ext_i_Ext, go_sem, reduceIte, Nat.reduceAdd]
  obtain ⟨r_, h1, h⟩ := bd h
  refine call_aft (slices_IndexFunc_Li_Ext_i_Ext_are_i_Ext_1_ExtOK_c h1) ?_
  simp +decide only [go_sem, reduceIte, Nat.reduceAdd]
  obtain rfl := Option.some.inj h
  first | rfl | (simp only [List.length_set, go_sem]; done)
noncomputable def i_are_i_Ext_ExtOK (list : (List Ext)) : Option (Bool) :=
  (slices_ContainsFunc_Li_Ext_i_Ext_are_i_Ext_1_ExtOK list).bind fun r_ =>
  some (!r_)
theorem i_are_i_Ext_ExtOK_c {list : (List Ext)} {r : Bool} (h : i_are_i_Ext_ExtOK list = some r) : Call tab ow 100 [.fn 101 [], sl eExt list] [] = some (B r, []) := by
  rw [run_i_are_i_Ext]
  unfold i_are_i_Ext_ExtOK at h
  simp +decide only [b_i_are_i_Ext, go_sem, reduceIte, Nat.reduceAdd]
  obtain ⟨r_, h1, h⟩ := bd h
  refine call_aft (slices_ContainsFunc_Li_Ext_i_Ext_are_i_Ext_1_ExtOK_c h1) ?_
  simp +decide only [go_sem, reduceIte, Nat.reduceAdd]
  obtain rfl := Option.some.inj h
  first | rfl | (simp only [List.length_set, go_sem]; done)
noncomputable def i_one : Option (Ext) :=
  some (Ext.mk (1 : Int) (0 : Int))
theorem i_one_c {r : Ext} (h : i_one = some r) : Call tab ow 208 [] [] = some (.agg [I r.A, I r.B], []) := by
  rw [run_i_one]
  unfold i_one at h
  simp +decide only [b_i_one, go_sem, reduceIte, Nat.reduceAdd]
  obtain rfl := Option.some.inj h
  first | rfl | (simp only [List.length_set, go_sem]; done)
noncomputable def i_sub (a : Int) (b : Int) : Option (Int) :=
  some ((IntKind.wrap .i64 ((IntKind.wrap .i64 (a - b)) + (2130706433 : Int))).tmod (2130706433 : Int))
theorem i_sub_c {a : Int} {b : Int} {r : Int} (h : i_sub a b = some r) : Call tab ow 266 [I a, I b] [] = some (I r, []) := by
  rw [run_i_sub]
  unfold i_sub at h
  simp +decide only [b_i_sub, go_sem, reduceIte, Nat.reduceAdd]
  obtain rfl := Option.some.inj h
  first | rfl | (simp only [List.length_set, go_sem]; done)
noncomputable def i_Ext_minus (a : Ext) (b : Ext) : Option (Ext) :=
  (i_sub a.A b.A).bind fun r_ =>
  (i_sub a.B b.B).bind fun r_2 =>
  some (Ext.mk r_ r_2)
theorem i_Ext_minus_c {a : Ext} {b : Ext} {r : Ext} (h : i_Ext_minus a b = some r) : Call tab ow 209 [.agg [I a.A, I a.B], .agg [I b.A, I b.B]] [] = some (.agg [I r.A, I r.B], []) := by
  rw [run_i_Ext_minus]
  unfold i_Ext_minus at h
  simp +decide only [b_i_Ext_minus, go_sem, reduceIte, Nat.reduceAdd]
  obtain ⟨r_, h1, h⟩ := bd h
  refine call_aftD (i_sub_c h1) ?_
  simp +decide only [go_sem, reduceIte, Nat.reduceAdd]
  obtain ⟨r_2, h1, h⟩ := bd h
  refine call_aftD (i_sub_c h1) ?_
  simp +decide only [go_sem, reduceIte, Nat.reduceAdd]
  obtain rfl := Option.some.inj h
  first | rfl | (simp only [List.length_set, go_sem]; done)
noncomputable def i_mul (a : Int) (b : Int) : Option (Int) :=
  some ((IntKind.wrap .i64 (a * b)).tmod (2130706433 : Int))
theorem i_mul_c {a : Int} {b : Int} {r : Int} (h : i_mul a b = some r) : Call tab ow 212 [I a, I b] [] = some (I r, []) := by
  rw [run_i_mul]
  unfold i_mul at h
  simp +decide only [b_i_mul, go_sem, reduceIte, Nat.reduceAdd]
  obtain rfl := Option.some.inj h
  first | rfl | (simp only [List.length_set, go_sem]; done)
noncomputable def i_add (a : Int) (b : Int) : Option (Int) :=
  some ((IntKind.wrap .i64 (a + b)).tmod (2130706433 : Int))
theorem i_add_c {a : Int} {b : Int} {r : Int} (h : i_add a b = some r) : Call tab ow 211 [I a, I b] [] = some (I r, []) := by
  rw [run_i_add]
  unfold i_add at h
  simp +decide only [b_i_add, go_sem, reduceIte, Nat.reduceAdd]
  obtain rfl := Option.some.inj h
  first | rfl | (simp only [List.length_set, go_sem]; done)
noncomputable def i_Ext_times (a : Ext) (b : Ext) : Option (Ext) :=
  (i_mul a.A b.A).bind fun r_ =>
  (i_mul a.B b.B).bind fun r_2 =>
  (i_mul (3 : Int) r_2).bind fun r_3 =>
  (i_add r_ r_3).bind fun r_4 =>
  (i_mul a.A b.B).bind fun r_5 =>
  (i_mul a.B b.A).bind fun r_6 =>
  (i_add r_5 r_6).bind fun r_7 =>
  some (Ext.mk r_4 r_7)
theorem i_Ext_times_c {a : Ext} {b : Ext} {r : Ext} (h : i_Ext_times a b = some r) : Call tab ow 115 [.agg [I a.A, I a.B], .agg [I b.A, I b.B]] [] = some (.agg [I r.A, I r.B], []) := by
  rw [run_i_Ext_times]
  unfold i_Ext_times at h
  simp +decide only [b_i_Ext_times, go_sem, reduceIte, Nat.reduceAdd]
  obtain ⟨r_, h1, h⟩ := bd h
  refine call_aftD (i_mul_c h1) ?_
  simp +decide only [go_sem, reduceIte, Nat.reduceAdd]
  obtain ⟨r_2, h1, h⟩ := bd h
  refine call_aftD (i_mul_c h1) ?_
  simp +decide only [go_sem, reduceIte, Nat.reduceAdd]
  obtain ⟨r_3, h1, h⟩ := bd h
  refine call_aftD (i_mul_c h1) ?_
  simp +decide only [go_sem, reduceIte, Nat.reduceAdd]
  obtain ⟨r_4, h1, h⟩ := bd h
  refine call_aftD (i_add_c h1) ?_
  simp +decide only [go_sem, reduceIte, Nat.reduceAdd]
  obtain ⟨r_5, h1, h⟩ := bd h
  refine call_aftD (i_mul_c h1) ?_
  simp +decide only [go_sem, reduceIte, Nat.reduceAdd]
  obtain ⟨r_6, h1, h⟩ := bd h
  refine call_aftD (i_mul_c h1) ?_
  simp +decide only [go_sem, reduceIte, Nat.reduceAdd]
  obtain ⟨r_7, h1, h⟩ := bd h
  refine call_aftD (i_add_c h1) ?_
  simp +decide only [go_sem, reduceIte, Nat.reduceAdd]
  obtain rfl := Option.some.inj h
  first | rfl | (simp only [List.length_set, go_sem]; done)
end Go.AI.Fn

set_option linter.unusedVariables false
set_option linter.unusedSimpArgs false
set_option maxRecDepth 100000
set_option maxHeartbeats 1000000
namespace Go.AI.Fn
section
theorem i_eqTable_k0 : mkR 2001 [] = rws eExt [] := rfl
attribute [local go_sem] i_eqTable_k0
theorem i_eqTable_k1 : mkR 6000 [] = rws eExt [] := rfl
attribute [local go_sem] i_eqTable_k1
theorem i_eqTable_k2 : mkR 6001 [] = rws eExt [] := rfl
attribute [local go_sem] i_eqTable_k2
theorem i_eqTable_k3 : mkR 10006 [] = rws eExt [] := rfl
attribute [local go_sem] i_eqTable_k3
theorem i_eqTable_k4 : mkR 10012 [] = rws eExt [] := rfl
attribute [local go_sem] i_eqTable_k4
noncomputable def i_eqTable_2_s (t4 : List Ext) (t5 : Int) (t6 : Int) (t7 : List Ext) (t8 : Int) (c : Int) (c2 : Int) : (List Ext) × (List Ext) × Int → Option (((List Ext) × (List Ext) × Int) ⊕ (((List Ext) × (List Ext) × Int × Bool)))
  | (l, l2, t9) =>
    br (decide (t9 < t8)) (
      (atL t7 t9).bind fun x2 =>
      (i_one).bind fun r_2 =>
      (i_Ext_minus r_2 (Ext.mk c c2)).bind fun r_3 =>
      (i_Ext_times x2 r_3).bind fun r_4 =>
      br (fits ((l ++ ([r_4] : List Ext)).length) 16) (
        (i_Ext_times x2 (Ext.mk c c2)).bind fun r_5 =>
        br (fits ((l2 ++ ([r_5] : List Ext)).length) 16) (
          some (.inl ((l ++ ([r_4] : List Ext)), (l2 ++ ([r_5] : List Ext)), (IntKind.wrap .i64 (t9 + (1 : Int)))))) (
          none)) (
        none)) (
      some (.inr (l, l2, t9, decide (t9 < t8))))
theorem i_eqTable_2_l {t4 : List Ext} {t5 : Int} {t6 : Int} {t7 : List Ext} {t8 : Int} {c : Int} {c2 : Int} {l : List Ext} {l2 : List Ext} {t9 : Int} {e : ((List Ext) × (List Ext) × Int × Bool)} (h : Loop (i_eqTable_2_s t4 t5 t6 t7 t8 c c2) (l, l2, t9) = some e) : LoopX tab ow (.close [9002, 10002, 10004, 10005, 10006, 10007, 10011, 10012, 10013]) b_i_eqTable_7 ⟨[(5, .ptr 5002 0 0 1), (6, .sl 6000 0 l.length), (7, .sl 6001 0 l2.length), (12, sl eExt t4), (13, I t5), (14, I t6), (20, sl eExt t7), (21, I t8), (22, I t9)], [(5002, ⟨2, true, [[I c, I c2]]⟩), (6000, ⟨2, false, rws eExt l⟩), (6001, ⟨2, false, rws eExt l2⟩)]⟩ = some ((.exit 2, ⟨[(5, .ptr 5002 0 0 1), (6, .sl 6000 0 e.1.length), (7, .sl 6001 0 e.2.1.length), (12, sl eExt t4), (13, I t5), (14, I t6), (20, sl eExt t7), (21, I t8), (22, I e.2.2.1), (23, B e.2.2.2)], [(5002, ⟨2, true, [[I c, I c2]]⟩), (6000, ⟨2, false, rws eExt e.1⟩), (6001, ⟨2, false, rws eExt e.2.1⟩)]⟩)) := by
  refine loop_runG (S := (List Ext) × (List Ext) × Int) (eS := fun s => ⟨[(5, .ptr 5002 0 0 1), (6, .sl 6000 0 s.1.length), (7, .sl 6001 0 s.2.1.length), (12, sl eExt t4), (13, I t5), (14, I t6), (20, sl eExt t7), (21, I t8), (22, I s.2.2)], [(5002, ⟨2, true, [[I c, I c2]]⟩), (6000, ⟨2, false, rws eExt s.1⟩), (6001, ⟨2, false, rws eExt s.2.1⟩)]⟩) (eE := fun e => (.exit 2, ⟨[(5, .ptr 5002 0 0 1), (6, .sl 6000 0 e.1.length), (7, .sl 6001 0 e.2.1.length), (12, sl eExt t4), (13, I t5), (14, I t6), (20, sl eExt t7), (21, I t8), (22, I e.2.2.1), (23, B e.2.2.2)], [(5002, ⟨2, true, [[I c, I c2]]⟩), (6000, ⟨2, false, rws eExt e.1⟩), (6001, ⟨2, false, rws eExt e.2.1⟩)]⟩)) (fun e => ?_) (fun s o h => ?_) h
  · simp [alt]
  · obtain ⟨l, l2, t9⟩ := s
    simp only [i_eqTable_2_s] at h
    show Rn tab ow _ _ ⟨[(5, .ptr 5002 0 0 1), (6, .sl 6000 0 l.length), (7, .sl 6001 0 l2.length), (12, sl eExt t4), (13, I t5), (14, I t6), (20, sl eExt t7), (21, I t8), (22, I t9)], [(5002, ⟨2, true, [[I c, I c2]]⟩), (6000, ⟨2, false, rws eExt l⟩), (6001, ⟨2, false, rws eExt l2⟩)]⟩ = _
    simp +decide only [b_i_eqTable_7, go_sem, reduceIte, Nat.reduceAdd]
    rcases brc h with ⟨hb, h⟩ | ⟨hb, h⟩
    · refine br_t hb ?_
      obtain ⟨x2, h1, h⟩ := bd h
      refine bind_some h1 ?_
      obtain ⟨r_2, h1, h⟩ := bd h
      refine call_aftD (i_one_c h1) ?_
      simp +decide only [go_sem, reduceIte, Nat.reduceAdd]
      obtain ⟨r_3, h1, h⟩ := bd h
      refine call_aftD (i_Ext_minus_c h1) ?_
      simp +decide only [go_sem, reduceIte, Nat.reduceAdd]
      obtain ⟨r_4, h1, h⟩ := bd h
      refine call_aftD (i_Ext_times_c h1) ?_
      simp +decide only [go_sem, reduceIte, Nat.reduceAdd]
      obtain ⟨hb, h⟩ := brg h
      refine br_t hb ?_
      obtain ⟨r_5, h1, h⟩ := bd h
      refine call_aftD (i_Ext_times_c h1) ?_
      simp +decide only [go_sem, reduceIte, Nat.reduceAdd]
      obtain ⟨hb, h⟩ := brg h
      refine br_t hb ?_
      obtain rfl := Option.some.inj h
      first | rfl | (simp only [List.length_set, go_sem]; done)
    · refine br_f hb ?_
      obtain rfl := Option.some.inj h
      first | rfl | (simp only [List.length_set, go_sem]; done)
noncomputable def i_eqTable_1_s (t : List Ext) (t2 : Int) : (List Ext) × Int → Option (((List Ext) × Int) ⊕ (((List Ext) × Int × Bool)))
  | (out, t3) =>
    br (decide (t3 < t2)) (
      (atL t t3).bind fun x =>
      (Loop (i_eqTable_2_s t t2 t3 out ((out.length : Nat) : Int) x.A x.B) (([] : List Ext), ([] : List Ext), (0 : Int))).bind fun e_ =>
      br (fits ((e_.1 ++ e_.2.1).length) 16) (
        some (.inl ((e_.1 ++ e_.2.1), (IntKind.wrap .i64 (t3 + (1 : Int)))))) (
        none)) (
      some (.inr (out, t3, decide (t3 < t2))))
theorem i_eqTable_1_l {t : List Ext} {t2 : Int} {out : List Ext} {t3 : Int} {e : ((List Ext) × Int × Bool)} (h : Loop (i_eqTable_1_s t t2) (out, t3) = some e) : LoopX tab ow (.close [5002, 6000, 6001, 9002, 10002, 10004, 10005, 10006, 10007, 10011, 10012, 10013, 12002, 2001]) b_i_eqTable_3 ⟨[(3, sl eExt out), (12, sl eExt t), (13, I t2), (14, I t3)], []⟩ = some ((.exit 0, ⟨[(3, sl eExt e.1), (12, sl eExt t), (13, I t2), (14, I e.2.1), (15, B e.2.2)], []⟩)) := by
  refine loop_runG (S := (List Ext) × Int) (eS := fun s => ⟨[(3, sl eExt s.1), (12, sl eExt t), (13, I t2), (14, I s.2)], []⟩) (eE := fun e => (.exit 0, ⟨[(3, sl eExt e.1), (12, sl eExt t), (13, I t2), (14, I e.2.1), (15, B e.2.2)], []⟩)) (fun e => ?_) (fun s o h => ?_) h
  · simp [alt]
  · obtain ⟨out, t3⟩ := s
    simp only [i_eqTable_1_s] at h
    show Rn tab ow _ _ ⟨[(3, sl eExt out), (12, sl eExt t), (13, I t2), (14, I t3)], []⟩ = _
    simp +decide only [b_i_eqTable_3, go_sem, reduceIte, Nat.reduceAdd]
    rcases brc h with ⟨hb, h⟩ | ⟨hb, h⟩
    · refine br_t hb ?_
      obtain ⟨x, h1, h⟩ := bd h
      refine bind_some h1 ?_
      obtain ⟨e_, h1, h⟩ := bd h
      refine goR_of (i_eqTable_2_l h1) ?_
      simp +decide only [go_sem, reduceIte, Nat.reduceAdd]
      obtain ⟨hb, h⟩ := brg h
      refine br_t hb ?_
      obtain rfl := Option.some.inj h
      first | rfl | (simp only [List.length_set, go_sem]; done)
    · refine br_f hb ?_
      obtain rfl := Option.some.inj h
      first | rfl | (simp only [List.length_set, go_sem]; done)
noncomputable def i_eqTable (point : (List Ext)) : Option ((List Ext)) :=
  (i_one).bind fun r_ =>
  (Loop (i_eqTable_1_s point ((point.length : Nat) : Int)) (([r_] : List Ext), (0 : Int))).bind fun e_2 =>
  some e_2.1
theorem i_eqTable_c {point : (List Ext)} {r : (List Ext)} (h : i_eqTable point = some r) : Call tab ow 108 [sl eExt point] [] = some (sl eExt r, []) := by
  rw [run_i_eqTable]
  unfold i_eqTable at h
  simp +decide only [b_i_eqTable, go_sem, reduceIte, Nat.reduceAdd]
  obtain ⟨r_, h1, h⟩ := bd h
  refine call_aft (i_one_c h1) ?_
  simp +decide only [go_sem, reduceIte, Nat.reduceAdd]
  obtain ⟨e_2, h1, h⟩ := bd h
  refine goR_of (i_eqTable_1_l h1) ?_
  simp +decide only [go_sem, reduceIte, Nat.reduceAdd]
  obtain rfl := Option.some.inj h
  first | rfl | (simp only [List.length_set, go_sem]; done)
end
noncomputable def i_Ext_plus (a : Ext) (b : Ext) : Option (Ext) :=
  (i_add a.A b.A).bind fun r_ =>
  (i_add a.B b.B).bind fun r_2 =>
  some (Ext.mk r_ r_2)
theorem i_Ext_plus_c {a : Ext} {b : Ext} {r : Ext} (h : i_Ext_plus a b = some r) : Call tab ow 116 [.agg [I a.A, I a.B], .agg [I b.A, I b.B]] [] = some (.agg [I r.A, I r.B], []) := by
  rw [run_i_Ext_plus]
  unfold i_Ext_plus at h
  simp +decide only [b_i_Ext_plus, go_sem, reduceIte, Nat.reduceAdd]
  obtain ⟨r_, h1, h⟩ := bd h
  refine call_aftD (i_add_c h1) ?_
  simp +decide only [go_sem, reduceIte, Nat.reduceAdd]
  obtain ⟨r_2, h1, h⟩ := bd h
  refine call_aftD (i_add_c h1) ?_
  simp +decide only [go_sem, reduceIte, Nat.reduceAdd]
  obtain rfl := Option.some.inj h
  first | rfl | (simp only [List.length_set, go_sem]; done)
noncomputable def w_at (more : (List UInt8)) (i : Int) (n : Int) : Option (Int) :=
  br (decide (n ≤ (1 : Int))) (
    some (0 : Int)) (
    br (((more.length : Nat) : Int) == (0 : Int)) (
      br (decide (n ≠ 0)) (
        some ((IntKind.wrap .i64 (i * (7 : Int))).tmod n)) (
        none)) (
      br (decide (((more.length : Nat) : Int) ≠ 0)) (
        (atL more (i.tmod ((more.length : Nat) : Int))).bind fun x =>
        br (decide (((more.length : Nat) : Int) ≠ 0)) (
          (atL more ((IntKind.wrap .i64 (i + (1 : Int))).tmod ((more.length : Nat) : Int))).bind fun x2 =>
          br (decide (((more.length : Nat) : Int) ≠ 0)) (
            br (decide (n ≠ 0)) (
              some ((IntKind.wrap .i64 ((IntKind.wrap .i64 ((IntKind.wrap .i64 ((IntKind.wrap .i64 (x.toNat : Int)) * (31 : Int))) + (IntKind.wrap .i64 (x2.toNat : Int)))) + (IntKind.wrap .i64 (i.tdiv ((more.length : Nat) : Int))))).tmod n)) (
              none)) (
            none)) (
          none)) (
        none)))
theorem w_at_c {more : (List UInt8)} {i : Int} {n : Int} {r : Int} (h : w_at more i n = some r) : Call tab ow 21 [sl eU8 more, I i, I n] [] = some (I r, []) := by
  rw [run_w_at]
  unfold w_at at h
  simp +decide only [b_w_at, go_sem, reduceIte, Nat.reduceAdd]
  rcases brc h with ⟨hb, h⟩ | ⟨hb, h⟩
  · refine br_t hb ?_
    obtain rfl := Option.some.inj h
    first | rfl | (simp only [List.length_set, go_sem]; done)
  · refine br_f hb ?_
    rcases brc h with ⟨hb, h⟩ | ⟨hb, h⟩
    · refine br_t hb ?_
      obtain ⟨hb, h⟩ := brg h
      refine br_t hb ?_
      obtain rfl := Option.some.inj h
      first | rfl | (simp only [List.length_set, go_sem]; done)
    · refine br_f hb ?_
      obtain ⟨hb, h⟩ := brg h
      refine br_t hb ?_
      obtain ⟨x, h1, h⟩ := bd h
      refine bind_some h1 ?_
      obtain ⟨hb, h⟩ := brg h
      refine br_t hb ?_
      obtain ⟨x2, h1, h⟩ := bd h
      refine bind_some h1 ?_
      obtain ⟨hb, h⟩ := brg h
      refine br_t hb ?_
      obtain ⟨hb, h⟩ := brg h
      refine br_t hb ?_
      obtain rfl := Option.some.inj h
      first | rfl | (simp only [List.length_set, go_sem]; done)
noncomputable def i_Ext_scaled (a : Ext) (n : Int) : Option (Ext) :=
  (i_mul a.A n).bind fun r_ =>
  (i_mul a.B n).bind fun r_2 =>
  some (Ext.mk r_ r_2)
theorem i_Ext_scaled_c {a : Ext} {n : Int} {r : Ext} (h : i_Ext_scaled a n = some r) : Call tab ow 170 [.agg [I a.A, I a.B], I n] [] = some (.agg [I r.A, I r.B], []) := by
  rw [run_i_Ext_scaled]
  unfold i_Ext_scaled at h
  simp +decide only [b_i_Ext_scaled, go_sem, reduceIte, Nat.reduceAdd]
  obtain ⟨r_, h1, h⟩ := bd h
  refine call_aftD (i_mul_c h1) ?_
  simp +decide only [go_sem, reduceIte, Nat.reduceAdd]
  obtain ⟨r_2, h1, h⟩ := bd h
  refine call_aftD (i_mul_c h1) ?_
  simp +decide only [go_sem, reduceIte, Nat.reduceAdd]
  obtain rfl := Option.some.inj h
  first | rfl | (simp only [List.length_set, go_sem]; done)
section
theorem i_four_o_k0 : mkR 2012 [] = rws eU8 [] := rfl
attribute [local go_sem] i_four_o_k0
noncomputable def i_four_o (n : Int) (l : List UInt8) : Option ((List UInt8)) :=
  br (fits ((l ++ ([(UInt8.ofInt (shr64 .i64 n (24 : Int))), (UInt8.ofInt (shr64 .i64 n (16 : Int))), (UInt8.ofInt (shr64 .i64 n (8 : Int))), (UInt8.ofInt n)] : List UInt8)).length) 1) (
    some (l ++ ([(UInt8.ofInt (shr64 .i64 n (24 : Int))), (UInt8.ofInt (shr64 .i64 n (16 : Int))), (UInt8.ofInt (shr64 .i64 n (8 : Int))), (UInt8.ofInt n)] : List UInt8))) (
    none)
theorem i_four_o_c {n : Int} {l : List UInt8} {r : (List UInt8)} (h : i_four_o n l = some r) : Call tab ow 215 [.sl 0 0 l.length, I n] [⟨1, false, rws eU8 l⟩] = some (.sl 0 0 r.length, [⟨1, false, rws eU8 r⟩]) := by
  rw [run_i_four]
  unfold i_four_o at h
  simp +decide only [b_i_four, go_sem, reduceIte, Nat.reduceAdd]
  obtain ⟨hb, h⟩ := brg h
  refine br_t hb ?_
  obtain rfl := Option.some.inj h
  first | rfl | (simp only [List.length_set, go_sem]; done)
end
noncomputable def s_l01In (n : Int) (low : Int) (high : Int) : Option (Bool) :=
  br (decide (low ≤ n)) (
    some (decide (n ≤ high))) (
    some false)
theorem s_l01In_c {n : Int} {low : Int} {high : Int} {r : Bool} (h : s_l01In n low high = some r) : Call tab ow 140 [I n, I low, I high] [] = some (B r, []) := by
  rw [run_s_l01In]
  unfold s_l01In at h
  simp +decide only [b_s_l01In, go_sem, reduceIte, Nat.reduceAdd]
  rcases brc h with ⟨hb, h⟩ | ⟨hb, h⟩
  · refine br_t hb ?_
    obtain rfl := Option.some.inj h
    first | rfl | (simp only [List.length_set, go_sem]; done)
  · refine br_f hb ?_
    obtain rfl := Option.some.inj h
    first | rfl | (simp only [List.length_set, go_sem]; done)
noncomputable def s_FieldOK (a : Int) : Option (Bool) :=
  (s_l01In a (0 : Int) (2130706432 : Int)).bind fun r_ =>
  some r_
theorem s_FieldOK_c {a : Int} {r : Bool} (h : s_FieldOK a = some r) : Call tab ow 238 [I a] [] = some (B r, []) := by
  rw [run_s_FieldOK]
  unfold s_FieldOK at h
  simp +decide only [b_s_FieldOK, go_sem, reduceIte, Nat.reduceAdd]
  obtain ⟨r_, h1, h⟩ := bd h
  refine call_aft (s_l01In_c h1) ?_
  simp +decide only [go_sem, reduceIte, Nat.reduceAdd]
  obtain rfl := Option.some.inj h
  first | rfl | (simp only [List.length_set, go_sem]; done)
noncomputable def s_ExtOK (a : Ext) : Option (Bool) :=
  (s_FieldOK a.A).bind fun r_ =>
  br r_ (
    (s_FieldOK a.B).bind fun r_2 =>
    some r_2) (
    some false)
theorem s_ExtOK_c {a : Ext} {r : Bool} (h : s_ExtOK a = some r) : Call tab ow 216 [.agg [I a.A, I a.B]] [] = some (B r, []) := by
  rw [run_s_ExtOK]
  unfold s_ExtOK at h
  simp +decide only [b_s_ExtOK, go_sem, reduceIte, Nat.reduceAdd]
  obtain ⟨r_, h1, h⟩ := bd h
  refine call_aft (s_FieldOK_c h1) ?_
  simp +decide only [go_sem, reduceIte, Nat.reduceAdd]
  rcases brc h with ⟨hb, h⟩ | ⟨hb, h⟩
  · refine br_t hb ?_
    obtain ⟨r_2, h1, h⟩ := bd h
    refine call_aft (s_FieldOK_c h1) ?_
    simp +decide only [go_sem, reduceIte, Nat.reduceAdd]
    obtain rfl := Option.some.inj h
    first | rfl | (simp only [List.length_set, go_sem]; done)
  · refine br_f hb ?_
    obtain rfl := Option.some.inj h
    first | rfl | (simp only [List.length_set, go_sem]; done)
noncomputable def s_l02List_1_s (list2 : List Ext) : Int → Option ((Int) ⊕ (Unit ⊕ (Int × Bool)))
  | i =>
    br (decide (i < ((list2.length : Nat) : Int))) (
      (atL list2 i).bind fun x =>
      (s_ExtOK x).bind fun r_ =>
      br (!r_) (
        some (.inr (.inl ()))) (
        some (.inl (IntKind.wrap .i64 (i + (1 : Int)))))) (
      some (.inr (.inr (i, decide (i < ((list2.length : Nat) : Int))))))
theorem s_l02List_1_l {list2 : List Ext} {i : Int} {e : Unit ⊕ (Int × Bool)} (h : Loop (s_l02List_1_s list2) i = some e) : LoopX tab ow (.close [5004]) b_s_l02List_2 ⟨[(0, sl eExt list2), (3, I i)], []⟩ = some ((alt (fun e => ((.ret, ⟨[(2, B false)], []⟩) : AExit × St)) (fun e => (.exit 0, ⟨[(0, sl eExt list2), (3, I e.1), (7, B e.2)], []⟩))) e) := by
  refine loop_runG (S := Int) (eS := fun s => ⟨[(0, sl eExt list2), (3, I s)], []⟩) (eE := fun e => (alt (fun e => ((.ret, ⟨[(2, B false)], []⟩) : AExit × St)) (fun e => (.exit 0, ⟨[(0, sl eExt list2), (3, I e.1), (7, B e.2)], []⟩))) e) (fun e => ?_) (fun i o h => ?_) h
  · rcases e with e | e <;> simp [alt]
  · skip
    simp only [s_l02List_1_s] at h
    show Rn tab ow _ _ ⟨[(0, sl eExt list2), (3, I i)], []⟩ = _
    simp +decide only [b_s_l02List_2, go_sem, reduceIte, Nat.reduceAdd]
    rcases brc h with ⟨hb, h⟩ | ⟨hb, h⟩
    · refine br_t hb ?_
      obtain ⟨x, h1, h⟩ := bd h
      refine bind_some h1 ?_
      obtain ⟨r_, h1, h⟩ := bd h
      refine call_aft (s_ExtOK_c h1) ?_
      simp +decide only [go_sem, reduceIte, Nat.reduceAdd]
      rcases brc h with ⟨hb, h⟩ | ⟨hb, h⟩
      · refine br_t hb ?_
        obtain rfl := Option.some.inj h
        first | rfl | (simp only [List.length_set, go_sem]; done)
      · refine br_f hb ?_
        obtain rfl := Option.some.inj h
        first | rfl | (simp only [List.length_set, go_sem]; done)
    · refine br_f hb ?_
      obtain rfl := Option.some.inj h
      first | rfl | (simp only [List.length_set, go_sem]; done)
noncomputable def s_l02List (list : (List Ext)) : Option (Bool) :=
  (Loop (s_l02List_1_s list) (0 : Int)).bind (alt (fun e_2 =>
    some false) (fun e_3 =>
    some true))
theorem s_l02List_c {list : (List Ext)} {r : Bool} (h : s_l02List list = some r) : Call tab ow 120 [sl eExt list] [] = some (B r, []) := by
  rw [run_s_l02List]
  unfold s_l02List at h
  simp +decide only [b_s_l02List, go_sem, reduceIte, Nat.reduceAdd]
  obtain ⟨e_, h1, h⟩ := bd h
  refine goR_of (s_l02List_1_l h1) ?_
  rcases e_ with e_2 | e_3
  · simp +decide only [go_sem, reduceIte, Nat.reduceAdd]
    obtain rfl := Option.some.inj h
    first | rfl | (simp only [List.length_set, go_sem]; done)
  · simp +decide only [go_sem, reduceIte, Nat.reduceAdd]
    obtain rfl := Option.some.inj h
    first | rfl | (simp only [List.length_set, go_sem]; done)
section
theorem s_l02Number_k0 : mkR 2000 [] = rws eU8 [] := rfl
attribute [local go_sem] s_l02Number_k0
theorem s_l02Number_k1 : mkR 6007 [] = rws eU8 [] := rfl
attribute [local go_sem] s_l02Number_k1
noncomputable def s_l02Number_1_s (n2 : Int) : (List UInt8) × Int → Option (((List UInt8) × Int) ⊕ (((List UInt8) × Int × Bool)))
  | (l, i) =>
    br (decide (i ≥ (0 : Int))) (
      br (decide (0 ≤ (IntKind.wrap .u64 (IntKind.wrap .i64 ((8 : Int) * i))))) (
        br (fits ((l ++ ([(UInt8.ofInt (shr64 .i64 n2 (IntKind.wrap .u64 (IntKind.wrap .i64 ((8 : Int) * i)))))] : List UInt8)).length) 1) (
          some (.inl ((l ++ ([(UInt8.ofInt (shr64 .i64 n2 (IntKind.wrap .u64 (IntKind.wrap .i64 ((8 : Int) * i)))))] : List UInt8)), (IntKind.wrap .i64 (i - (1 : Int)))))) (
          none)) (
        none)) (
      some (.inr (l, i, decide (i ≥ (0 : Int)))))
theorem s_l02Number_1_l {n2 : Int} {l : List UInt8} {i : Int} {e : ((List UInt8) × Int × Bool)} (h : Loop (s_l02Number_1_s n2) (l, i) = some e) : LoopX tab ow (.close [6007, 6008]) b_s_l02Number_3 ⟨[(0, I n2), (5, .sl 2000 0 l.length), (6, I i)], [(2000, ⟨1, false, rws eU8 l⟩)]⟩ = some ((.exit 0, ⟨[(0, I n2), (5, .sl 2000 0 e.1.length), (6, I e.2.1), (11, B e.2.2)], [(2000, ⟨1, false, rws eU8 e.1⟩)]⟩)) := by
  refine loop_runG (S := (List UInt8) × Int) (eS := fun s => ⟨[(0, I n2), (5, .sl 2000 0 s.1.length), (6, I s.2)], [(2000, ⟨1, false, rws eU8 s.1⟩)]⟩) (eE := fun e => (.exit 0, ⟨[(0, I n2), (5, .sl 2000 0 e.1.length), (6, I e.2.1), (11, B e.2.2)], [(2000, ⟨1, false, rws eU8 e.1⟩)]⟩)) (fun e => ?_) (fun s o h => ?_) h
  · simp [alt]
  · obtain ⟨l, i⟩ := s
    simp only [s_l02Number_1_s] at h
    show Rn tab ow _ _ ⟨[(0, I n2), (5, .sl 2000 0 l.length), (6, I i)], [(2000, ⟨1, false, rws eU8 l⟩)]⟩ = _
    simp +decide only [b_s_l02Number_3, go_sem, reduceIte, Nat.reduceAdd]
    rcases brc h with ⟨hb, h⟩ | ⟨hb, h⟩
    · refine br_t hb ?_
      obtain ⟨hb, h⟩ := brg h
      refine br_t hb ?_
      obtain ⟨hb, h⟩ := brg h
      refine br_t hb ?_
      obtain rfl := Option.some.inj h
      first | rfl | (simp only [List.length_set, go_sem]; done)
    · refine br_f hb ?_
      obtain rfl := Option.some.inj h
      first | rfl | (simp only [List.length_set, go_sem]; done)
noncomputable def s_l02Number (n : Int) (size : Int) : Option ((List UInt8)) :=
  (Loop (s_l02Number_1_s n) (([] : List UInt8), (IntKind.wrap .i64 (size - (1 : Int))))).bind fun e_ =>
  some e_.1
theorem s_l02Number_c {n : Int} {size : Int} {r : (List UInt8)} (h : s_l02Number n size = some r) : Call tab ow 217 [I n, I size] [] = some (sl eU8 r, []) := by
  rw [run_s_l02Number]
  unfold s_l02Number at h
  simp +decide only [b_s_l02Number, go_sem, reduceIte, Nat.reduceAdd]
  obtain ⟨e_, h1, h⟩ := bd h
  refine goR_of (s_l02Number_1_l h1) ?_
  simp +decide only [go_sem, reduceIte, Nat.reduceAdd]
  obtain rfl := Option.some.inj h
  first | rfl | (simp only [List.length_set, go_sem]; done)
end
noncomputable def s_l01Mul (a : Int) (b : Int) : Option (Int) :=
  some ((IntKind.wrap .i64 (a * b)).tmod (2130706433 : Int))
theorem s_l01Mul_c {a : Int} {b : Int} {r : Int} (h : s_l01Mul a b = some r) : Call tab ow 220 [I a, I b] [] = some (I r, []) := by
  rw [run_s_l01Mul]
  unfold s_l01Mul at h
  simp +decide only [b_s_l01Mul, go_sem, reduceIte, Nat.reduceAdd]
  obtain rfl := Option.some.inj h
  first | rfl | (simp only [List.length_set, go_sem]; done)
noncomputable def s_l01Add (a : Int) (b : Int) : Option (Int) :=
  some ((IntKind.wrap .i64 (a + b)).tmod (2130706433 : Int))
theorem s_l01Add_c {a : Int} {b : Int} {r : Int} (h : s_l01Add a b = some r) : Call tab ow 219 [I a, I b] [] = some (I r, []) := by
  rw [run_s_l01Add]
  unfold s_l01Add at h
  simp +decide only [b_s_l01Add, go_sem, reduceIte, Nat.reduceAdd]
  obtain rfl := Option.some.inj h
  first | rfl | (simp only [List.length_set, go_sem]; done)
noncomputable def s_l02Mul (a : Ext) (b : Ext) : Option (Ext) :=
  (s_l01Mul a.A b.A).bind fun r_ =>
  (s_l01Mul a.B b.B).bind fun r_2 =>
  (s_l01Add r_ ((IntKind.wrap .i64 ((3 : Int) * r_2)).tmod (2130706433 : Int))).bind fun r_3 =>
  (s_l01Mul a.A b.B).bind fun r_4 =>
  (s_l01Mul a.B b.A).bind fun r_5 =>
  (s_l01Add r_4 r_5).bind fun r_6 =>
  some (Ext.mk r_3 r_6)
theorem s_l02Mul_c {a : Ext} {b : Ext} {r : Ext} (h : s_l02Mul a b = some r) : Call tab ow 125 [.agg [I a.A, I a.B], .agg [I b.A, I b.B]] [] = some (.agg [I r.A, I r.B], []) := by
  rw [run_s_l02Mul]
  unfold s_l02Mul at h
  simp +decide only [b_s_l02Mul, go_sem, reduceIte, Nat.reduceAdd]
  obtain ⟨r_, h1, h⟩ := bd h
  refine call_aftD (s_l01Mul_c h1) ?_
  simp +decide only [go_sem, reduceIte, Nat.reduceAdd]
  obtain ⟨r_2, h1, h⟩ := bd h
  refine call_aftD (s_l01Mul_c h1) ?_
  simp +decide only [go_sem, reduceIte, Nat.reduceAdd]
  obtain ⟨r_3, h1, h⟩ := bd h
  refine call_aftD (s_l01Add_c h1) ?_
  simp +decide only [go_sem, reduceIte, Nat.reduceAdd]
  obtain ⟨r_4, h1, h⟩ := bd h
  refine call_aftD (s_l01Mul_c h1) ?_
  simp +decide only [go_sem, reduceIte, Nat.reduceAdd]
  obtain ⟨r_5, h1, h⟩ := bd h
  refine call_aftD (s_l01Mul_c h1) ?_
  simp +decide only [go_sem, reduceIte, Nat.reduceAdd]
  obtain ⟨r_6, h1, h⟩ := bd h
  refine call_aftD (s_l01Add_c h1) ?_
  simp +decide only [go_sem, reduceIte, Nat.reduceAdd]
  obtain rfl := Option.some.inj h
  first | rfl | (simp only [List.length_set, go_sem]; done)
noncomputable def s_l02Add (a : Ext) (b : Ext) : Option (Ext) :=
  (s_l01Add a.A b.A).bind fun r_ =>
  (s_l01Add a.B b.B).bind fun r_2 =>
  some (Ext.mk r_ r_2)
theorem s_l02Add_c {a : Ext} {b : Ext} {r : Ext} (h : s_l02Add a b = some r) : Call tab ow 124 [.agg [I a.A, I a.B], .agg [I b.A, I b.B]] [] = some (.agg [I r.A, I r.B], []) := by
  rw [run_s_l02Add]
  unfold s_l02Add at h
  simp +decide only [b_s_l02Add, go_sem, reduceIte, Nat.reduceAdd]
  obtain ⟨r_, h1, h⟩ := bd h
  refine call_aftD (s_l01Add_c h1) ?_
  simp +decide only [go_sem, reduceIte, Nat.reduceAdd]
  obtain ⟨r_2, h1, h⟩ := bd h
  refine call_aftD (s_l01Add_c h1) ?_
  simp +decide only [go_sem, reduceIte, Nat.reduceAdd]
  obtain rfl := Option.some.inj h
  first | rfl | (simp only [List.length_set, go_sem]; done)
noncomputable def s_l02Of (n : Int) : Option (Ext) :=
  some (Ext.mk n (0 : Int))
theorem s_l02Of_c {n : Int} {r : Ext} (h : s_l02Of n = some r) : Call tab ow 224 [I n] [] = some (.agg [I r.A, I r.B], []) := by
  rw [run_s_l02Of]
  unfold s_l02Of at h
  simp +decide only [b_s_l02Of, go_sem, reduceIte, Nat.reduceAdd]
  obtain rfl := Option.some.inj h
  first | rfl | (simp only [List.length_set, go_sem]; done)
noncomputable def s_l01Sub (a : Int) (b : Int) : Option (Int) :=
  some ((IntKind.wrap .i64 ((IntKind.wrap .i64 (a + (2130706433 : Int))) - b)).tmod (2130706433 : Int))
theorem s_l01Sub_c {a : Int} {b : Int} {r : Int} (h : s_l01Sub a b = some r) : Call tab ow 269 [I a, I b] [] = some (I r, []) := by
  rw [run_s_l01Sub]
  unfold s_l01Sub at h
  simp +decide only [b_s_l01Sub, go_sem, reduceIte, Nat.reduceAdd]
  obtain rfl := Option.some.inj h
  first | rfl | (simp only [List.length_set, go_sem]; done)
noncomputable def s_l02Sub (a : Ext) (b : Ext) : Option (Ext) :=
  (s_l01Sub a.A b.A).bind fun r_ =>
  (s_l01Sub a.B b.B).bind fun r_2 =>
  some (Ext.mk r_ r_2)
theorem s_l02Sub_c {a : Ext} {b : Ext} {r : Ext} (h : s_l02Sub a b = some r) : Call tab ow 225 [.agg [I a.A, I a.B], .agg [I b.A, I b.B]] [] = some (.agg [I r.A, I r.B], []) := by
  rw [run_s_l02Sub]
  unfold s_l02Sub at h
  simp +decide only [b_s_l02Sub, go_sem, reduceIte, Nat.reduceAdd]
  obtain ⟨r_, h1, h⟩ := bd h
  refine call_aftD (s_l01Sub_c h1) ?_
  simp +decide only [go_sem, reduceIte, Nat.reduceAdd]
  obtain ⟨r_2, h1, h⟩ := bd h
  refine call_aftD (s_l01Sub_c h1) ?_
  simp +decide only [go_sem, reduceIte, Nat.reduceAdd]
  obtain rfl := Option.some.inj h
  first | rfl | (simp only [List.length_set, go_sem]; done)
noncomputable def s_l03Lanes_1_s (m : List Int) (t2 : List UInt8) : (List Int) × Int → Option (((List Int) × Int) ⊕ (((List Int) × Int × Bool)))
  | (m2, i) =>
    br (decide (i < ((t2.length : Nat) : Int))) (
      br (decide (0 ≤ (IntKind.wrap .i64 (i.tdiv (8 : Int)))) && decide ((IntKind.wrap .i64 (i.tdiv (8 : Int))).toNat < 25)) (
        (m2[(IntKind.wrap .i64 (i.tdiv (8 : Int))).toNat]?).bind fun x =>
        (atL t2 i).bind fun c =>
        br (decide (0 ≤ (IntKind.wrap .u64 (IntKind.wrap .i64 ((8 : Int) * (i.tmod (8 : Int))))))) (
          br (decide (0 ≤ (IntKind.wrap .i64 (i.tdiv (8 : Int)))) && decide ((IntKind.wrap .i64 (i.tdiv (8 : Int))).toNat < 25)) (
            br (decide ((IntKind.wrap .i64 (i.tdiv (8 : Int))).toNat < m2.length)) (
              some (.inl ((m2.set ((IntKind.wrap .i64 (i.tdiv (8 : Int))).toNat) (or64 .u64 x (shl64 .u64 (IntKind.wrap .u64 (c.toNat : Int)) (IntKind.wrap .u64 (IntKind.wrap .i64 ((8 : Int) * (i.tmod (8 : Int)))))))), (IntKind.wrap .i64 (i + (1 : Int)))))) (
              none)) (
            none)) (
          none)) (
        none)) (
      some (.inr (m2, i, decide (i < ((t2.length : Nat) : Int)))))
theorem s_l03Lanes_1_l {m : List Int} {t2 : List UInt8} {m2 : List Int} {i : Int} {e : ((List Int) × Int × Bool)} (h : Loop (s_l03Lanes_1_s m t2) (m2, i) = some e) : LoopX tab ow (.close []) b_s_l03Lanes_3 ⟨[(0, S t2), (2, .ptr 1000 0 0 1), (3, .ptr 2001 0 0 1), (4, I i)], [(1000, ⟨25, true, [ar .u64 m]⟩), (2001, ⟨25, true, [ar .u64 m2]⟩)]⟩ = some ((.exit 0, ⟨[(0, S t2), (2, .ptr 1000 0 0 1), (3, .ptr 2001 0 0 1), (4, I e.2.1), (9, B e.2.2)], [(1000, ⟨25, true, [ar .u64 m]⟩), (2001, ⟨25, true, [ar .u64 e.1]⟩)]⟩)) := by
  refine loop_runG (S := (List Int) × Int) (eS := fun s => ⟨[(0, S t2), (2, .ptr 1000 0 0 1), (3, .ptr 2001 0 0 1), (4, I s.2)], [(1000, ⟨25, true, [ar .u64 m]⟩), (2001, ⟨25, true, [ar .u64 s.1]⟩)]⟩) (eE := fun e => (.exit 0, ⟨[(0, S t2), (2, .ptr 1000 0 0 1), (3, .ptr 2001 0 0 1), (4, I e.2.1), (9, B e.2.2)], [(1000, ⟨25, true, [ar .u64 m]⟩), (2001, ⟨25, true, [ar .u64 e.1]⟩)]⟩)) (fun e => ?_) (fun s o h => ?_) h
  · simp [alt]
  · obtain ⟨m2, i⟩ := s
    simp only [s_l03Lanes_1_s] at h
    show Rn tab ow _ _ ⟨[(0, S t2), (2, .ptr 1000 0 0 1), (3, .ptr 2001 0 0 1), (4, I i)], [(1000, ⟨25, true, [ar .u64 m]⟩), (2001, ⟨25, true, [ar .u64 m2]⟩)]⟩ = _
    simp +decide only [b_s_l03Lanes_3, go_sem, reduceIte, Nat.reduceAdd]
    rcases brc h with ⟨hb, h⟩ | ⟨hb, h⟩
    · refine br_t hb ?_
      obtain ⟨hb, h⟩ := brg h
      refine br_t hb ?_
      obtain ⟨x, h1, h⟩ := bd h
      refine bind_some h1 ?_
      obtain ⟨c, h1, h⟩ := bd h
      refine bind_some h1 ?_
      obtain ⟨hb, h⟩ := brg h
      refine br_t hb ?_
      obtain ⟨hb, h⟩ := brg h
      refine br_t hb ?_
      obtain ⟨hb, h⟩ := brg h
      refine br_t hb ?_
      obtain rfl := Option.some.inj h
      first | rfl | (simp only [List.length_set, go_sem]; done)
    · refine br_f hb ?_
      obtain rfl := Option.some.inj h
      first | rfl | (simp only [List.length_set, go_sem]; done)
noncomputable def s_l03Lanes (t : (List UInt8)) : Option ((List Int)) :=
  (Loop (s_l03Lanes_1_s (nZ 25) t) ((nZ 25), (0 : Int))).bind fun e_ =>
  br (decide (e_.1.length = 25)) (
    br (decide (e_.1.length = 25)) (
      br (decide (e_.1.length = 25)) (
        some e_.1) (
        none)) (
      none)) (
    none)
theorem s_l03Lanes_c {t : (List UInt8)} {r : (List Int)} (h : s_l03Lanes t = some r) : Call tab ow 274 [S t] [] = some (.agg (ar .u64 r), []) := by
  rw [run_s_l03Lanes]
  unfold s_l03Lanes at h
  simp +decide only [b_s_l03Lanes, go_sem, reduceIte, Nat.reduceAdd]
  obtain ⟨e_, h1, h⟩ := bd h
  refine goR_of (s_l03Lanes_1_l h1) ?_
  simp +decide only [go_sem, reduceIte, Nat.reduceAdd]
  obtain ⟨hb, h⟩ := brg h
  refine br_t hb ?_
  obtain ⟨hb, h⟩ := brg h
  refine br_t hb ?_
  obtain ⟨hb, h⟩ := brg h
  refine br_t hb ?_
  obtain rfl := Option.some.inj h
  first | rfl | (simp only [List.length_set, go_sem]; done)
noncomputable def s_l03Rounds : Option ((List Int)) :=
  some ([1, 32898, 9223372036854808714, 9223372039002292224, 32907, 2147483649, 9223372039002292353, 9223372036854808585, 138, 136, 2147516425, 2147483658, 2147516555, 9223372036854775947, 9223372036854808713, 9223372036854808579, 9223372036854808578, 9223372036854775936, 32778, 9223372039002259466, 9223372039002292353, 9223372036854808704, 2147483649, 9223372039002292232] : List Int)
theorem s_l03Rounds_c {r : (List Int)} (h : s_l03Rounds = some r) : Call tab ow 290 [] [] = some (.agg (ar .u64 r), []) := by
  rw [run_s_l03Rounds]
  unfold s_l03Rounds at h
  simp +decide only [b_s_l03Rounds, go_sem, reduceIte, Nat.reduceAdd]
  obtain rfl := Option.some.inj h
  first | rfl | (simp only [List.length_set, go_sem]; done)
noncomputable def s_l03Shifts : Option ((List Int)) :=
  some ([0, 1, 62, 28, 27, 36, 44, 6, 55, 20, 3, 10, 43, 25, 39, 41, 45, 15, 21, 8, 18, 2, 61, 56, 14] : List Int)
theorem s_l03Shifts_c {r : (List Int)} (h : s_l03Shifts = some r) : Call tab ow 291 [] [] = some (.agg (ar .u64 r), []) := by
  rw [run_s_l03Shifts]
  unfold s_l03Shifts at h
  simp +decide only [b_s_l03Shifts, go_sem, reduceIte, Nat.reduceAdd]
  obtain rfl := Option.some.inj h
  first | rfl | (simp only [List.length_set, go_sem]; done)
noncomputable def s_l03Turn (x : Int) (n : Int) : Option (Int) :=
  br (n == (0 : Int)) (
    some x) (
    br (decide (0 ≤ n)) (
      br (decide (0 ≤ (IntKind.wrap .u64 ((64 : Int) - n)))) (
        some (or64 .u64 (shl64 .u64 x n) (shr64 .u64 x (IntKind.wrap .u64 ((64 : Int) - n))))) (
        none)) (
      none))
theorem s_l03Turn_c {x : Int} {n : Int} {r : Int} (h : s_l03Turn x n = some r) : Call tab ow 292 [.lit (.int .u64 x), .lit (.int .u64 n)] [] = some (.lit (.int .u64 r), []) := by
  rw [run_s_l03Turn]
  unfold s_l03Turn at h
  simp +decide only [b_s_l03Turn, go_sem, reduceIte, Nat.reduceAdd]
  rcases brc h with ⟨hb, h⟩ | ⟨hb, h⟩
  · refine br_t hb ?_
    obtain rfl := Option.some.inj h
    first | rfl | (simp only [List.length_set, go_sem]; done)
  · refine br_f hb ?_
    obtain ⟨hb, h⟩ := brg h
    refine br_t hb ?_
    obtain ⟨hb, h⟩ := brg h
    refine br_t hb ?_
    obtain rfl := Option.some.inj h
    first | rfl | (simp only [List.length_set, go_sem]; done)
end Go.AI.Fn

set_option linter.unusedVariables false
set_option linter.unusedSimpArgs false
set_option maxRecDepth 100000
set_option maxHeartbeats 1000000
namespace Go.AI.Fn
noncomputable def s_l03Permute_2_s (m5 : List Int) (m6 : List Int) (m7 : List Int) (m8 : List Int) (t2 : Int) : (List Int) × Int → Option (((List Int) × Int) ⊕ (((List Int) × Int × Bool)))
  | (m9, t3) =>
    br (decide (t3 < (5 : Int))) (
      br (decide (0 ≤ t3) && decide (t3.toNat < 25)) (
        (m5[t3.toNat]?).bind fun x =>
        br (decide (0 ≤ (IntKind.wrap .i64 (t3 + (5 : Int)))) && decide ((IntKind.wrap .i64 (t3 + (5 : Int))).toNat < 25)) (
          (m5[(IntKind.wrap .i64 (t3 + (5 : Int))).toNat]?).bind fun x2 =>
          br (decide (0 ≤ (IntKind.wrap .i64 (t3 + (10 : Int)))) && decide ((IntKind.wrap .i64 (t3 + (10 : Int))).toNat < 25)) (
            (m5[(IntKind.wrap .i64 (t3 + (10 : Int))).toNat]?).bind fun x3 =>
            br (decide (0 ≤ (IntKind.wrap .i64 (t3 + (15 : Int)))) && decide ((IntKind.wrap .i64 (t3 + (15 : Int))).toNat < 25)) (
              (m5[(IntKind.wrap .i64 (t3 + (15 : Int))).toNat]?).bind fun x4 =>
              br (decide (0 ≤ (IntKind.wrap .i64 (t3 + (20 : Int)))) && decide ((IntKind.wrap .i64 (t3 + (20 : Int))).toNat < 25)) (
                (m5[(IntKind.wrap .i64 (t3 + (20 : Int))).toNat]?).bind fun x5 =>
                br (decide (0 ≤ t3) && decide (t3.toNat < 5)) (
                  br (decide (t3.toNat < m9.length)) (
                    some (.inl ((m9.set t3.toNat (xor64 .u64 (xor64 .u64 (xor64 .u64 (xor64 .u64 x x2) x3) x4) x5)), (IntKind.wrap .i64 (t3 + (1 : Int)))))) (
                    none)) (
                  none)) (
                none)) (
              none)) (
            none)) (
          none)) (
        none)) (
      some (.inr (m9, t3, decide (t3 < (5 : Int)))))
theorem s_l03Permute_2_l {m5 : List Int} {m6 : List Int} {m7 : List Int} {m8 : List Int} {t2 : Int} {m9 : List Int} {t3 : Int} {e : ((List Int) × Int × Bool)} (h : Loop (s_l03Permute_2_s m5 m6 m7 m8 t2) (m9, t3) = some e) : LoopX tab ow (.close []) b_s_l03Permute_8 ⟨[(1, .ptr 1000 0 0 1), (2, .ptr 1001 0 0 1), (3, .ptr 2001 0 0 1), (4, .ptr 3001 0 0 1), (5, I t2), (6, .ptr 7001 0 0 1), (7, I t3)], [(1000, ⟨25, true, [ar .u64 m5]⟩), (1001, ⟨25, true, [ar .u64 m6]⟩), (2001, ⟨24, true, [ar .u64 m7]⟩), (3001, ⟨25, true, [ar .u64 m8]⟩), (7001, ⟨5, true, [ar .u64 m9]⟩)]⟩ = some ((.exit 2, ⟨[(1, .ptr 1000 0 0 1), (2, .ptr 1001 0 0 1), (3, .ptr 2001 0 0 1), (4, .ptr 3001 0 0 1), (5, I t2), (6, .ptr 7001 0 0 1), (7, I e.2.1), (22, B e.2.2)], [(1000, ⟨25, true, [ar .u64 m5]⟩), (1001, ⟨25, true, [ar .u64 m6]⟩), (2001, ⟨24, true, [ar .u64 m7]⟩), (3001, ⟨25, true, [ar .u64 m8]⟩), (7001, ⟨5, true, [ar .u64 e.1]⟩)]⟩)) := by
  refine loop_runG (S := (List Int) × Int) (eS := fun s => ⟨[(1, .ptr 1000 0 0 1), (2, .ptr 1001 0 0 1), (3, .ptr 2001 0 0 1), (4, .ptr 3001 0 0 1), (5, I t2), (6, .ptr 7001 0 0 1), (7, I s.2)], [(1000, ⟨25, true, [ar .u64 m5]⟩), (1001, ⟨25, true, [ar .u64 m6]⟩), (2001, ⟨24, true, [ar .u64 m7]⟩), (3001, ⟨25, true, [ar .u64 m8]⟩), (7001, ⟨5, true, [ar .u64 s.1]⟩)]⟩) (eE := fun e => (.exit 2, ⟨[(1, .ptr 1000 0 0 1), (2, .ptr 1001 0 0 1), (3, .ptr 2001 0 0 1), (4, .ptr 3001 0 0 1), (5, I t2), (6, .ptr 7001 0 0 1), (7, I e.2.1), (22, B e.2.2)], [(1000, ⟨25, true, [ar .u64 m5]⟩), (1001, ⟨25, true, [ar .u64 m6]⟩), (2001, ⟨24, true, [ar .u64 m7]⟩), (3001, ⟨25, true, [ar .u64 m8]⟩), (7001, ⟨5, true, [ar .u64 e.1]⟩)]⟩)) (fun e => ?_) (fun s o h => ?_) h
  · simp [alt]
  · obtain ⟨m9, t3⟩ := s
    simp only [s_l03Permute_2_s] at h
    show Rn tab ow _ _ ⟨[(1, .ptr 1000 0 0 1), (2, .ptr 1001 0 0 1), (3, .ptr 2001 0 0 1), (4, .ptr 3001 0 0 1), (5, I t2), (6, .ptr 7001 0 0 1), (7, I t3)], [(1000, ⟨25, true, [ar .u64 m5]⟩), (1001, ⟨25, true, [ar .u64 m6]⟩), (2001, ⟨24, true, [ar .u64 m7]⟩), (3001, ⟨25, true, [ar .u64 m8]⟩), (7001, ⟨5, true, [ar .u64 m9]⟩)]⟩ = _
    simp +decide only [b_s_l03Permute_8, go_sem, reduceIte, Nat.reduceAdd]
    rcases brc h with ⟨hb, h⟩ | ⟨hb, h⟩
    · refine br_t hb ?_
      obtain ⟨hb, h⟩ := brg h
      refine br_t hb ?_
      obtain ⟨x, h1, h⟩ := bd h
      refine bind_some h1 ?_
      obtain ⟨hb, h⟩ := brg h
      refine br_t hb ?_
      obtain ⟨x2, h1, h⟩ := bd h
      refine bind_some h1 ?_
      obtain ⟨hb, h⟩ := brg h
      refine br_t hb ?_
      obtain ⟨x3, h1, h⟩ := bd h
      refine bind_some h1 ?_
      obtain ⟨hb, h⟩ := brg h
      refine br_t hb ?_
      obtain ⟨x4, h1, h⟩ := bd h
      refine bind_some h1 ?_
      obtain ⟨hb, h⟩ := brg h
      refine br_t hb ?_
      obtain ⟨x5, h1, h⟩ := bd h
      refine bind_some h1 ?_
      obtain ⟨hb, h⟩ := brg h
      refine br_t hb ?_
      obtain ⟨hb, h⟩ := brg h
      refine br_t hb ?_
      obtain rfl := Option.some.inj h
      first | rfl | (simp only [List.length_set, go_sem]; done)
    · refine br_f hb ?_
      obtain rfl := Option.some.inj h
      first | rfl | (simp only [List.length_set, go_sem]; done)
noncomputable def s_l03Permute_3_s (m11 : List Int) (m12 : List Int) (m13 : List Int) (m14 : List Int) (t4 : Int) : (List Int) × Int → Option (((List Int) × Int) ⊕ (((List Int) × Int × Bool)))
  | (m10, t5) =>
    br (decide (t5 < (25 : Int))) (
      br (decide (0 ≤ t5) && decide (t5.toNat < 25)) (
        (m10[t5.toNat]?).bind fun x6 =>
        br (decide (0 ≤ ((IntKind.wrap .i64 (t5 + (4 : Int))).tmod (5 : Int))) && decide (((IntKind.wrap .i64 (t5 + (4 : Int))).tmod (5 : Int)).toNat < 5)) (
          (m14[((IntKind.wrap .i64 (t5 + (4 : Int))).tmod (5 : Int)).toNat]?).bind fun x7 =>
          br (decide (0 ≤ ((IntKind.wrap .i64 (t5 + (1 : Int))).tmod (5 : Int))) && decide (((IntKind.wrap .i64 (t5 + (1 : Int))).tmod (5 : Int)).toNat < 5)) (
            (m14[((IntKind.wrap .i64 (t5 + (1 : Int))).tmod (5 : Int)).toNat]?).bind fun x8 =>
            (s_l03Turn x8 (1 : Int)).bind fun r_3 =>
            br (decide (0 ≤ t5) && decide (t5.toNat < 25)) (
              br (decide (t5.toNat < m10.length)) (
                some (.inl ((m10.set t5.toNat (xor64 .u64 x6 (xor64 .u64 x7 r_3))), (IntKind.wrap .i64 (t5 + (1 : Int)))))) (
                none)) (
              none)) (
            none)) (
          none)) (
        none)) (
      some (.inr (m10, t5, decide (t5 < (25 : Int)))))
theorem s_l03Permute_3_l {m11 : List Int} {m12 : List Int} {m13 : List Int} {m14 : List Int} {t4 : Int} {m10 : List Int} {t5 : Int} {e : ((List Int) × Int × Bool)} (h : Loop (s_l03Permute_3_s m11 m12 m13 m14 t4) (m10, t5) = some e) : LoopX tab ow (.close [15013]) b_s_l03Permute_12 ⟨[(1, .ptr 1000 0 0 1), (2, .ptr 1001 0 0 1), (3, .ptr 2001 0 0 1), (4, .ptr 3001 0 0 1), (5, I t4), (6, .ptr 7001 0 0 1), (8, I t5)], [(1000, ⟨25, true, [ar .u64 m10]⟩), (1001, ⟨25, true, [ar .u64 m11]⟩), (2001, ⟨24, true, [ar .u64 m12]⟩), (3001, ⟨25, true, [ar .u64 m13]⟩), (7001, ⟨5, true, [ar .u64 m14]⟩)]⟩ = some ((.exit 4, ⟨[(1, .ptr 1000 0 0 1), (2, .ptr 1001 0 0 1), (3, .ptr 2001 0 0 1), (4, .ptr 3001 0 0 1), (5, I t4), (6, .ptr 7001 0 0 1), (8, I e.2.1), (51, B e.2.2)], [(1000, ⟨25, true, [ar .u64 e.1]⟩), (1001, ⟨25, true, [ar .u64 m11]⟩), (2001, ⟨24, true, [ar .u64 m12]⟩), (3001, ⟨25, true, [ar .u64 m13]⟩), (7001, ⟨5, true, [ar .u64 m14]⟩)]⟩)) := by
  refine loop_runG (S := (List Int) × Int) (eS := fun s => ⟨[(1, .ptr 1000 0 0 1), (2, .ptr 1001 0 0 1), (3, .ptr 2001 0 0 1), (4, .ptr 3001 0 0 1), (5, I t4), (6, .ptr 7001 0 0 1), (8, I s.2)], [(1000, ⟨25, true, [ar .u64 s.1]⟩), (1001, ⟨25, true, [ar .u64 m11]⟩), (2001, ⟨24, true, [ar .u64 m12]⟩), (3001, ⟨25, true, [ar .u64 m13]⟩), (7001, ⟨5, true, [ar .u64 m14]⟩)]⟩) (eE := fun e => (.exit 4, ⟨[(1, .ptr 1000 0 0 1), (2, .ptr 1001 0 0 1), (3, .ptr 2001 0 0 1), (4, .ptr 3001 0 0 1), (5, I t4), (6, .ptr 7001 0 0 1), (8, I e.2.1), (51, B e.2.2)], [(1000, ⟨25, true, [ar .u64 e.1]⟩), (1001, ⟨25, true, [ar .u64 m11]⟩), (2001, ⟨24, true, [ar .u64 m12]⟩), (3001, ⟨25, true, [ar .u64 m13]⟩), (7001, ⟨5, true, [ar .u64 m14]⟩)]⟩)) (fun e => ?_) (fun s o h => ?_) h
  · simp [alt]
  · obtain ⟨m10, t5⟩ := s
    simp only [s_l03Permute_3_s] at h
    show Rn tab ow _ _ ⟨[(1, .ptr 1000 0 0 1), (2, .ptr 1001 0 0 1), (3, .ptr 2001 0 0 1), (4, .ptr 3001 0 0 1), (5, I t4), (6, .ptr 7001 0 0 1), (8, I t5)], [(1000, ⟨25, true, [ar .u64 m10]⟩), (1001, ⟨25, true, [ar .u64 m11]⟩), (2001, ⟨24, true, [ar .u64 m12]⟩), (3001, ⟨25, true, [ar .u64 m13]⟩), (7001, ⟨5, true, [ar .u64 m14]⟩)]⟩ = _
    simp +decide only [b_s_l03Permute_12, go_sem, reduceIte, Nat.reduceAdd]
    rcases brc h with ⟨hb, h⟩ | ⟨hb, h⟩
    · refine br_t hb ?_
      obtain ⟨hb, h⟩ := brg h
      refine br_t hb ?_
      obtain ⟨x6, h1, h⟩ := bd h
      refine bind_some h1 ?_
      obtain ⟨hb, h⟩ := brg h
      refine br_t hb ?_
      obtain ⟨x7, h1, h⟩ := bd h
      refine bind_some h1 ?_
      obtain ⟨hb, h⟩ := brg h
      refine br_t hb ?_
      obtain ⟨x8, h1, h⟩ := bd h
      refine bind_some h1 ?_
      obtain ⟨r_3, h1, h⟩ := bd h
      refine call_aftD (s_l03Turn_c h1) ?_
      simp +decide only [go_sem, reduceIte, Nat.reduceAdd]
      obtain ⟨hb, h⟩ := brg h
      refine br_t hb ?_
      obtain ⟨hb, h⟩ := brg h
      refine br_t hb ?_
      obtain rfl := Option.some.inj h
      first | rfl | (simp only [List.length_set, go_sem]; done)
    · refine br_f hb ?_
      obtain rfl := Option.some.inj h
      first | rfl | (simp only [List.length_set, go_sem]; done)
noncomputable def s_l03Permute_5_s (m21 : List Int) (m22 : List Int) (m23 : List Int) (m24 : List Int) (m25 : List Int) (t8 : Int) (t9 : Int) : (List Int) × Int → Option (((List Int) × Int) ⊕ (((List Int) × Int × Bool)))
  | (m26, t10) =>
    br (decide (t10 < (5 : Int))) (
      br (decide (0 ≤ (IntKind.wrap .i64 (t9 + (IntKind.wrap .i64 ((5 : Int) * t10))))) && decide ((IntKind.wrap .i64 (t9 + (IntKind.wrap .i64 ((5 : Int) * t10)))).toNat < 25)) (
        (m21[(IntKind.wrap .i64 (t9 + (IntKind.wrap .i64 ((5 : Int) * t10)))).toNat]?).bind fun x9 =>
        br (decide (0 ≤ (IntKind.wrap .i64 (t9 + (IntKind.wrap .i64 ((5 : Int) * t10))))) && decide ((IntKind.wrap .i64 (t9 + (IntKind.wrap .i64 ((5 : Int) * t10)))).toNat < 25)) (
          (m24[(IntKind.wrap .i64 (t9 + (IntKind.wrap .i64 ((5 : Int) * t10)))).toNat]?).bind fun x10 =>
          (s_l03Turn x9 x10).bind fun r_4 =>
          br (decide (0 ≤ (IntKind.wrap .i64 (t10 + (IntKind.wrap .i64 ((5 : Int) * ((IntKind.wrap .i64 ((IntKind.wrap .i64 ((2 : Int) * t9)) + (IntKind.wrap .i64 ((3 : Int) * t10)))).tmod (5 : Int))))))) && decide ((IntKind.wrap .i64 (t10 + (IntKind.wrap .i64 ((5 : Int) * ((IntKind.wrap .i64 ((IntKind.wrap .i64 ((2 : Int) * t9)) + (IntKind.wrap .i64 ((3 : Int) * t10)))).tmod (5 : Int)))))).toNat < 25)) (
            br (decide ((IntKind.wrap .i64 (t10 + (IntKind.wrap .i64 ((5 : Int) * ((IntKind.wrap .i64 ((IntKind.wrap .i64 ((2 : Int) * t9)) + (IntKind.wrap .i64 ((3 : Int) * t10)))).tmod (5 : Int)))))).toNat < m26.length)) (
              some (.inl ((m26.set ((IntKind.wrap .i64 (t10 + (IntKind.wrap .i64 ((5 : Int) * ((IntKind.wrap .i64 ((IntKind.wrap .i64 ((2 : Int) * t9)) + (IntKind.wrap .i64 ((3 : Int) * t10)))).tmod (5 : Int)))))).toNat) r_4), (IntKind.wrap .i64 (t10 + (1 : Int)))))) (
              none)) (
            none)) (
          none)) (
        none)) (
      some (.inr (m26, t10, decide (t10 < (5 : Int)))))
theorem s_l03Permute_5_l {m21 : List Int} {m22 : List Int} {m23 : List Int} {m24 : List Int} {m25 : List Int} {t8 : Int} {t9 : Int} {m26 : List Int} {t10 : Int} {e : ((List Int) × Int × Bool)} (h : Loop (s_l03Permute_5_s m21 m22 m23 m24 m25 t8 t9) (m26, t10) = some e) : LoopX tab ow (.close [23021]) b_s_l03Permute_20 ⟨[(1, .ptr 1000 0 0 1), (2, .ptr 1001 0 0 1), (3, .ptr 2001 0 0 1), (4, .ptr 3001 0 0 1), (5, I t8), (9, .ptr 16001 0 0 1), (10, I t9), (11, I t10)], [(1000, ⟨25, true, [ar .u64 m21]⟩), (1001, ⟨25, true, [ar .u64 m22]⟩), (2001, ⟨24, true, [ar .u64 m23]⟩), (3001, ⟨25, true, [ar .u64 m24]⟩), (7001, ⟨5, true, [ar .u64 m25]⟩), (16001, ⟨25, true, [ar .u64 m26]⟩)]⟩ = some ((.exit 8, ⟨[(1, .ptr 1000 0 0 1), (2, .ptr 1001 0 0 1), (3, .ptr 2001 0 0 1), (4, .ptr 3001 0 0 1), (5, I t8), (9, .ptr 16001 0 0 1), (10, I t9), (11, I e.2.1), (77, B e.2.2)], [(1000, ⟨25, true, [ar .u64 m21]⟩), (1001, ⟨25, true, [ar .u64 m22]⟩), (2001, ⟨24, true, [ar .u64 m23]⟩), (3001, ⟨25, true, [ar .u64 m24]⟩), (7001, ⟨5, true, [ar .u64 m25]⟩), (16001, ⟨25, true, [ar .u64 e.1]⟩)]⟩)) := by
  refine loop_runG (S := (List Int) × Int) (eS := fun s => ⟨[(1, .ptr 1000 0 0 1), (2, .ptr 1001 0 0 1), (3, .ptr 2001 0 0 1), (4, .ptr 3001 0 0 1), (5, I t8), (9, .ptr 16001 0 0 1), (10, I t9), (11, I s.2)], [(1000, ⟨25, true, [ar .u64 m21]⟩), (1001, ⟨25, true, [ar .u64 m22]⟩), (2001, ⟨24, true, [ar .u64 m23]⟩), (3001, ⟨25, true, [ar .u64 m24]⟩), (7001, ⟨5, true, [ar .u64 m25]⟩), (16001, ⟨25, true, [ar .u64 s.1]⟩)]⟩) (eE := fun e => (.exit 8, ⟨[(1, .ptr 1000 0 0 1), (2, .ptr 1001 0 0 1), (3, .ptr 2001 0 0 1), (4, .ptr 3001 0 0 1), (5, I t8), (9, .ptr 16001 0 0 1), (10, I t9), (11, I e.2.1), (77, B e.2.2)], [(1000, ⟨25, true, [ar .u64 m21]⟩), (1001, ⟨25, true, [ar .u64 m22]⟩), (2001, ⟨24, true, [ar .u64 m23]⟩), (3001, ⟨25, true, [ar .u64 m24]⟩), (7001, ⟨5, true, [ar .u64 m25]⟩), (16001, ⟨25, true, [ar .u64 e.1]⟩)]⟩)) (fun e => ?_) (fun s o h => ?_) h
  · simp [alt]
  · obtain ⟨m26, t10⟩ := s
    simp only [s_l03Permute_5_s] at h
    show Rn tab ow _ _ ⟨[(1, .ptr 1000 0 0 1), (2, .ptr 1001 0 0 1), (3, .ptr 2001 0 0 1), (4, .ptr 3001 0 0 1), (5, I t8), (9, .ptr 16001 0 0 1), (10, I t9), (11, I t10)], [(1000, ⟨25, true, [ar .u64 m21]⟩), (1001, ⟨25, true, [ar .u64 m22]⟩), (2001, ⟨24, true, [ar .u64 m23]⟩), (3001, ⟨25, true, [ar .u64 m24]⟩), (7001, ⟨5, true, [ar .u64 m25]⟩), (16001, ⟨25, true, [ar .u64 m26]⟩)]⟩ = _
    simp +decide only [b_s_l03Permute_20, go_sem, reduceIte, Nat.reduceAdd]
    rcases brc h with ⟨hb, h⟩ | ⟨hb, h⟩
    · refine br_t hb ?_
      obtain ⟨hb, h⟩ := brg h
      refine br_t hb ?_
      obtain ⟨x9, h1, h⟩ := bd h
      refine bind_some h1 ?_
      obtain ⟨hb, h⟩ := brg h
      refine br_t hb ?_
      obtain ⟨x10, h1, h⟩ := bd h
      refine bind_some h1 ?_
      obtain ⟨r_4, h1, h⟩ := bd h
      refine call_aftD (s_l03Turn_c h1) ?_
      simp +decide only [go_sem, reduceIte, Nat.reduceAdd]
      obtain ⟨hb, h⟩ := brg h
      refine br_t hb ?_
      obtain ⟨hb, h⟩ := brg h
      refine br_t hb ?_
      obtain rfl := Option.some.inj h
      first | rfl | (simp only [List.length_set, go_sem]; done)
    · refine br_f hb ?_
      obtain rfl := Option.some.inj h
      first | rfl | (simp only [List.length_set, go_sem]; done)
noncomputable def s_l03Permute_4_s (m15 : List Int) (m16 : List Int) (m17 : List Int) (m18 : List Int) (m19 : List Int) (t6 : Int) : (List Int) × Int → Option (((List Int) × Int) ⊕ (((List Int) × Int × Bool)))
  | (m20, t7) =>
    br (decide (t7 < (5 : Int))) (
      (Loop (s_l03Permute_5_s m15 m16 m17 m18 m19 t6 t7) (m20, (0 : Int))).bind fun e_3 =>
      some (.inl (e_3.1, (IntKind.wrap .i64 (t7 + (1 : Int)))))) (
      some (.inr (m20, t7, decide (t7 < (5 : Int)))))
theorem s_l03Permute_4_l {m15 : List Int} {m16 : List Int} {m17 : List Int} {m18 : List Int} {m19 : List Int} {t6 : Int} {m20 : List Int} {t7 : Int} {e : ((List Int) × Int × Bool)} (h : Loop (s_l03Permute_4_s m15 m16 m17 m18 m19 t6) (m20, t7) = some e) : LoopX tab ow (.close [23021]) b_s_l03Permute_17 ⟨[(1, .ptr 1000 0 0 1), (2, .ptr 1001 0 0 1), (3, .ptr 2001 0 0 1), (4, .ptr 3001 0 0 1), (5, I t6), (9, .ptr 16001 0 0 1), (10, I t7)], [(1000, ⟨25, true, [ar .u64 m15]⟩), (1001, ⟨25, true, [ar .u64 m16]⟩), (2001, ⟨24, true, [ar .u64 m17]⟩), (3001, ⟨25, true, [ar .u64 m18]⟩), (7001, ⟨5, true, [ar .u64 m19]⟩), (16001, ⟨25, true, [ar .u64 m20]⟩)]⟩ = some ((.exit 6, ⟨[(1, .ptr 1000 0 0 1), (2, .ptr 1001 0 0 1), (3, .ptr 2001 0 0 1), (4, .ptr 3001 0 0 1), (5, I t6), (9, .ptr 16001 0 0 1), (10, I e.2.1), (73, B e.2.2)], [(1000, ⟨25, true, [ar .u64 m15]⟩), (1001, ⟨25, true, [ar .u64 m16]⟩), (2001, ⟨24, true, [ar .u64 m17]⟩), (3001, ⟨25, true, [ar .u64 m18]⟩), (7001, ⟨5, true, [ar .u64 m19]⟩), (16001, ⟨25, true, [ar .u64 e.1]⟩)]⟩)) := by
  refine loop_runG (S := (List Int) × Int) (eS := fun s => ⟨[(1, .ptr 1000 0 0 1), (2, .ptr 1001 0 0 1), (3, .ptr 2001 0 0 1), (4, .ptr 3001 0 0 1), (5, I t6), (9, .ptr 16001 0 0 1), (10, I s.2)], [(1000, ⟨25, true, [ar .u64 m15]⟩), (1001, ⟨25, true, [ar .u64 m16]⟩), (2001, ⟨24, true, [ar .u64 m17]⟩), (3001, ⟨25, true, [ar .u64 m18]⟩), (7001, ⟨5, true, [ar .u64 m19]⟩), (16001, ⟨25, true, [ar .u64 s.1]⟩)]⟩) (eE := fun e => (.exit 6, ⟨[(1, .ptr 1000 0 0 1), (2, .ptr 1001 0 0 1), (3, .ptr 2001 0 0 1), (4, .ptr 3001 0 0 1), (5, I t6), (9, .ptr 16001 0 0 1), (10, I e.2.1), (73, B e.2.2)], [(1000, ⟨25, true, [ar .u64 m15]⟩), (1001, ⟨25, true, [ar .u64 m16]⟩), (2001, ⟨24, true, [ar .u64 m17]⟩), (3001, ⟨25, true, [ar .u64 m18]⟩), (7001, ⟨5, true, [ar .u64 m19]⟩), (16001, ⟨25, true, [ar .u64 e.1]⟩)]⟩)) (fun e => ?_) (fun s o h => ?_) h
  · simp [alt]
  · obtain ⟨m20, t7⟩ := s
    simp only [s_l03Permute_4_s] at h
    show Rn tab ow _ _ ⟨[(1, .ptr 1000 0 0 1), (2, .ptr 1001 0 0 1), (3, .ptr 2001 0 0 1), (4, .ptr 3001 0 0 1), (5, I t6), (9, .ptr 16001 0 0 1), (10, I t7)], [(1000, ⟨25, true, [ar .u64 m15]⟩), (1001, ⟨25, true, [ar .u64 m16]⟩), (2001, ⟨24, true, [ar .u64 m17]⟩), (3001, ⟨25, true, [ar .u64 m18]⟩), (7001, ⟨5, true, [ar .u64 m19]⟩), (16001, ⟨25, true, [ar .u64 m20]⟩)]⟩ = _
    simp +decide only [b_s_l03Permute_17, go_sem, reduceIte, Nat.reduceAdd]
    rcases brc h with ⟨hb, h⟩ | ⟨hb, h⟩
    · refine br_t hb ?_
      obtain ⟨e_3, h1, h⟩ := bd h
      refine goR_of (s_l03Permute_5_l h1) ?_
      simp +decide only [go_sem, reduceIte, Nat.reduceAdd]
      obtain rfl := Option.some.inj h
      first | rfl | (simp only [List.length_set, go_sem]; done)
    · refine br_f hb ?_
      obtain rfl := Option.some.inj h
      first | rfl | (simp only [List.length_set, go_sem]; done)
noncomputable def s_l03Permute_7_s (m34 : List Int) (m35 : List Int) (m36 : List Int) (m37 : List Int) (m38 : List Int) (t13 : Int) (t14 : Int) : (List Int) × Int → Option (((List Int) × Int) ⊕ (((List Int) × Int × Bool)))
  | (m33, t15) =>
    br (decide (t15 < (5 : Int))) (
      br (decide (0 ≤ (IntKind.wrap .i64 (t14 + (IntKind.wrap .i64 ((5 : Int) * t15))))) && decide ((IntKind.wrap .i64 (t14 + (IntKind.wrap .i64 ((5 : Int) * t15)))).toNat < 25)) (
        (m38[(IntKind.wrap .i64 (t14 + (IntKind.wrap .i64 ((5 : Int) * t15)))).toNat]?).bind fun x11 =>
        br (decide (0 ≤ (IntKind.wrap .i64 (((IntKind.wrap .i64 (t14 + (1 : Int))).tmod (5 : Int)) + (IntKind.wrap .i64 ((5 : Int) * t15))))) && decide ((IntKind.wrap .i64 (((IntKind.wrap .i64 (t14 + (1 : Int))).tmod (5 : Int)) + (IntKind.wrap .i64 ((5 : Int) * t15)))).toNat < 25)) (
          (m38[(IntKind.wrap .i64 (((IntKind.wrap .i64 (t14 + (1 : Int))).tmod (5 : Int)) + (IntKind.wrap .i64 ((5 : Int) * t15)))).toNat]?).bind fun x12 =>
          br (decide (0 ≤ (IntKind.wrap .i64 (((IntKind.wrap .i64 (t14 + (2 : Int))).tmod (5 : Int)) + (IntKind.wrap .i64 ((5 : Int) * t15))))) && decide ((IntKind.wrap .i64 (((IntKind.wrap .i64 (t14 + (2 : Int))).tmod (5 : Int)) + (IntKind.wrap .i64 ((5 : Int) * t15)))).toNat < 25)) (
            (m38[(IntKind.wrap .i64 (((IntKind.wrap .i64 (t14 + (2 : Int))).tmod (5 : Int)) + (IntKind.wrap .i64 ((5 : Int) * t15)))).toNat]?).bind fun x13 =>
            br (decide (0 ≤ (IntKind.wrap .i64 (t14 + (IntKind.wrap .i64 ((5 : Int) * t15))))) && decide ((IntKind.wrap .i64 (t14 + (IntKind.wrap .i64 ((5 : Int) * t15)))).toNat < 25)) (
              br (decide ((IntKind.wrap .i64 (t14 + (IntKind.wrap .i64 ((5 : Int) * t15)))).toNat < m33.length)) (
                some (.inl ((m33.set ((IntKind.wrap .i64 (t14 + (IntKind.wrap .i64 ((5 : Int) * t15)))).toNat) (xor64 .u64 x11 (and64 .u64 (not64 .u64 x12) x13))), (IntKind.wrap .i64 (t15 + (1 : Int)))))) (
                none)) (
              none)) (
            none)) (
          none)) (
        none)) (
      some (.inr (m33, t15, decide (t15 < (5 : Int)))))
theorem s_l03Permute_7_l {m34 : List Int} {m35 : List Int} {m36 : List Int} {m37 : List Int} {m38 : List Int} {t13 : Int} {t14 : Int} {m33 : List Int} {t15 : Int} {e : ((List Int) × Int × Bool)} (h : Loop (s_l03Permute_7_s m34 m35 m36 m37 m38 t13 t14) (m33, t15) = some e) : LoopX tab ow (.close []) b_s_l03Permute_27 ⟨[(1, .ptr 1000 0 0 1), (2, .ptr 1001 0 0 1), (3, .ptr 2001 0 0 1), (4, .ptr 3001 0 0 1), (5, I t13), (9, .ptr 16001 0 0 1), (12, I t14), (13, I t15)], [(1000, ⟨25, true, [ar .u64 m33]⟩), (1001, ⟨25, true, [ar .u64 m34]⟩), (2001, ⟨24, true, [ar .u64 m35]⟩), (3001, ⟨25, true, [ar .u64 m36]⟩), (7001, ⟨5, true, [ar .u64 m37]⟩), (16001, ⟨25, true, [ar .u64 m38]⟩)]⟩ = some ((.exit 12, ⟨[(1, .ptr 1000 0 0 1), (2, .ptr 1001 0 0 1), (3, .ptr 2001 0 0 1), (4, .ptr 3001 0 0 1), (5, I t13), (9, .ptr 16001 0 0 1), (12, I t14), (13, I e.2.1), (108, B e.2.2)], [(1000, ⟨25, true, [ar .u64 e.1]⟩), (1001, ⟨25, true, [ar .u64 m34]⟩), (2001, ⟨24, true, [ar .u64 m35]⟩), (3001, ⟨25, true, [ar .u64 m36]⟩), (7001, ⟨5, true, [ar .u64 m37]⟩), (16001, ⟨25, true, [ar .u64 m38]⟩)]⟩)) := by
  refine loop_runG (S := (List Int) × Int) (eS := fun s => ⟨[(1, .ptr 1000 0 0 1), (2, .ptr 1001 0 0 1), (3, .ptr 2001 0 0 1), (4, .ptr 3001 0 0 1), (5, I t13), (9, .ptr 16001 0 0 1), (12, I t14), (13, I s.2)], [(1000, ⟨25, true, [ar .u64 s.1]⟩), (1001, ⟨25, true, [ar .u64 m34]⟩), (2001, ⟨24, true, [ar .u64 m35]⟩), (3001, ⟨25, true, [ar .u64 m36]⟩), (7001, ⟨5, true, [ar .u64 m37]⟩), (16001, ⟨25, true, [ar .u64 m38]⟩)]⟩) (eE := fun e => (.exit 12, ⟨[(1, .ptr 1000 0 0 1), (2, .ptr 1001 0 0 1), (3, .ptr 2001 0 0 1), (4, .ptr 3001 0 0 1), (5, I t13), (9, .ptr 16001 0 0 1), (12, I t14), (13, I e.2.1), (108, B e.2.2)], [(1000, ⟨25, true, [ar .u64 e.1]⟩), (1001, ⟨25, true, [ar .u64 m34]⟩), (2001, ⟨24, true, [ar .u64 m35]⟩), (3001, ⟨25, true, [ar .u64 m36]⟩), (7001, ⟨5, true, [ar .u64 m37]⟩), (16001, ⟨25, true, [ar .u64 m38]⟩)]⟩)) (fun e => ?_) (fun s o h => ?_) h
  · simp [alt]
  · obtain ⟨m33, t15⟩ := s
    simp only [s_l03Permute_7_s] at h
    show Rn tab ow _ _ ⟨[(1, .ptr 1000 0 0 1), (2, .ptr 1001 0 0 1), (3, .ptr 2001 0 0 1), (4, .ptr 3001 0 0 1), (5, I t13), (9, .ptr 16001 0 0 1), (12, I t14), (13, I t15)], [(1000, ⟨25, true, [ar .u64 m33]⟩), (1001, ⟨25, true, [ar .u64 m34]⟩), (2001, ⟨24, true, [ar .u64 m35]⟩), (3001, ⟨25, true, [ar .u64 m36]⟩), (7001, ⟨5, true, [ar .u64 m37]⟩), (16001, ⟨25, true, [ar .u64 m38]⟩)]⟩ = _
    simp +decide only [b_s_l03Permute_27, go_sem, reduceIte, Nat.reduceAdd]
    rcases brc h with ⟨hb, h⟩ | ⟨hb, h⟩
    · refine br_t hb ?_
      obtain ⟨hb, h⟩ := brg h
      refine br_t hb ?_
      obtain ⟨x11, h1, h⟩ := bd h
      refine bind_some h1 ?_
      obtain ⟨hb, h⟩ := brg h
      refine br_t hb ?_
      obtain ⟨x12, h1, h⟩ := bd h
      refine bind_some h1 ?_
      obtain ⟨hb, h⟩ := brg h
      refine br_t hb ?_
      obtain ⟨x13, h1, h⟩ := bd h
      refine bind_some h1 ?_
      obtain ⟨hb, h⟩ := brg h
      refine br_t hb ?_
      obtain ⟨hb, h⟩ := brg h
      refine br_t hb ?_
      obtain rfl := Option.some.inj h
      first | rfl | (simp only [List.length_set, go_sem]; done)
    · refine br_f hb ?_
      obtain rfl := Option.some.inj h
      first | rfl | (simp only [List.length_set, go_sem]; done)
noncomputable def s_l03Permute_6_s (m28 : List Int) (m29 : List Int) (m30 : List Int) (m31 : List Int) (m32 : List Int) (t11 : Int) : (List Int) × Int → Option (((List Int) × Int) ⊕ (((List Int) × Int × Bool)))
  | (m27, t12) =>
    br (decide (t12 < (5 : Int))) (
      (Loop (s_l03Permute_7_s m28 m29 m30 m31 m32 t11 t12) (m27, (0 : Int))).bind fun e_5 =>
      some (.inl (e_5.1, (IntKind.wrap .i64 (t12 + (1 : Int)))))) (
      some (.inr (m27, t12, decide (t12 < (5 : Int)))))
theorem s_l03Permute_6_l {m28 : List Int} {m29 : List Int} {m30 : List Int} {m31 : List Int} {m32 : List Int} {t11 : Int} {m27 : List Int} {t12 : Int} {e : ((List Int) × Int × Bool)} (h : Loop (s_l03Permute_6_s m28 m29 m30 m31 m32 t11) (m27, t12) = some e) : LoopX tab ow (.close []) b_s_l03Permute_24 ⟨[(1, .ptr 1000 0 0 1), (2, .ptr 1001 0 0 1), (3, .ptr 2001 0 0 1), (4, .ptr 3001 0 0 1), (5, I t11), (9, .ptr 16001 0 0 1), (12, I t12)], [(1000, ⟨25, true, [ar .u64 m27]⟩), (1001, ⟨25, true, [ar .u64 m28]⟩), (2001, ⟨24, true, [ar .u64 m29]⟩), (3001, ⟨25, true, [ar .u64 m30]⟩), (7001, ⟨5, true, [ar .u64 m31]⟩), (16001, ⟨25, true, [ar .u64 m32]⟩)]⟩ = some ((.exit 10, ⟨[(1, .ptr 1000 0 0 1), (2, .ptr 1001 0 0 1), (3, .ptr 2001 0 0 1), (4, .ptr 3001 0 0 1), (5, I t11), (9, .ptr 16001 0 0 1), (12, I e.2.1), (104, B e.2.2)], [(1000, ⟨25, true, [ar .u64 e.1]⟩), (1001, ⟨25, true, [ar .u64 m28]⟩), (2001, ⟨24, true, [ar .u64 m29]⟩), (3001, ⟨25, true, [ar .u64 m30]⟩), (7001, ⟨5, true, [ar .u64 m31]⟩), (16001, ⟨25, true, [ar .u64 m32]⟩)]⟩)) := by
  refine loop_runG (S := (List Int) × Int) (eS := fun s => ⟨[(1, .ptr 1000 0 0 1), (2, .ptr 1001 0 0 1), (3, .ptr 2001 0 0 1), (4, .ptr 3001 0 0 1), (5, I t11), (9, .ptr 16001 0 0 1), (12, I s.2)], [(1000, ⟨25, true, [ar .u64 s.1]⟩), (1001, ⟨25, true, [ar .u64 m28]⟩), (2001, ⟨24, true, [ar .u64 m29]⟩), (3001, ⟨25, true, [ar .u64 m30]⟩), (7001, ⟨5, true, [ar .u64 m31]⟩), (16001, ⟨25, true, [ar .u64 m32]⟩)]⟩) (eE := fun e => (.exit 10, ⟨[(1, .ptr 1000 0 0 1), (2, .ptr 1001 0 0 1), (3, .ptr 2001 0 0 1), (4, .ptr 3001 0 0 1), (5, I t11), (9, .ptr 16001 0 0 1), (12, I e.2.1), (104, B e.2.2)], [(1000, ⟨25, true, [ar .u64 e.1]⟩), (1001, ⟨25, true, [ar .u64 m28]⟩), (2001, ⟨24, true, [ar .u64 m29]⟩), (3001, ⟨25, true, [ar .u64 m30]⟩), (7001, ⟨5, true, [ar .u64 m31]⟩), (16001, ⟨25, true, [ar .u64 m32]⟩)]⟩)) (fun e => ?_) (fun s o h => ?_) h
  · simp [alt]
  · obtain ⟨m27, t12⟩ := s
    simp only [s_l03Permute_6_s] at h
    show Rn tab ow _ _ ⟨[(1, .ptr 1000 0 0 1), (2, .ptr 1001 0 0 1), (3, .ptr 2001 0 0 1), (4, .ptr 3001 0 0 1), (5, I t11), (9, .ptr 16001 0 0 1), (12, I t12)], [(1000, ⟨25, true, [ar .u64 m27]⟩), (1001, ⟨25, true, [ar .u64 m28]⟩), (2001, ⟨24, true, [ar .u64 m29]⟩), (3001, ⟨25, true, [ar .u64 m30]⟩), (7001, ⟨5, true, [ar .u64 m31]⟩), (16001, ⟨25, true, [ar .u64 m32]⟩)]⟩ = _
    simp +decide only [b_s_l03Permute_24, go_sem, reduceIte, Nat.reduceAdd]
    rcases brc h with ⟨hb, h⟩ | ⟨hb, h⟩
    · refine br_t hb ?_
      obtain ⟨e_5, h1, h⟩ := bd h
      refine goR_of (s_l03Permute_7_l h1) ?_
      simp +decide only [go_sem, reduceIte, Nat.reduceAdd]
      obtain rfl := Option.some.inj h
      first | rfl | (simp only [List.length_set, go_sem]; done)
    · refine br_f hb ?_
      obtain rfl := Option.some.inj h
      first | rfl | (simp only [List.length_set, go_sem]; done)
noncomputable def s_l03Permute_1_s (m2 : List Int) (m3 : List Int) (m4 : List Int) : (List Int) × Int → Option (((List Int) × Int) ⊕ (((List Int) × Int × Bool)))
  | (m, t) =>
    br (decide (t < (24 : Int))) (
      (Loop (s_l03Permute_2_s m m2 m3 m4 t) ((nZ 5), (0 : Int))).bind fun e_ =>
      (Loop (s_l03Permute_3_s m2 m3 m4 e_.1 t) (m, (0 : Int))).bind fun e_2 =>
      (Loop (s_l03Permute_4_s e_2.1 m2 m3 m4 e_.1 t) ((nZ 25), (0 : Int))).bind fun e_4 =>
      (Loop (s_l03Permute_6_s m2 m3 m4 e_.1 e_4.1 t) (e_2.1, (0 : Int))).bind fun e_6 =>
      (e_6.1[0]?).bind fun x14 =>
      br (decide (0 ≤ t) && decide (t.toNat < 24)) (
        (m3[t.toNat]?).bind fun x15 =>
        br (decide (0 < e_6.1.length)) (
          some (.inl ((e_6.1.set 0 (xor64 .u64 x14 x15)), (IntKind.wrap .i64 (t + (1 : Int)))))) (
          none)) (
        none)) (
      some (.inr (m, t, decide (t < (24 : Int)))))
theorem s_l03Permute_1_l {m2 : List Int} {m3 : List Int} {m4 : List Int} {m : List Int} {t : Int} {e : ((List Int) × Int × Bool)} (h : Loop (s_l03Permute_1_s m2 m3 m4) (m, t) = some e) : LoopX tab ow (.close [7001, 15013, 16001, 23021]) b_s_l03Permute_4 ⟨[(1, .ptr 1000 0 0 1), (2, .ptr 1001 0 0 1), (3, .ptr 2001 0 0 1), (4, .ptr 3001 0 0 1), (5, I t)], [(1000, ⟨25, true, [ar .u64 m]⟩), (1001, ⟨25, true, [ar .u64 m2]⟩), (2001, ⟨24, true, [ar .u64 m3]⟩), (3001, ⟨25, true, [ar .u64 m4]⟩)]⟩ = some ((.exit 0, ⟨[(1, .ptr 1000 0 0 1), (2, .ptr 1001 0 0 1), (3, .ptr 2001 0 0 1), (4, .ptr 3001 0 0 1), (5, I e.2.1), (17, B e.2.2)], [(1000, ⟨25, true, [ar .u64 e.1]⟩), (1001, ⟨25, true, [ar .u64 m2]⟩), (2001, ⟨24, true, [ar .u64 m3]⟩), (3001, ⟨25, true, [ar .u64 m4]⟩)]⟩)) := by
  refine loop_runG (S := (List Int) × Int) (eS := fun s => ⟨[(1, .ptr 1000 0 0 1), (2, .ptr 1001 0 0 1), (3, .ptr 2001 0 0 1), (4, .ptr 3001 0 0 1), (5, I s.2)], [(1000, ⟨25, true, [ar .u64 s.1]⟩), (1001, ⟨25, true, [ar .u64 m2]⟩), (2001, ⟨24, true, [ar .u64 m3]⟩), (3001, ⟨25, true, [ar .u64 m4]⟩)]⟩) (eE := fun e => (.exit 0, ⟨[(1, .ptr 1000 0 0 1), (2, .ptr 1001 0 0 1), (3, .ptr 2001 0 0 1), (4, .ptr 3001 0 0 1), (5, I e.2.1), (17, B e.2.2)], [(1000, ⟨25, true, [ar .u64 e.1]⟩), (1001, ⟨25, true, [ar .u64 m2]⟩), (2001, ⟨24, true, [ar .u64 m3]⟩), (3001, ⟨25, true, [ar .u64 m4]⟩)]⟩)) (fun e => ?_) (fun s o h => ?_) h
  · simp [alt]
  · obtain ⟨m, t⟩ := s
    simp only [s_l03Permute_1_s] at h
    show Rn tab ow _ _ ⟨[(1, .ptr 1000 0 0 1), (2, .ptr 1001 0 0 1), (3, .ptr 2001 0 0 1), (4, .ptr 3001 0 0 1), (5, I t)], [(1000, ⟨25, true, [ar .u64 m]⟩), (1001, ⟨25, true, [ar .u64 m2]⟩), (2001, ⟨24, true, [ar .u64 m3]⟩), (3001, ⟨25, true, [ar .u64 m4]⟩)]⟩ = _
    simp +decide only [b_s_l03Permute_4, go_sem, reduceIte, Nat.reduceAdd]
    rcases brc h with ⟨hb, h⟩ | ⟨hb, h⟩
    · refine br_t hb ?_
      obtain ⟨e_, h1, h⟩ := bd h
      refine goR_of (s_l03Permute_2_l h1) ?_
      simp +decide only [go_sem, reduceIte, Nat.reduceAdd]
      obtain ⟨e_2, h1, h⟩ := bd h
      refine goR_of (s_l03Permute_3_l h1) ?_
      simp +decide only [go_sem, reduceIte, Nat.reduceAdd]
      obtain ⟨e_4, h1, h⟩ := bd h
      refine goR_of (s_l03Permute_4_l h1) ?_
      simp +decide only [go_sem, reduceIte, Nat.reduceAdd]
      obtain ⟨e_6, h1, h⟩ := bd h
      refine goR_of (s_l03Permute_6_l h1) ?_
      simp +decide only [go_sem, reduceIte, Nat.reduceAdd]
      obtain ⟨x14, h1, h⟩ := bd h
      refine bind_some h1 ?_
      obtain ⟨hb, h⟩ := brg h
      refine br_t hb ?_
      obtain ⟨x15, h1, h⟩ := bd h
      refine bind_some h1 ?_
      obtain ⟨hb, h⟩ := brg h
      refine br_t hb ?_
      obtain rfl := Option.some.inj h
      first | rfl | (simp only [List.length_set, go_sem]; done)
    · refine br_f hb ?_
      obtain rfl := Option.some.inj h
      first | rfl | (simp only [List.length_set, go_sem]; done)
noncomputable def s_l03Permute (ListtoArray : (List Int)) : Option ((List Int)) :=
  br (decide (ListtoArray.length = 25)) (
    (s_l03Rounds).bind fun r_ =>
    br (decide (r_.length = 24)) (
      (s_l03Shifts).bind fun r_2 =>
      br (decide (r_2.length = 25)) (
        (Loop (s_l03Permute_1_s (nZ 25) r_ r_2) (ListtoArray, (0 : Int))).bind fun e_7 =>
        br (decide (e_7.1.length = 25)) (
          br (decide (e_7.1.length = 25)) (
            br (decide (e_7.1.length = 25)) (
              some e_7.1) (
              none)) (
            none)) (
          none)) (
        none)) (
      none)) (
    none)
theorem s_l03Permute_c {ListtoArray : (List Int)} {r : (List Int)} (h : s_l03Permute ListtoArray = some r) : Call tab ow 275 [.agg (ar .u64 ListtoArray)] [] = some (.agg (ar .u64 r), []) := by
  rw [run_s_l03Permute]
  unfold s_l03Permute at h
  simp +decide only [b_s_l03Permute, go_sem, reduceIte, Nat.reduceAdd]
  obtain ⟨hb, h⟩ := brg h
  refine br_t hb ?_
  obtain ⟨r_, h1, h⟩ := bd h
  refine call_aft (s_l03Rounds_c h1) ?_
  simp +decide only [go_sem, reduceIte, Nat.reduceAdd]
  obtain ⟨hb, h⟩ := brg h
  refine br_t hb ?_
  obtain ⟨r_2, h1, h⟩ := bd h
  refine call_aft (s_l03Shifts_c h1) ?_
  simp +decide only [go_sem, reduceIte, Nat.reduceAdd]
  obtain ⟨hb, h⟩ := brg h
  refine br_t hb ?_
  obtain ⟨e_7, h1, h⟩ := bd h
  refine goR_of (s_l03Permute_1_l h1) ?_
  simp +decide only [go_sem, reduceIte, Nat.reduceAdd]
  obtain ⟨hb, h⟩ := brg h
  refine br_t hb ?_
  obtain ⟨hb, h⟩ := brg h
  refine br_t hb ?_
  obtain ⟨hb, h⟩ := brg h
  refine br_t hb ?_
  obtain rfl := Option.some.inj h
  first | rfl | (simp only [List.length_set, go_sem]; done)
section
theorem s_l03Text_k0 : mkR 2000 [] = rws eU8 [] := rfl
attribute [local go_sem] s_l03Text_k0
theorem s_l03Text_k1 : mkR 6011 [] = rws eU8 [] := rfl
attribute [local go_sem] s_l03Text_k1
noncomputable def s_l03Text_1_s (m : List Int) (n2 : Int) : (List UInt8) × Int → Option (((List UInt8) × Int) ⊕ (((List UInt8) × Int × Bool)))
  | (l, i) =>
    br (decide (i < n2)) (
      br (decide (0 ≤ (IntKind.wrap .i64 (i.tdiv (8 : Int)))) && decide ((IntKind.wrap .i64 (i.tdiv (8 : Int))).toNat < 25)) (
        (m[(IntKind.wrap .i64 (i.tdiv (8 : Int))).toNat]?).bind fun x =>
        br (decide (0 ≤ (IntKind.wrap .u64 (IntKind.wrap .i64 ((8 : Int) * (i.tmod (8 : Int))))))) (
          br (fits ((l ++ ([(UInt8.ofInt (shr64 .u64 x (IntKind.wrap .u64 (IntKind.wrap .i64 ((8 : Int) * (i.tmod (8 : Int)))))))] : List UInt8)).length) 1) (
            some (.inl ((l ++ ([(UInt8.ofInt (shr64 .u64 x (IntKind.wrap .u64 (IntKind.wrap .i64 ((8 : Int) * (i.tmod (8 : Int)))))))] : List UInt8)), (IntKind.wrap .i64 (i + (1 : Int)))))) (
            none)) (
          none)) (
        none)) (
      some (.inr (l, i, decide (i < n2))))
theorem s_l03Text_1_l {m : List Int} {n2 : Int} {l : List UInt8} {i : Int} {e : ((List UInt8) × Int × Bool)} (h : Loop (s_l03Text_1_s m n2) (l, i) = some e) : LoopX tab ow (.close [6011, 6012]) b_s_l03Text_3 ⟨[(1, I n2), (2, .ptr 1000 0 0 1), (5, .sl 2000 0 l.length), (6, I i)], [(1000, ⟨25, true, [ar .u64 m]⟩), (2000, ⟨1, false, rws eU8 l⟩)]⟩ = some ((.exit 0, ⟨[(1, I n2), (2, .ptr 1000 0 0 1), (5, .sl 2000 0 e.1.length), (6, I e.2.1), (10, B e.2.2)], [(1000, ⟨25, true, [ar .u64 m]⟩), (2000, ⟨1, false, rws eU8 e.1⟩)]⟩)) := by
  refine loop_runG (S := (List UInt8) × Int) (eS := fun s => ⟨[(1, I n2), (2, .ptr 1000 0 0 1), (5, .sl 2000 0 s.1.length), (6, I s.2)], [(1000, ⟨25, true, [ar .u64 m]⟩), (2000, ⟨1, false, rws eU8 s.1⟩)]⟩) (eE := fun e => (.exit 0, ⟨[(1, I n2), (2, .ptr 1000 0 0 1), (5, .sl 2000 0 e.1.length), (6, I e.2.1), (10, B e.2.2)], [(1000, ⟨25, true, [ar .u64 m]⟩), (2000, ⟨1, false, rws eU8 e.1⟩)]⟩)) (fun e => ?_) (fun s o h => ?_) h
  · simp [alt]
  · obtain ⟨l, i⟩ := s
    simp only [s_l03Text_1_s] at h
    show Rn tab ow _ _ ⟨[(1, I n2), (2, .ptr 1000 0 0 1), (5, .sl 2000 0 l.length), (6, I i)], [(1000, ⟨25, true, [ar .u64 m]⟩), (2000, ⟨1, false, rws eU8 l⟩)]⟩ = _
    simp +decide only [b_s_l03Text_3, go_sem, reduceIte, Nat.reduceAdd]
    rcases brc h with ⟨hb, h⟩ | ⟨hb, h⟩
    · refine br_t hb ?_
      obtain ⟨hb, h⟩ := brg h
      refine br_t hb ?_
      obtain ⟨x, h1, h⟩ := bd h
      refine bind_some h1 ?_
      obtain ⟨hb, h⟩ := brg h
      refine br_t hb ?_
      obtain ⟨hb, h⟩ := brg h
      refine br_t hb ?_
      obtain rfl := Option.some.inj h
      first | rfl | (simp only [List.length_set, go_sem]; done)
    · refine br_f hb ?_
      obtain rfl := Option.some.inj h
      first | rfl | (simp only [List.length_set, go_sem]; done)
noncomputable def s_l03Text (a : (List Int)) (n : Int) : Option ((List UInt8)) :=
  br (decide (a.length = 25)) (
    (Loop (s_l03Text_1_s a n) (([] : List UInt8), (0 : Int))).bind fun e_ =>
    some e_.1) (
    none)
theorem s_l03Text_c {a : (List Int)} {n : Int} {r : (List UInt8)} (h : s_l03Text a n = some r) : Call tab ow 276 [.agg (ar .u64 a), I n] [] = some (S r, []) := by
  rw [run_s_l03Text]
  unfold s_l03Text at h
  simp +decide only [b_s_l03Text, go_sem, reduceIte, Nat.reduceAdd]
  obtain ⟨hb, h⟩ := brg h
  refine br_t hb ?_
  obtain ⟨e_, h1, h⟩ := bd h
  refine goR_of (s_l03Text_1_l h1) ?_
  simp +decide only [go_sem, reduceIte, Nat.reduceAdd]
  obtain rfl := Option.some.inj h
  first | rfl | (simp only [List.length_set, go_sem]; done)
end
section
theorem s_l03Hash_k0 : mkR 2002 [] = rws eU8 [] := rfl
attribute [local go_sem] s_l03Hash_k0
theorem s_l03Hash_k1 : mkR 4001 [] = rws eU8 [] := rfl
attribute [local go_sem] s_l03Hash_k1
noncomputable def s_l03Hash_1_s (l2 : List UInt8) : (List UInt8) → Option (((List UInt8)) ⊕ (((List UInt8) × Bool)))
  | l =>
    br ((((l.length : Nat) : Int).tmod (136 : Int)) != (0 : Int)) (
      br (fits ((l ++ ([(0 : UInt8)] : List UInt8)).length) 1) (
        some (.inl (l ++ ([(0 : UInt8)] : List UInt8)))) (
        none)) (
      some (.inr (l, ((((l.length : Nat) : Int).tmod (136 : Int)) != (0 : Int)))))
theorem s_l03Hash_1_l {l2 : List UInt8} {l : List UInt8} {e : ((List UInt8) × Bool)} (h : Loop (s_l03Hash_1_s l2) l = some e) : LoopX tab ow (.close [4001, 4002]) b_s_l03Hash_2 ⟨[(3, .sl 2001 0 l.length)], [(2001, ⟨1, false, rws eU8 l⟩), (2002, ⟨1, false, rws eU8 l2⟩)]⟩ = some ((.exit 0, ⟨[(3, .sl 2001 0 e.1.length), (15, B e.2)], [(2001, ⟨1, false, rws eU8 e.1⟩), (2002, ⟨1, false, rws eU8 l2⟩)]⟩)) := by
  refine loop_runG (S := (List UInt8)) (eS := fun s => ⟨[(3, .sl 2001 0 s.length)], [(2001, ⟨1, false, rws eU8 s⟩), (2002, ⟨1, false, rws eU8 l2⟩)]⟩) (eE := fun e => (.exit 0, ⟨[(3, .sl 2001 0 e.1.length), (15, B e.2)], [(2001, ⟨1, false, rws eU8 e.1⟩), (2002, ⟨1, false, rws eU8 l2⟩)]⟩)) (fun e => ?_) (fun l o h => ?_) h
  · simp [alt]
  · skip
    simp only [s_l03Hash_1_s] at h
    show Rn tab ow _ _ ⟨[(3, .sl 2001 0 l.length)], [(2001, ⟨1, false, rws eU8 l⟩), (2002, ⟨1, false, rws eU8 l2⟩)]⟩ = _
    simp +decide only [b_s_l03Hash_2, go_sem, reduceIte, Nat.reduceAdd]
    rcases brc h with ⟨hb, h⟩ | ⟨hb, h⟩
    · refine br_t hb ?_
      obtain ⟨hb, h⟩ := brg h
      refine br_t hb ?_
      obtain rfl := Option.some.inj h
      first | rfl | (simp only [List.length_set, go_sem]; done)
    · refine br_f hb ?_
      obtain rfl := Option.some.inj h
      first | rfl | (simp only [List.length_set, go_sem]; done)
noncomputable def s_l03Hash_3_s (l4 : List UInt8) (m4 : List Int) (m5 : List UInt8) (at_2 : Int) : (List Int) × Int → Option (((List Int) × Int) ⊕ (((List Int) × Int × Bool)))
  | (m3, i) =>
    br (decide (i < (25 : Int))) (
      br (decide (0 ≤ i) && decide (i.toNat < 25)) (
        (m3[i.toNat]?).bind fun x3 =>
        br (decide (0 ≤ i) && decide (i.toNat < 25)) (
          (m4[i.toNat]?).bind fun x4 =>
          br (decide (0 ≤ i) && decide (i.toNat < 25)) (
            br (decide (i.toNat < m3.length)) (
              some (.inl ((m3.set i.toNat (xor64 .u64 x3 x4)), (IntKind.wrap .i64 (i + (1 : Int)))))) (
              none)) (
            none)) (
          none)) (
        none)) (
      some (.inr (m3, i, decide (i < (25 : Int)))))
theorem s_l03Hash_3_l {l4 : List UInt8} {m4 : List Int} {m5 : List UInt8} {at_2 : Int} {m3 : List Int} {i : Int} {e : ((List Int) × Int × Bool)} (h : Loop (s_l03Hash_3_s l4 m4 m5 at_2) (m3, i) = some e) : LoopX tab ow (.close []) b_s_l03Hash_11 ⟨[(3, sl eU8 m5), (4, .ptr 6001 0 0 1), (5, I at_2), (6, .ptr 10007 0 0 1), (7, I i)], [(2002, ⟨1, false, rws eU8 l4⟩), (6001, ⟨25, true, [ar .u64 m3]⟩), (10007, ⟨25, true, [ar .u64 m4]⟩)]⟩ = some ((.exit 4, ⟨[(3, sl eU8 m5), (4, .ptr 6001 0 0 1), (5, I at_2), (6, .ptr 10007 0 0 1), (7, I e.2.1), (42, B e.2.2)], [(2002, ⟨1, false, rws eU8 l4⟩), (6001, ⟨25, true, [ar .u64 e.1]⟩), (10007, ⟨25, true, [ar .u64 m4]⟩)]⟩)) := by
  refine loop_runG (S := (List Int) × Int) (eS := fun s => ⟨[(3, sl eU8 m5), (4, .ptr 6001 0 0 1), (5, I at_2), (6, .ptr 10007 0 0 1), (7, I s.2)], [(2002, ⟨1, false, rws eU8 l4⟩), (6001, ⟨25, true, [ar .u64 s.1]⟩), (10007, ⟨25, true, [ar .u64 m4]⟩)]⟩) (eE := fun e => (.exit 4, ⟨[(3, sl eU8 m5), (4, .ptr 6001 0 0 1), (5, I at_2), (6, .ptr 10007 0 0 1), (7, I e.2.1), (42, B e.2.2)], [(2002, ⟨1, false, rws eU8 l4⟩), (6001, ⟨25, true, [ar .u64 e.1]⟩), (10007, ⟨25, true, [ar .u64 m4]⟩)]⟩)) (fun e => ?_) (fun s o h => ?_) h
  · simp [alt]
  · obtain ⟨m3, i⟩ := s
    simp only [s_l03Hash_3_s] at h
    show Rn tab ow _ _ ⟨[(3, sl eU8 m5), (4, .ptr 6001 0 0 1), (5, I at_2), (6, .ptr 10007 0 0 1), (7, I i)], [(2002, ⟨1, false, rws eU8 l4⟩), (6001, ⟨25, true, [ar .u64 m3]⟩), (10007, ⟨25, true, [ar .u64 m4]⟩)]⟩ = _
    simp +decide only [b_s_l03Hash_11, go_sem, reduceIte, Nat.reduceAdd]
    rcases brc h with ⟨hb, h⟩ | ⟨hb, h⟩
    · refine br_t hb ?_
      obtain ⟨hb, h⟩ := brg h
      refine br_t hb ?_
      obtain ⟨x3, h1, h⟩ := bd h
      refine bind_some h1 ?_
      obtain ⟨hb, h⟩ := brg h
      refine br_t hb ?_
      obtain ⟨x4, h1, h⟩ := bd h
      refine bind_some h1 ?_
      obtain ⟨hb, h⟩ := brg h
      refine br_t hb ?_
      obtain ⟨hb, h⟩ := brg h
      refine br_t hb ?_
      obtain rfl := Option.some.inj h
      first | rfl | (simp only [List.length_set, go_sem]; done)
    · refine br_f hb ?_
      obtain rfl := Option.some.inj h
      first | rfl | (simp only [List.length_set, go_sem]; done)
noncomputable def s_l03Hash_2_s (l3 : List UInt8) (m2 : List UInt8) : (List Int) × Int → Option (((List Int) × Int) ⊕ (((List Int) × Int × Bool)))
  | (m, at_) =>
    br (decide (at_ < ((m2.length : Nat) : Int))) (
      (subL m2 at_ (IntKind.wrap .i64 (at_ + (136 : Int)))).bind fun y =>
      (s_l03Lanes y).bind fun r_ =>
      br (decide (r_.length = 25)) (
        (Loop (s_l03Hash_3_s l3 r_ m2 at_) (m, (0 : Int))).bind fun e_2 =>
        br (decide (e_2.1.length = 25)) (
          (s_l03Permute e_2.1).bind fun r_2 =>
          br (decide (r_2.length = 25) && decide (e_2.1.length = 25)) (
            some (.inl (r_2, (IntKind.wrap .i64 (at_ + (136 : Int)))))) (
            none)) (
          none)) (
        none)) (
      some (.inr (m, at_, decide (at_ < ((m2.length : Nat) : Int)))))
theorem s_l03Hash_2_l {l3 : List UInt8} {m2 : List UInt8} {m : List Int} {at_ : Int} {e : ((List Int) × Int × Bool)} (h : Loop (s_l03Hash_2_s l3 m2) (m, at_) = some e) : LoopX tab ow (.close [10006, 10007, 15001, 2001]) b_s_l03Hash_7 ⟨[(3, sl eU8 m2), (4, .ptr 6001 0 0 1), (5, I at_)], [(2002, ⟨1, false, rws eU8 l3⟩), (6001, ⟨25, true, [ar .u64 m]⟩)]⟩ = some ((.exit 2, ⟨[(3, sl eU8 m2), (4, .ptr 6001 0 0 1), (5, I e.2.1), (31, B e.2.2)], [(2002, ⟨1, false, rws eU8 l3⟩), (6001, ⟨25, true, [ar .u64 e.1]⟩)]⟩)) := by
  refine loop_runG (S := (List Int) × Int) (eS := fun s => ⟨[(3, sl eU8 m2), (4, .ptr 6001 0 0 1), (5, I s.2)], [(2002, ⟨1, false, rws eU8 l3⟩), (6001, ⟨25, true, [ar .u64 s.1]⟩)]⟩) (eE := fun e => (.exit 2, ⟨[(3, sl eU8 m2), (4, .ptr 6001 0 0 1), (5, I e.2.1), (31, B e.2.2)], [(2002, ⟨1, false, rws eU8 l3⟩), (6001, ⟨25, true, [ar .u64 e.1]⟩)]⟩)) (fun e => ?_) (fun s o h => ?_) h
  · simp [alt]
  · obtain ⟨m, at_⟩ := s
    simp only [s_l03Hash_2_s] at h
    show Rn tab ow _ _ ⟨[(3, sl eU8 m2), (4, .ptr 6001 0 0 1), (5, I at_)], [(2002, ⟨1, false, rws eU8 l3⟩), (6001, ⟨25, true, [ar .u64 m]⟩)]⟩ = _
    simp +decide only [b_s_l03Hash_7, go_sem, reduceIte, Nat.reduceAdd]
    rcases brc h with ⟨hb, h⟩ | ⟨hb, h⟩
    · refine br_t hb ?_
      obtain ⟨y, h1, h⟩ := bd h
      refine bind_some h1 ?_
      obtain ⟨r_, h1, h⟩ := bd h
      refine call_aft (s_l03Lanes_c h1) ?_
      simp +decide only [go_sem, reduceIte, Nat.reduceAdd]
      obtain ⟨hb, h⟩ := brg h
      refine br_t hb ?_
      obtain ⟨e_2, h1, h⟩ := bd h
      refine goR_of (s_l03Hash_3_l h1) ?_
      simp +decide only [go_sem, reduceIte, Nat.reduceAdd]
      obtain ⟨hb, h⟩ := brg h
      refine br_t hb ?_
      obtain ⟨r_2, h1, h⟩ := bd h
      refine call_aft (s_l03Permute_c h1) ?_
      simp +decide only [go_sem, reduceIte, Nat.reduceAdd]
      obtain ⟨hb, h⟩ := brg h
      refine br_t hb ?_
      obtain rfl := Option.some.inj h
      first | rfl | (simp only [List.length_set, go_sem]; done)
    · refine br_f hb ?_
      obtain rfl := Option.some.inj h
      first | rfl | (simp only [List.length_set, go_sem]; done)
noncomputable def s_l03Hash (b : (List UInt8)) : Option ((List UInt8)) :=
  br (fits b.length 1) (
    br (fits ((b ++ ([(1 : UInt8)] : List UInt8)).length) 1) (
      (Loop (s_l03Hash_1_s ([(1 : UInt8)] : List UInt8)) (b ++ ([(1 : UInt8)] : List UInt8))).bind fun e_ =>
      br (decide (0 ≤ (IntKind.wrap .i64 (((e_.1.length : Nat) : Int) - (1 : Int))))) (
        br (decide ((IntKind.wrap .i64 (((e_.1.length : Nat) : Int) - (1 : Int))).toNat < e_.1.length)) (
          (e_.1[(IntKind.wrap .i64 (((e_.1.length : Nat) : Int) - (1 : Int))).toNat]?).bind fun x =>
          br (decide (0 ≤ (IntKind.wrap .i64 (((e_.1.length : Nat) : Int) - (1 : Int))))) (
            br (decide ((IntKind.wrap .i64 (((e_.1.length : Nat) : Int) - (1 : Int))).toNat < e_.1.length)) (
              (e_.1[(IntKind.wrap .i64 (((e_.1.length : Nat) : Int) - (1 : Int))).toNat]?).bind fun x2 =>
              (Loop (s_l03Hash_2_s ([(1 : UInt8)] : List UInt8) (e_.1.set ((IntKind.wrap .i64 (((e_.1.length : Nat) : Int) - (1 : Int))).toNat) (UInt8.ofInt (or64 .u8 (x.toNat : Int) (128 : Int))))) ((nZ 25), (0 : Int))).bind fun e_3 =>
              br (decide (e_3.1.length = 25)) (
                (s_l03Text e_3.1 (32 : Int)).bind fun r_3 =>
                some r_3) (
                none)) (
              none)) (
            none)) (
          none)) (
        none)) (
      none)) (
    none)
theorem s_l03Hash_c {b : (List UInt8)} {r : (List UInt8)} (h : s_l03Hash b = some r) : Call tab ow 247 [S b] [] = some (S r, []) := by
  rw [run_s_l03Hash]
  unfold s_l03Hash at h
  simp +decide only [b_s_l03Hash, go_sem, reduceIte, Nat.reduceAdd]
  obtain ⟨hb, h⟩ := brg h
  refine br_t hb ?_
  obtain ⟨hb, h⟩ := brg h
  refine br_t hb ?_
  obtain ⟨e_, h1, h⟩ := bd h
  refine goR_of (s_l03Hash_1_l h1) ?_
  simp +decide only [go_sem, reduceIte, Nat.reduceAdd]
  obtain ⟨hb, h⟩ := brg h
  refine br_t hb ?_
  obtain ⟨hb, h⟩ := brg h
  refine br_t hb ?_
  obtain ⟨x, h1, h⟩ := bd h
  refine bind_some h1 ?_
  obtain ⟨hb, h⟩ := brg h
  refine br_t hb ?_
  obtain ⟨hb, h⟩ := brg h
  refine br_t hb ?_
  obtain ⟨x2, h1, h⟩ := bd h
  refine bind_some h1 ?_
  obtain ⟨e_3, h1, h⟩ := bd h
  have h2 := s_l03Hash_2_l h1
  try simp only [List.length_set] at h2
  refine goR_of h2 ?_
  simp +decide only [go_sem, reduceIte, Nat.reduceAdd]
  obtain ⟨hb, h⟩ := brg h
  refine br_t hb ?_
  obtain ⟨r_3, h1, h⟩ := bd h
  refine call_aft (s_l03Text_c h1) ?_
  simp +decide only [go_sem, reduceIte, Nat.reduceAdd]
  obtain rfl := Option.some.inj h
  first | rfl | (simp only [List.length_set, go_sem]; done)
end
noncomputable def i_lanesOf_1_s (m : List Int) (t : List UInt8) (t2 : Int) : (List Int) × Int → Option (((List Int) × Int) ⊕ (((List Int) × Int × Bool)))
  | (m2, t3) =>
    br (decide (t3 < t2)) (
      (atL t t3).bind fun x =>
      br (decide (0 ≤ (IntKind.wrap .i64 (t3.tdiv (8 : Int)))) && decide ((IntKind.wrap .i64 (t3.tdiv (8 : Int))).toNat < 25)) (
        (m2[(IntKind.wrap .i64 (t3.tdiv (8 : Int))).toNat]?).bind fun x2 =>
        br (decide (0 ≤ (IntKind.wrap .i64 ((8 : Int) * (t3.tmod (8 : Int)))))) (
          br (decide (0 ≤ (IntKind.wrap .i64 (t3.tdiv (8 : Int)))) && decide ((IntKind.wrap .i64 (t3.tdiv (8 : Int))).toNat < 25)) (
            br (decide ((IntKind.wrap .i64 (t3.tdiv (8 : Int))).toNat < m2.length)) (
              some (.inl ((m2.set ((IntKind.wrap .i64 (t3.tdiv (8 : Int))).toNat) (or64 .u64 x2 (shl64 .u64 (IntKind.wrap .u64 (x.toNat : Int)) (IntKind.wrap .i64 ((8 : Int) * (t3.tmod (8 : Int))))))), (IntKind.wrap .i64 (t3 + (1 : Int)))))) (
              none)) (
            none)) (
          none)) (
        none)) (
      some (.inr (m2, t3, decide (t3 < t2))))
theorem i_lanesOf_1_l {m : List Int} {t : List UInt8} {t2 : Int} {m2 : List Int} {t3 : Int} {e : ((List Int) × Int × Bool)} (h : Loop (i_lanesOf_1_s m t t2) (m2, t3) = some e) : LoopX tab ow (.close []) b_i_lanesOf_3 ⟨[(2, .ptr 1000 0 0 1), (3, .ptr 2001 0 0 1), (7, sl eU8 t), (8, I t2), (9, I t3)], [(1000, ⟨25, true, [ar .u64 m]⟩), (2001, ⟨25, true, [ar .u64 m2]⟩)]⟩ = some ((.exit 0, ⟨[(2, .ptr 1000 0 0 1), (3, .ptr 2001 0 0 1), (7, sl eU8 t), (8, I t2), (9, I e.2.1), (10, B e.2.2)], [(1000, ⟨25, true, [ar .u64 m]⟩), (2001, ⟨25, true, [ar .u64 e.1]⟩)]⟩)) := by
  refine loop_runG (S := (List Int) × Int) (eS := fun s => ⟨[(2, .ptr 1000 0 0 1), (3, .ptr 2001 0 0 1), (7, sl eU8 t), (8, I t2), (9, I s.2)], [(1000, ⟨25, true, [ar .u64 m]⟩), (2001, ⟨25, true, [ar .u64 s.1]⟩)]⟩) (eE := fun e => (.exit 0, ⟨[(2, .ptr 1000 0 0 1), (3, .ptr 2001 0 0 1), (7, sl eU8 t), (8, I t2), (9, I e.2.1), (10, B e.2.2)], [(1000, ⟨25, true, [ar .u64 m]⟩), (2001, ⟨25, true, [ar .u64 e.1]⟩)]⟩)) (fun e => ?_) (fun s o h => ?_) h
  · simp [alt]
  · obtain ⟨m2, t3⟩ := s
    simp only [i_lanesOf_1_s] at h
    show Rn tab ow _ _ ⟨[(2, .ptr 1000 0 0 1), (3, .ptr 2001 0 0 1), (7, sl eU8 t), (8, I t2), (9, I t3)], [(1000, ⟨25, true, [ar .u64 m]⟩), (2001, ⟨25, true, [ar .u64 m2]⟩)]⟩ = _
    simp +decide only [b_i_lanesOf_3, go_sem, reduceIte, Nat.reduceAdd]
    rcases brc h with ⟨hb, h⟩ | ⟨hb, h⟩
    · refine br_t hb ?_
      obtain ⟨x, h1, h⟩ := bd h
      refine bind_some h1 ?_
      obtain ⟨hb, h⟩ := brg h
      refine br_t hb ?_
      obtain ⟨x2, h1, h⟩ := bd h
      refine bind_some h1 ?_
      obtain ⟨hb, h⟩ := brg h
      refine br_t hb ?_
      obtain ⟨hb, h⟩ := brg h
      refine br_t hb ?_
      obtain ⟨hb, h⟩ := brg h
      refine br_t hb ?_
      obtain rfl := Option.some.inj h
      first | rfl | (simp only [List.length_set, go_sem]; done)
    · refine br_f hb ?_
      obtain rfl := Option.some.inj h
      first | rfl | (simp only [List.length_set, go_sem]; done)
noncomputable def i_lanesOf (state : (List UInt8)) : Option ((List Int)) :=
  (Loop (i_lanesOf_1_s (nZ 25) state ((state.length : Nat) : Int)) ((nZ 25), (0 : Int))).bind fun e_ =>
  br (decide (e_.1.length = 25)) (
    br (decide (e_.1.length = 25)) (
      br (decide (e_.1.length = 25)) (
        some e_.1) (
        none)) (
      none)) (
    none)
theorem i_lanesOf_c {state : (List UInt8)} {r : (List Int)} (h : i_lanesOf state = some r) : Call tab ow 248 [sl eU8 state] [] = some (.agg (ar .u64 r), []) := by
  rw [run_i_lanesOf]
  unfold i_lanesOf at h
  simp +decide only [b_i_lanesOf, go_sem, reduceIte, Nat.reduceAdd]
  obtain ⟨e_, h1, h⟩ := bd h
  refine goR_of (i_lanesOf_1_l h1) ?_
  simp +decide only [go_sem, reduceIte, Nat.reduceAdd]
  obtain ⟨hb, h⟩ := brg h
  refine br_t hb ?_
  obtain ⟨hb, h⟩ := brg h
  refine br_t hb ?_
  obtain ⟨hb, h⟩ := brg h
  refine br_t hb ?_
  obtain rfl := Option.some.inj h
  first | rfl | (simp only [List.length_set, go_sem]; done)
noncomputable def math_bits_RotateLeft64 (x : Int) (k : Int) : Option (Int) :=
  br (decide (0 ≤ (and64 .u64 (IntKind.wrap .u64 k) (63 : Int)))) (
    br (decide (0 ≤ (IntKind.wrap .u64 ((64 : Int) - (and64 .u64 (IntKind.wrap .u64 k) (63 : Int)))))) (
      some (or64 .u64 (shl64 .u64 x (and64 .u64 (IntKind.wrap .u64 k) (63 : Int))) (shr64 .u64 x (IntKind.wrap .u64 ((64 : Int) - (and64 .u64 (IntKind.wrap .u64 k) (63 : Int))))))) (
      none)) (
    none)
theorem math_bits_RotateLeft64_c {x : Int} {k : Int} {r : Int} (h : math_bits_RotateLeft64 x k = some r) : Call tab ow 277 [.lit (.int .u64 x), I k] [] = some (.lit (.int .u64 r), []) := by
  rw [run_math_bits_RotateLeft64]
  unfold math_bits_RotateLeft64 at h
  simp +decide only [b_math_bits_RotateLeft64, go_sem, reduceIte, Nat.reduceAdd]
  obtain ⟨hb, h⟩ := brg h
  refine br_t hb ?_
  obtain ⟨hb, h⟩ := brg h
  refine br_t hb ?_
  obtain rfl := Option.some.inj h
  first | rfl | (simp only [List.length_set, go_sem]; done)
end Go.AI.Fn

set_option linter.unusedVariables false
set_option linter.unusedSimpArgs false
set_option maxRecDepth 100000
set_option maxHeartbeats 1000000
namespace Go.AI.Fn
noncomputable def i_lanes_permute_2_s (m5 : List Int) (m6 : List Int) (m7 : List Int) (m9 : List Int) (t3 : Int) (t4 : List Int) (t5 : Int) : (List Int) × Int → Option (((List Int) × Int) ⊕ (((List Int) × Int × Bool)))
  | (m8, t6) =>
    br (decide (t6 < (25 : Int))) (
      br (decide (0 ≤ t6) && decide (t6.toNat < 25)) (
        (m5[t6.toNat]?).bind fun x2 =>
        br (decide (0 ≤ (t6.tmod (5 : Int))) && decide ((t6.tmod (5 : Int)).toNat < 5)) (
          (m8[(t6.tmod (5 : Int)).toNat]?).bind fun x3 =>
          br (decide (0 ≤ (t6.tmod (5 : Int))) && decide ((t6.tmod (5 : Int)).toNat < 5)) (
            br (decide ((t6.tmod (5 : Int)).toNat < m8.length)) (
              some (.inl ((m8.set ((t6.tmod (5 : Int)).toNat) (xor64 .u64 x3 x2)), (IntKind.wrap .i64 (t6 + (1 : Int)))))) (
              none)) (
            none)) (
          none)) (
        none)) (
      some (.inr (m8, t6, decide (t6 < (25 : Int)))))
theorem i_lanes_permute_2_l {m5 : List Int} {m6 : List Int} {m7 : List Int} {m9 : List Int} {t3 : Int} {t4 : List Int} {t5 : Int} {m8 : List Int} {t6 : Int} {e : ((List Int) × Int × Bool)} (h : Loop (i_lanes_permute_2_s m5 m6 m7 m9 t3 t4 t5) (m8, t6) = some e) : LoopX tab ow (.close []) b_i_lanes_permute_7 ⟨[(0, .ptr 0 0 0 1), (2, .ptr 1001 0 0 1), (5, .lit (.int .u64 t3)), (6, .ptr 6002 0 0 1), (7, .ptr 6003 0 0 1), (20, .agg (ar .u64 t4)), (21, I t5), (26, .ptr 0 0 0 1), (27, I t6)], [(0, ⟨25, true, [ar .u64 m5]⟩), (1001, ⟨25, true, [ar .i64 m6]⟩), (2001, ⟨24, true, [ar .u64 m7]⟩), (6002, ⟨5, true, [ar .u64 m8]⟩), (6003, ⟨25, true, [ar .u64 m9]⟩)]⟩ = some ((.exit 2, ⟨[(0, .ptr 0 0 0 1), (2, .ptr 1001 0 0 1), (5, .lit (.int .u64 t3)), (6, .ptr 6002 0 0 1), (7, .ptr 6003 0 0 1), (20, .agg (ar .u64 t4)), (21, I t5), (26, .ptr 0 0 0 1), (27, I e.2.1), (28, B e.2.2)], [(0, ⟨25, true, [ar .u64 m5]⟩), (1001, ⟨25, true, [ar .i64 m6]⟩), (2001, ⟨24, true, [ar .u64 m7]⟩), (6002, ⟨5, true, [ar .u64 e.1]⟩), (6003, ⟨25, true, [ar .u64 m9]⟩)]⟩)) := by
  refine loop_runG (S := (List Int) × Int) (eS := fun s => ⟨[(0, .ptr 0 0 0 1), (2, .ptr 1001 0 0 1), (5, .lit (.int .u64 t3)), (6, .ptr 6002 0 0 1), (7, .ptr 6003 0 0 1), (20, .agg (ar .u64 t4)), (21, I t5), (26, .ptr 0 0 0 1), (27, I s.2)], [(0, ⟨25, true, [ar .u64 m5]⟩), (1001, ⟨25, true, [ar .i64 m6]⟩), (2001, ⟨24, true, [ar .u64 m7]⟩), (6002, ⟨5, true, [ar .u64 s.1]⟩), (6003, ⟨25, true, [ar .u64 m9]⟩)]⟩) (eE := fun e => (.exit 2, ⟨[(0, .ptr 0 0 0 1), (2, .ptr 1001 0 0 1), (5, .lit (.int .u64 t3)), (6, .ptr 6002 0 0 1), (7, .ptr 6003 0 0 1), (20, .agg (ar .u64 t4)), (21, I t5), (26, .ptr 0 0 0 1), (27, I e.2.1), (28, B e.2.2)], [(0, ⟨25, true, [ar .u64 m5]⟩), (1001, ⟨25, true, [ar .i64 m6]⟩), (2001, ⟨24, true, [ar .u64 m7]⟩), (6002, ⟨5, true, [ar .u64 e.1]⟩), (6003, ⟨25, true, [ar .u64 m9]⟩)]⟩)) (fun e => ?_) (fun s o h => ?_) h
  · simp [alt]
  · obtain ⟨m8, t6⟩ := s
    simp only [i_lanes_permute_2_s] at h
    show Rn tab ow _ _ ⟨[(0, .ptr 0 0 0 1), (2, .ptr 1001 0 0 1), (5, .lit (.int .u64 t3)), (6, .ptr 6002 0 0 1), (7, .ptr 6003 0 0 1), (20, .agg (ar .u64 t4)), (21, I t5), (26, .ptr 0 0 0 1), (27, I t6)], [(0, ⟨25, true, [ar .u64 m5]⟩), (1001, ⟨25, true, [ar .i64 m6]⟩), (2001, ⟨24, true, [ar .u64 m7]⟩), (6002, ⟨5, true, [ar .u64 m8]⟩), (6003, ⟨25, true, [ar .u64 m9]⟩)]⟩ = _
    simp +decide only [b_i_lanes_permute_7, go_sem, reduceIte, Nat.reduceAdd]
    rcases brc h with ⟨hb, h⟩ | ⟨hb, h⟩
    · refine br_t hb ?_
      obtain ⟨hb, h⟩ := brg h
      refine br_t hb ?_
      obtain ⟨x2, h1, h⟩ := bd h
      refine bind_some h1 ?_
      obtain ⟨hb, h⟩ := brg h
      refine br_t hb ?_
      obtain ⟨x3, h1, h⟩ := bd h
      refine bind_some h1 ?_
      obtain ⟨hb, h⟩ := brg h
      refine br_t hb ?_
      obtain ⟨hb, h⟩ := brg h
      refine br_t hb ?_
      obtain rfl := Option.some.inj h
      first | rfl | (simp only [List.length_set, go_sem]; done)
    · refine br_f hb ?_
      obtain rfl := Option.some.inj h
      first | rfl | (simp only [List.length_set, go_sem]; done)
noncomputable def i_lanes_permute_3_s (m10 : List Int) (m11 : List Int) (m12 : List Int) (m13 : List Int) (t7 : Int) (t8 : List Int) (t9 : Int) : (List Int) × Int → Option (((List Int) × Int) ⊕ (((List Int) × Int × Bool)))
  | (m14, t10) =>
    br (decide (t10 < (25 : Int))) (
      br (decide (0 ≤ t10) && decide (t10.toNat < 25)) (
        (m10[t10.toNat]?).bind fun x4 =>
        br (decide (0 ≤ ((IntKind.wrap .i64 ((t10.tmod (5 : Int)) + (4 : Int))).tmod (5 : Int))) && decide (((IntKind.wrap .i64 ((t10.tmod (5 : Int)) + (4 : Int))).tmod (5 : Int)).toNat < 5)) (
          (m13[((IntKind.wrap .i64 ((t10.tmod (5 : Int)) + (4 : Int))).tmod (5 : Int)).toNat]?).bind fun x5 =>
          br (decide (0 ≤ ((IntKind.wrap .i64 ((t10.tmod (5 : Int)) + (1 : Int))).tmod (5 : Int))) && decide (((IntKind.wrap .i64 ((t10.tmod (5 : Int)) + (1 : Int))).tmod (5 : Int)).toNat < 5)) (
            (m13[((IntKind.wrap .i64 ((t10.tmod (5 : Int)) + (1 : Int))).tmod (5 : Int)).toNat]?).bind fun x6 =>
            (math_bits_RotateLeft64 x6 (1 : Int)).bind fun r_ =>
            br (decide (0 ≤ t10) && decide (t10.toNat < 25)) (
              (m11[t10.toNat]?).bind fun x7 =>
              (math_bits_RotateLeft64 (xor64 .u64 x4 (xor64 .u64 x5 r_)) x7).bind fun r_2 =>
              br (decide (0 ≤ (IntKind.wrap .i64 ((IntKind.wrap .i64 (t10.tdiv (5 : Int))) + (IntKind.wrap .i64 ((5 : Int) * ((IntKind.wrap .i64 ((IntKind.wrap .i64 ((2 : Int) * (t10.tmod (5 : Int)))) + (IntKind.wrap .i64 ((3 : Int) * (IntKind.wrap .i64 (t10.tdiv (5 : Int))))))).tmod (5 : Int))))))) && decide ((IntKind.wrap .i64 ((IntKind.wrap .i64 (t10.tdiv (5 : Int))) + (IntKind.wrap .i64 ((5 : Int) * ((IntKind.wrap .i64 ((IntKind.wrap .i64 ((2 : Int) * (t10.tmod (5 : Int)))) + (IntKind.wrap .i64 ((3 : Int) * (IntKind.wrap .i64 (t10.tdiv (5 : Int))))))).tmod (5 : Int)))))).toNat < 25)) (
                br (decide ((IntKind.wrap .i64 ((IntKind.wrap .i64 (t10.tdiv (5 : Int))) + (IntKind.wrap .i64 ((5 : Int) * ((IntKind.wrap .i64 ((IntKind.wrap .i64 ((2 : Int) * (t10.tmod (5 : Int)))) + (IntKind.wrap .i64 ((3 : Int) * (IntKind.wrap .i64 (t10.tdiv (5 : Int))))))).tmod (5 : Int)))))).toNat < m14.length)) (
                  some (.inl ((m14.set ((IntKind.wrap .i64 ((IntKind.wrap .i64 (t10.tdiv (5 : Int))) + (IntKind.wrap .i64 ((5 : Int) * ((IntKind.wrap .i64 ((IntKind.wrap .i64 ((2 : Int) * (t10.tmod (5 : Int)))) + (IntKind.wrap .i64 ((3 : Int) * (IntKind.wrap .i64 (t10.tdiv (5 : Int))))))).tmod (5 : Int)))))).toNat) r_2), (IntKind.wrap .i64 (t10 + (1 : Int)))))) (
                  none)) (
                none)) (
              none)) (
            none)) (
          none)) (
        none)) (
      some (.inr (m14, t10, decide (t10 < (25 : Int)))))
theorem i_lanes_permute_3_l {m10 : List Int} {m11 : List Int} {m12 : List Int} {m13 : List Int} {t7 : Int} {t8 : List Int} {t9 : Int} {m14 : List Int} {t10 : Int} {e : ((List Int) × Int × Bool)} (h : Loop (i_lanes_permute_3_s m10 m11 m12 m13 t7 t8 t9) (m14, t10) = some e) : LoopX tab ow (.close [16011, 17013]) b_i_lanes_permute_12 ⟨[(0, .ptr 0 0 0 1), (2, .ptr 1001 0 0 1), (5, .lit (.int .u64 t7)), (6, .ptr 6002 0 0 1), (7, .ptr 6003 0 0 1), (20, .agg (ar .u64 t8)), (21, I t9), (41, .ptr 0 0 0 1), (42, I t10)], [(0, ⟨25, true, [ar .u64 m10]⟩), (1001, ⟨25, true, [ar .i64 m11]⟩), (2001, ⟨24, true, [ar .u64 m12]⟩), (6002, ⟨5, true, [ar .u64 m13]⟩), (6003, ⟨25, true, [ar .u64 m14]⟩)]⟩ = some ((.exit 4, ⟨[(0, .ptr 0 0 0 1), (2, .ptr 1001 0 0 1), (5, .lit (.int .u64 t7)), (6, .ptr 6002 0 0 1), (7, .ptr 6003 0 0 1), (20, .agg (ar .u64 t8)), (21, I t9), (41, .ptr 0 0 0 1), (42, I e.2.1), (43, B e.2.2)], [(0, ⟨25, true, [ar .u64 m10]⟩), (1001, ⟨25, true, [ar .i64 m11]⟩), (2001, ⟨24, true, [ar .u64 m12]⟩), (6002, ⟨5, true, [ar .u64 m13]⟩), (6003, ⟨25, true, [ar .u64 e.1]⟩)]⟩)) := by
  refine loop_runG (S := (List Int) × Int) (eS := fun s => ⟨[(0, .ptr 0 0 0 1), (2, .ptr 1001 0 0 1), (5, .lit (.int .u64 t7)), (6, .ptr 6002 0 0 1), (7, .ptr 6003 0 0 1), (20, .agg (ar .u64 t8)), (21, I t9), (41, .ptr 0 0 0 1), (42, I s.2)], [(0, ⟨25, true, [ar .u64 m10]⟩), (1001, ⟨25, true, [ar .i64 m11]⟩), (2001, ⟨24, true, [ar .u64 m12]⟩), (6002, ⟨5, true, [ar .u64 m13]⟩), (6003, ⟨25, true, [ar .u64 s.1]⟩)]⟩) (eE := fun e => (.exit 4, ⟨[(0, .ptr 0 0 0 1), (2, .ptr 1001 0 0 1), (5, .lit (.int .u64 t7)), (6, .ptr 6002 0 0 1), (7, .ptr 6003 0 0 1), (20, .agg (ar .u64 t8)), (21, I t9), (41, .ptr 0 0 0 1), (42, I e.2.1), (43, B e.2.2)], [(0, ⟨25, true, [ar .u64 m10]⟩), (1001, ⟨25, true, [ar .i64 m11]⟩), (2001, ⟨24, true, [ar .u64 m12]⟩), (6002, ⟨5, true, [ar .u64 m13]⟩), (6003, ⟨25, true, [ar .u64 e.1]⟩)]⟩)) (fun e => ?_) (fun s o h => ?_) h
  · simp [alt]
  · obtain ⟨m14, t10⟩ := s
    simp only [i_lanes_permute_3_s] at h
    show Rn tab ow _ _ ⟨[(0, .ptr 0 0 0 1), (2, .ptr 1001 0 0 1), (5, .lit (.int .u64 t7)), (6, .ptr 6002 0 0 1), (7, .ptr 6003 0 0 1), (20, .agg (ar .u64 t8)), (21, I t9), (41, .ptr 0 0 0 1), (42, I t10)], [(0, ⟨25, true, [ar .u64 m10]⟩), (1001, ⟨25, true, [ar .i64 m11]⟩), (2001, ⟨24, true, [ar .u64 m12]⟩), (6002, ⟨5, true, [ar .u64 m13]⟩), (6003, ⟨25, true, [ar .u64 m14]⟩)]⟩ = _
    simp +decide only [b_i_lanes_permute_12, go_sem, reduceIte, Nat.reduceAdd]
    rcases brc h with ⟨hb, h⟩ | ⟨hb, h⟩
    · refine br_t hb ?_
      obtain ⟨hb, h⟩ := brg h
      refine br_t hb ?_
      obtain ⟨x4, h1, h⟩ := bd h
      refine bind_some h1 ?_
      obtain ⟨hb, h⟩ := brg h
      refine br_t hb ?_
      obtain ⟨x5, h1, h⟩ := bd h
      refine bind_some h1 ?_
      obtain ⟨hb, h⟩ := brg h
      refine br_t hb ?_
      obtain ⟨x6, h1, h⟩ := bd h
      refine bind_some h1 ?_
      obtain ⟨r_, h1, h⟩ := bd h
      refine call_aftD (math_bits_RotateLeft64_c h1) ?_
      simp +decide only [go_sem, reduceIte, Nat.reduceAdd]
      obtain ⟨hb, h⟩ := brg h
      refine br_t hb ?_
      obtain ⟨x7, h1, h⟩ := bd h
      refine bind_some h1 ?_
      obtain ⟨r_2, h1, h⟩ := bd h
      refine call_aft (math_bits_RotateLeft64_c h1) ?_
      simp +decide only [go_sem, reduceIte, Nat.reduceAdd]
      obtain ⟨hb, h⟩ := brg h
      refine br_t hb ?_
      obtain ⟨hb, h⟩ := brg h
      refine br_t hb ?_
      obtain rfl := Option.some.inj h
      first | rfl | (simp only [List.length_set, go_sem]; done)
    · refine br_f hb ?_
      obtain rfl := Option.some.inj h
      first | rfl | (simp only [List.length_set, go_sem]; done)
noncomputable def i_lanes_permute_4_s (m16 : List Int) (m17 : List Int) (m18 : List Int) (m19 : List Int) (t11 : Int) (t12 : List Int) (t13 : Int) (t14 : List Int) : (List Int) × Int → Option (((List Int) × Int) ⊕ (((List Int) × Int × Bool)))
  | (m15, t15) =>
    br (decide (t15 < (25 : Int))) (
      br (decide (0 ≤ t15) && decide (t15.toNat < 25)) (
        (t14[t15.toNat]?).bind fun x8 =>
        br (decide (0 ≤ (IntKind.wrap .i64 ((IntKind.wrap .i64 (t15 - (t15.tmod (5 : Int)))) + ((IntKind.wrap .i64 ((t15.tmod (5 : Int)) + (2 : Int))).tmod (5 : Int))))) && decide ((IntKind.wrap .i64 ((IntKind.wrap .i64 (t15 - (t15.tmod (5 : Int)))) + ((IntKind.wrap .i64 ((t15.tmod (5 : Int)) + (2 : Int))).tmod (5 : Int)))).toNat < 25)) (
          (m19[(IntKind.wrap .i64 ((IntKind.wrap .i64 (t15 - (t15.tmod (5 : Int)))) + ((IntKind.wrap .i64 ((t15.tmod (5 : Int)) + (2 : Int))).tmod (5 : Int)))).toNat]?).bind fun x9 =>
          br (decide (0 ≤ (IntKind.wrap .i64 ((IntKind.wrap .i64 (t15 - (t15.tmod (5 : Int)))) + ((IntKind.wrap .i64 ((t15.tmod (5 : Int)) + (1 : Int))).tmod (5 : Int))))) && decide ((IntKind.wrap .i64 ((IntKind.wrap .i64 (t15 - (t15.tmod (5 : Int)))) + ((IntKind.wrap .i64 ((t15.tmod (5 : Int)) + (1 : Int))).tmod (5 : Int)))).toNat < 25)) (
            (m19[(IntKind.wrap .i64 ((IntKind.wrap .i64 (t15 - (t15.tmod (5 : Int)))) + ((IntKind.wrap .i64 ((t15.tmod (5 : Int)) + (1 : Int))).tmod (5 : Int)))).toNat]?).bind fun x10 =>
            br (decide (0 ≤ t15) && decide (t15.toNat < 25)) (
              br (decide (t15.toNat < m15.length)) (
                some (.inl ((m15.set t15.toNat (xor64 .u64 x8 (andn64 .u64 x9 x10))), (IntKind.wrap .i64 (t15 + (1 : Int)))))) (
                none)) (
              none)) (
            none)) (
          none)) (
        none)) (
      some (.inr (m15, t15, decide (t15 < (25 : Int)))))
theorem i_lanes_permute_4_l {m16 : List Int} {m17 : List Int} {m18 : List Int} {m19 : List Int} {t11 : Int} {t12 : List Int} {t13 : Int} {t14 : List Int} {m15 : List Int} {t15 : Int} {e : ((List Int) × Int × Bool)} (h : Loop (i_lanes_permute_4_s m16 m17 m18 m19 t11 t12 t13 t14) (m15, t15) = some e) : LoopX tab ow (.close []) b_i_lanes_permute_19 ⟨[(0, .ptr 0 0 0 1), (2, .ptr 1001 0 0 1), (5, .lit (.int .u64 t11)), (7, .ptr 6003 0 0 1), (20, .agg (ar .u64 t12)), (21, I t13), (82, .agg (ar .u64 t14)), (83, I t15)], [(0, ⟨25, true, [ar .u64 m15]⟩), (1001, ⟨25, true, [ar .i64 m16]⟩), (2001, ⟨24, true, [ar .u64 m17]⟩), (6002, ⟨5, true, [ar .u64 m18]⟩), (6003, ⟨25, true, [ar .u64 m19]⟩)]⟩ = some ((.exit 6, ⟨[(0, .ptr 0 0 0 1), (2, .ptr 1001 0 0 1), (5, .lit (.int .u64 t11)), (7, .ptr 6003 0 0 1), (20, .agg (ar .u64 t12)), (21, I t13), (82, .agg (ar .u64 t14)), (83, I e.2.1), (84, B e.2.2)], [(0, ⟨25, true, [ar .u64 e.1]⟩), (1001, ⟨25, true, [ar .i64 m16]⟩), (2001, ⟨24, true, [ar .u64 m17]⟩), (6002, ⟨5, true, [ar .u64 m18]⟩), (6003, ⟨25, true, [ar .u64 m19]⟩)]⟩)) := by
  refine loop_runG (S := (List Int) × Int) (eS := fun s => ⟨[(0, .ptr 0 0 0 1), (2, .ptr 1001 0 0 1), (5, .lit (.int .u64 t11)), (7, .ptr 6003 0 0 1), (20, .agg (ar .u64 t12)), (21, I t13), (82, .agg (ar .u64 t14)), (83, I s.2)], [(0, ⟨25, true, [ar .u64 s.1]⟩), (1001, ⟨25, true, [ar .i64 m16]⟩), (2001, ⟨24, true, [ar .u64 m17]⟩), (6002, ⟨5, true, [ar .u64 m18]⟩), (6003, ⟨25, true, [ar .u64 m19]⟩)]⟩) (eE := fun e => (.exit 6, ⟨[(0, .ptr 0 0 0 1), (2, .ptr 1001 0 0 1), (5, .lit (.int .u64 t11)), (7, .ptr 6003 0 0 1), (20, .agg (ar .u64 t12)), (21, I t13), (82, .agg (ar .u64 t14)), (83, I e.2.1), (84, B e.2.2)], [(0, ⟨25, true, [ar .u64 e.1]⟩), (1001, ⟨25, true, [ar .i64 m16]⟩), (2001, ⟨24, true, [ar .u64 m17]⟩), (6002, ⟨5, true, [ar .u64 m18]⟩), (6003, ⟨25, true, [ar .u64 m19]⟩)]⟩)) (fun e => ?_) (fun s o h => ?_) h
  · simp [alt]
  · obtain ⟨m15, t15⟩ := s
    simp only [i_lanes_permute_4_s] at h
    show Rn tab ow _ _ ⟨[(0, .ptr 0 0 0 1), (2, .ptr 1001 0 0 1), (5, .lit (.int .u64 t11)), (7, .ptr 6003 0 0 1), (20, .agg (ar .u64 t12)), (21, I t13), (82, .agg (ar .u64 t14)), (83, I t15)], [(0, ⟨25, true, [ar .u64 m15]⟩), (1001, ⟨25, true, [ar .i64 m16]⟩), (2001, ⟨24, true, [ar .u64 m17]⟩), (6002, ⟨5, true, [ar .u64 m18]⟩), (6003, ⟨25, true, [ar .u64 m19]⟩)]⟩ = _
    simp +decide only [b_i_lanes_permute_19, go_sem, reduceIte, Nat.reduceAdd]
    rcases brc h with ⟨hb, h⟩ | ⟨hb, h⟩
    · refine br_t hb ?_
      obtain ⟨hb, h⟩ := brg h
      refine br_t hb ?_
      obtain ⟨x8, h1, h⟩ := bd h
      refine bind_some h1 ?_
      obtain ⟨hb, h⟩ := brg h
      refine br_t hb ?_
      obtain ⟨x9, h1, h⟩ := bd h
      refine bind_some h1 ?_
      obtain ⟨hb, h⟩ := brg h
      refine br_t hb ?_
      obtain ⟨x10, h1, h⟩ := bd h
      refine bind_some h1 ?_
      obtain ⟨hb, h⟩ := brg h
      refine br_t hb ?_
      obtain ⟨hb, h⟩ := brg h
      refine br_t hb ?_
      obtain rfl := Option.some.inj h
      first | rfl | (simp only [List.length_set, go_sem]; done)
    · refine br_f hb ?_
      obtain rfl := Option.some.inj h
      first | rfl | (simp only [List.length_set, go_sem]; done)
noncomputable def i_lanes_permute_1_s (m3 : List Int) (m4 : List Int) (t : List Int) : (List Int) × Int → Option (((List Int) × Int) ⊕ (((List Int) × Int × Bool)))
  | (m2, t2) =>
    br (decide (t2 < (24 : Int))) (
      br (decide (0 ≤ t2) && decide (t2.toNat < 24)) (
        (t[t2.toNat]?).bind fun x =>
        (Loop (i_lanes_permute_2_s m2 m3 m4 (nZ 25) x t t2) ((nZ 5), (0 : Int))).bind fun e_ =>
        (Loop (i_lanes_permute_3_s m2 m3 m4 e_.1 x t t2) ((nZ 25), (0 : Int))).bind fun e_2 =>
        br (decide (e_2.1.length = 25)) (
          (Loop (i_lanes_permute_4_s m3 m4 e_.1 e_2.1 x t t2 e_2.1) (m2, (0 : Int))).bind fun e_3 =>
          (e_3.1[0]?).bind fun x11 =>
          br (decide (0 < e_3.1.length)) (
            some (.inl ((e_3.1.set 0 (xor64 .u64 x11 x)), (IntKind.wrap .i64 (t2 + (1 : Int)))))) (
            none)) (
          none)) (
        none)) (
      some (.inr (m2, t2, decide (t2 < (24 : Int)))))
theorem i_lanes_permute_1_l {m3 : List Int} {m4 : List Int} {t : List Int} {m2 : List Int} {t2 : Int} {e : ((List Int) × Int × Bool)} (h : Loop (i_lanes_permute_1_s m3 m4 t) (m2, t2) = some e) : LoopX tab ow (.close [6002, 6003, 16011, 17013]) b_i_lanes_permute_3 ⟨[(0, .ptr 0 0 0 1), (2, .ptr 1001 0 0 1), (20, .agg (ar .u64 t)), (21, I t2)], [(0, ⟨25, true, [ar .u64 m2]⟩), (1001, ⟨25, true, [ar .i64 m3]⟩), (2001, ⟨24, true, [ar .u64 m4]⟩)]⟩ = some ((.exit 0, ⟨[(0, .ptr 0 0 0 1), (2, .ptr 1001 0 0 1), (20, .agg (ar .u64 t)), (21, I e.2.1), (22, B e.2.2)], [(0, ⟨25, true, [ar .u64 e.1]⟩), (1001, ⟨25, true, [ar .i64 m3]⟩), (2001, ⟨24, true, [ar .u64 m4]⟩)]⟩)) := by
  refine loop_runG (S := (List Int) × Int) (eS := fun s => ⟨[(0, .ptr 0 0 0 1), (2, .ptr 1001 0 0 1), (20, .agg (ar .u64 t)), (21, I s.2)], [(0, ⟨25, true, [ar .u64 s.1]⟩), (1001, ⟨25, true, [ar .i64 m3]⟩), (2001, ⟨24, true, [ar .u64 m4]⟩)]⟩) (eE := fun e => (.exit 0, ⟨[(0, .ptr 0 0 0 1), (2, .ptr 1001 0 0 1), (20, .agg (ar .u64 t)), (21, I e.2.1), (22, B e.2.2)], [(0, ⟨25, true, [ar .u64 e.1]⟩), (1001, ⟨25, true, [ar .i64 m3]⟩), (2001, ⟨24, true, [ar .u64 m4]⟩)]⟩)) (fun e => ?_) (fun s o h => ?_) h
  · simp [alt]
  · obtain ⟨m2, t2⟩ := s
    simp only [i_lanes_permute_1_s] at h
    show Rn tab ow _ _ ⟨[(0, .ptr 0 0 0 1), (2, .ptr 1001 0 0 1), (20, .agg (ar .u64 t)), (21, I t2)], [(0, ⟨25, true, [ar .u64 m2]⟩), (1001, ⟨25, true, [ar .i64 m3]⟩), (2001, ⟨24, true, [ar .u64 m4]⟩)]⟩ = _
    simp +decide only [b_i_lanes_permute_3, go_sem, reduceIte, Nat.reduceAdd]
    rcases brc h with ⟨hb, h⟩ | ⟨hb, h⟩
    · refine br_t hb ?_
      obtain ⟨hb, h⟩ := brg h
      refine br_t hb ?_
      obtain ⟨x, h1, h⟩ := bd h
      refine bind_some h1 ?_
      obtain ⟨e_, h1, h⟩ := bd h
      refine goR_of (i_lanes_permute_2_l h1) ?_
      simp +decide only [go_sem, reduceIte, Nat.reduceAdd]
      obtain ⟨e_2, h1, h⟩ := bd h
      refine goR_of (i_lanes_permute_3_l h1) ?_
      simp +decide only [go_sem, reduceIte, Nat.reduceAdd]
      obtain ⟨hb, h⟩ := brg h
      refine br_t hb ?_
      obtain ⟨e_3, h1, h⟩ := bd h
      refine goR_of (i_lanes_permute_4_l h1) ?_
      simp +decide only [go_sem, reduceIte, Nat.reduceAdd]
      obtain ⟨x11, h1, h⟩ := bd h
      refine bind_some h1 ?_
      obtain ⟨hb, h⟩ := brg h
      refine br_t hb ?_
      obtain rfl := Option.some.inj h
      first | rfl | (simp only [List.length_set, go_sem]; done)
    · refine br_f hb ?_
      obtain rfl := Option.some.inj h
      first | rfl | (simp only [List.length_set, go_sem]; done)
noncomputable def i_lanes_permute (m : List Int) : Option ((List Int)) :=
  (Loop (i_lanes_permute_1_s ([0, 1, 62, 28, 27, 36, 44, 6, 55, 20, 3, 10, 43, 25, 39, 41, 45, 15, 21, 8, 18, 2, 61, 56, 14] : List Int) ([1, 32898, 9223372036854808714, 9223372039002292224, 32907, 2147483649, 9223372039002292353, 9223372036854808585, 138, 136, 2147516425, 2147483658, 2147516555, 9223372036854775947, 9223372036854808713, 9223372036854808579, 9223372036854808578, 9223372036854775936, 32778, 9223372039002259466, 9223372039002292353, 9223372036854808704, 2147483649, 9223372039002292232] : List Int) ([1, 32898, 9223372036854808714, 9223372039002292224, 32907, 2147483649, 9223372039002292353, 9223372036854808585, 138, 136, 2147516425, 2147483658, 2147516555, 9223372036854775947, 9223372036854808713, 9223372036854808579, 9223372036854808578, 9223372036854775936, 32778, 9223372039002259466, 9223372039002292353, 9223372036854808704, 2147483649, 9223372039002292232] : List Int)) (m, (0 : Int))).bind fun e_4 =>
  some e_4.1
theorem i_lanes_permute_c {m : List Int} {r : (List Int)} (h : i_lanes_permute m = some r) : Call tab ow 249 [.ptr 0 0 0 1] [⟨25, true, [ar .u64 m]⟩] = some (.tup [], [⟨25, true, [ar .u64 r]⟩]) := by
  rw [run_i_lanes_permute]
  unfold i_lanes_permute at h
  simp +decide only [b_i_lanes_permute, go_sem, reduceIte, Nat.reduceAdd]
  obtain ⟨e_4, h1, h⟩ := bd h
  refine goR_of (i_lanes_permute_1_l h1) ?_
  simp +decide only [go_sem, reduceIte, Nat.reduceAdd]
  obtain rfl := Option.some.inj h
  first | rfl | (simp only [List.length_set, go_sem]; done)
section
theorem i_lanes_text_k0 : mkR 2000 [] = rws eU8 [] := rfl
attribute [local go_sem] i_lanes_text_k0
theorem i_lanes_text_k1 : mkR 6012 [] = rws eU8 [] := rfl
attribute [local go_sem] i_lanes_text_k1
noncomputable def i_lanes_text_1_s (m2 : List Int) : (List UInt8) × Int → Option (((List UInt8) × Int) ⊕ (((List UInt8) × Int × Bool)))
  | (l, t) =>
    br (decide (t < (200 : Int))) (
      br (decide (0 ≤ (IntKind.wrap .i64 (t.tdiv (8 : Int)))) && decide ((IntKind.wrap .i64 (t.tdiv (8 : Int))).toNat < 25)) (
        (m2[(IntKind.wrap .i64 (t.tdiv (8 : Int))).toNat]?).bind fun x =>
        br (decide (0 ≤ (IntKind.wrap .i64 ((8 : Int) * (t.tmod (8 : Int)))))) (
          br (fits ((l ++ ([(UInt8.ofInt (shr64 .u64 x (IntKind.wrap .i64 ((8 : Int) * (t.tmod (8 : Int))))))] : List UInt8)).length) 1) (
            some (.inl ((l ++ ([(UInt8.ofInt (shr64 .u64 x (IntKind.wrap .i64 ((8 : Int) * (t.tmod (8 : Int))))))] : List UInt8)), (IntKind.wrap .i64 (t + (1 : Int)))))) (
            none)) (
          none)) (
        none)) (
      some (.inr (l, t, decide (t < (200 : Int)))))
theorem i_lanes_text_1_l {m2 : List Int} {l : List UInt8} {t : Int} {e : ((List UInt8) × Int × Bool)} (h : Loop (i_lanes_text_1_s m2) (l, t) = some e) : LoopX tab ow (.close [6012, 6013]) b_i_lanes_text_3 ⟨[(0, .ptr 0 0 0 1), (3, .sl 2000 0 l.length), (6, I t)], [(0, ⟨25, true, [ar .u64 m2]⟩), (2000, ⟨1, false, rws eU8 l⟩)]⟩ = some ((.exit 0, ⟨[(0, .ptr 0 0 0 1), (3, .sl 2000 0 e.1.length), (6, I e.2.1), (7, B e.2.2)], [(0, ⟨25, true, [ar .u64 m2]⟩), (2000, ⟨1, false, rws eU8 e.1⟩)]⟩)) := by
  refine loop_runG (S := (List UInt8) × Int) (eS := fun s => ⟨[(0, .ptr 0 0 0 1), (3, .sl 2000 0 s.1.length), (6, I s.2)], [(0, ⟨25, true, [ar .u64 m2]⟩), (2000, ⟨1, false, rws eU8 s.1⟩)]⟩) (eE := fun e => (.exit 0, ⟨[(0, .ptr 0 0 0 1), (3, .sl 2000 0 e.1.length), (6, I e.2.1), (7, B e.2.2)], [(0, ⟨25, true, [ar .u64 m2]⟩), (2000, ⟨1, false, rws eU8 e.1⟩)]⟩)) (fun e => ?_) (fun s o h => ?_) h
  · simp [alt]
  · obtain ⟨l, t⟩ := s
    simp only [i_lanes_text_1_s] at h
    show Rn tab ow _ _ ⟨[(0, .ptr 0 0 0 1), (3, .sl 2000 0 l.length), (6, I t)], [(0, ⟨25, true, [ar .u64 m2]⟩), (2000, ⟨1, false, rws eU8 l⟩)]⟩ = _
    simp +decide only [b_i_lanes_text_3, go_sem, reduceIte, Nat.reduceAdd]
    rcases brc h with ⟨hb, h⟩ | ⟨hb, h⟩
    · refine br_t hb ?_
      obtain ⟨hb, h⟩ := brg h
      refine br_t hb ?_
      obtain ⟨x, h1, h⟩ := bd h
      refine bind_some h1 ?_
      obtain ⟨hb, h⟩ := brg h
      refine br_t hb ?_
      obtain ⟨hb, h⟩ := brg h
      refine br_t hb ?_
      obtain rfl := Option.some.inj h
      first | rfl | (simp only [List.length_set, go_sem]; done)
    · refine br_f hb ?_
      obtain rfl := Option.some.inj h
      first | rfl | (simp only [List.length_set, go_sem]; done)
noncomputable def i_lanes_text (m : List Int) : Option ((List UInt8) × (List Int)) :=
  (Loop (i_lanes_text_1_s m) (([] : List UInt8), (0 : Int))).bind fun e_ =>
  some (e_.1, m)
theorem i_lanes_text_c {m : List Int} {r : (List UInt8) × (List Int)} (h : i_lanes_text m = some r) : Call tab ow 250 [.ptr 0 0 0 1] [⟨25, true, [ar .u64 m]⟩] = some (sl eU8 r.1, [⟨25, true, [ar .u64 r.2]⟩]) := by
  rw [run_i_lanes_text]
  unfold i_lanes_text at h
  simp +decide only [b_i_lanes_text, go_sem, reduceIte, Nat.reduceAdd]
  obtain ⟨e_, h1, h⟩ := bd h
  refine goR_of (i_lanes_text_1_l h1) ?_
  simp +decide only [go_sem, reduceIte, Nat.reduceAdd]
  obtain rfl := Option.some.inj h
  first | rfl | (simp only [List.length_set, go_sem]; done)
end
section
theorem i_keccak_k0 : mkR 2000 [] = rws eU8 [] := rfl
attribute [local go_sem] i_keccak_k0
theorem i_keccak_k1 : mkR 8001 [] = rws eU8 [] := rfl
attribute [local go_sem] i_keccak_k1
theorem i_keccak_k2 : mkR 10001 [] = rws eU8 [] := rfl
attribute [local go_sem] i_keccak_k2
noncomputable def i_keccak_1_s (t : List (List UInt8)) (t2 : Int) : (List UInt8) × Int → Option (((List UInt8) × Int) ⊕ (((List UInt8) × Int × Bool)))
  | (l, t3) =>
    br (decide (t3 < t2)) (
      (atL t t3).bind fun x =>
      br (fits ((l ++ x).length) 1) (
        some (.inl ((l ++ x), (IntKind.wrap .i64 (t3 + (1 : Int)))))) (
        none)) (
      some (.inr (l, t3, decide (t3 < t2))))
theorem i_keccak_1_l {t : List (List UInt8)} {t2 : Int} {l : List UInt8} {t3 : Int} {e : ((List UInt8) × Int × Bool)} (h : Loop (i_keccak_1_s t t2) (l, t3) = some e) : LoopX tab ow (.close [6002]) b_i_keccak_3 ⟨[(3, .sl 2000 0 l.length), (10, sl (eL eU8) t), (11, I t2), (12, I t3)], [(2000, ⟨1, false, rws eU8 l⟩)]⟩ = some ((.exit 0, ⟨[(3, .sl 2000 0 e.1.length), (10, sl (eL eU8) t), (11, I t2), (12, I e.2.1), (13, B e.2.2)], [(2000, ⟨1, false, rws eU8 e.1⟩)]⟩)) := by
  refine loop_runG (S := (List UInt8) × Int) (eS := fun s => ⟨[(3, .sl 2000 0 s.1.length), (10, sl (eL eU8) t), (11, I t2), (12, I s.2)], [(2000, ⟨1, false, rws eU8 s.1⟩)]⟩) (eE := fun e => (.exit 0, ⟨[(3, .sl 2000 0 e.1.length), (10, sl (eL eU8) t), (11, I t2), (12, I e.2.1), (13, B e.2.2)], [(2000, ⟨1, false, rws eU8 e.1⟩)]⟩)) (fun e => ?_) (fun s o h => ?_) h
  · simp [alt]
  · obtain ⟨l, t3⟩ := s
    simp only [i_keccak_1_s] at h
    show Rn tab ow _ _ ⟨[(3, .sl 2000 0 l.length), (10, sl (eL eU8) t), (11, I t2), (12, I t3)], [(2000, ⟨1, false, rws eU8 l⟩)]⟩ = _
    simp +decide only [b_i_keccak_3, go_sem, reduceIte, Nat.reduceAdd]
    rcases brc h with ⟨hb, h⟩ | ⟨hb, h⟩
    · refine br_t hb ?_
      obtain ⟨x, h1, h⟩ := bd h
      refine bind_some h1 ?_
      obtain ⟨hb, h⟩ := brg h
      refine br_t hb ?_
      obtain rfl := Option.some.inj h
      first | rfl | (simp only [List.length_set, go_sem]; done)
    · refine br_f hb ?_
      obtain rfl := Option.some.inj h
      first | rfl | (simp only [List.length_set, go_sem]; done)
noncomputable def i_keccak_2_s (l3 : List UInt8) : (List UInt8) → Option (((List UInt8)) ⊕ (((List UInt8) × Bool)))
  | l2 =>
    br ((((l2.length : Nat) : Int).tmod (136 : Int)) != (0 : Int)) (
      br (fits ((l2 ++ ([(0 : UInt8)] : List UInt8)).length) 1) (
        some (.inl (l2 ++ ([(0 : UInt8)] : List UInt8)))) (
        none)) (
      some (.inr (l2, ((((l2.length : Nat) : Int).tmod (136 : Int)) != (0 : Int)))))
theorem i_keccak_2_l {l3 : List UInt8} {l2 : List UInt8} {e : ((List UInt8) × Bool)} (h : Loop (i_keccak_2_s l3) l2 = some e) : LoopX tab ow (.close [10001, 10002]) b_i_keccak_8 ⟨[(3, .sl 2000 0 l2.length)], [(2000, ⟨1, false, rws eU8 l2⟩), (8001, ⟨1, false, rws eU8 l3⟩)]⟩ = some ((.exit 2, ⟨[(3, .sl 2000 0 e.1.length), (26, B e.2)], [(2000, ⟨1, false, rws eU8 e.1⟩), (8001, ⟨1, false, rws eU8 l3⟩)]⟩)) := by
  refine loop_runG (S := (List UInt8)) (eS := fun s => ⟨[(3, .sl 2000 0 s.length)], [(2000, ⟨1, false, rws eU8 s⟩), (8001, ⟨1, false, rws eU8 l3⟩)]⟩) (eE := fun e => (.exit 2, ⟨[(3, .sl 2000 0 e.1.length), (26, B e.2)], [(2000, ⟨1, false, rws eU8 e.1⟩), (8001, ⟨1, false, rws eU8 l3⟩)]⟩)) (fun e => ?_) (fun l2 o h => ?_) h
  · simp [alt]
  · skip
    simp only [i_keccak_2_s] at h
    show Rn tab ow _ _ ⟨[(3, .sl 2000 0 l2.length)], [(2000, ⟨1, false, rws eU8 l2⟩), (8001, ⟨1, false, rws eU8 l3⟩)]⟩ = _
    simp +decide only [b_i_keccak_8, go_sem, reduceIte, Nat.reduceAdd]
    rcases brc h with ⟨hb, h⟩ | ⟨hb, h⟩
    · refine br_t hb ?_
      obtain ⟨hb, h⟩ := brg h
      refine br_t hb ?_
      obtain rfl := Option.some.inj h
      first | rfl | (simp only [List.length_set, go_sem]; done)
    · refine br_f hb ?_
      obtain rfl := Option.some.inj h
      first | rfl | (simp only [List.length_set, go_sem]; done)
noncomputable def i_keccak_4_s (l5 : List UInt8) (all2 : List UInt8) (t4 : List Int) : (List Int) × Int → Option (((List Int) × Int) ⊕ (((List Int) × Int × Bool)))
  | (m2, t5) =>
    br (decide (t5 < (25 : Int))) (
      br (decide (0 ≤ t5) && decide (t5.toNat < 25)) (
        (t4[t5.toNat]?).bind fun x4 =>
        br (decide (0 ≤ t5) && decide (t5.toNat < 25)) (
          (m2[t5.toNat]?).bind fun x5 =>
          br (decide (0 ≤ t5) && decide (t5.toNat < 25)) (
            br (decide (t5.toNat < m2.length)) (
              some (.inl ((m2.set t5.toNat (xor64 .u64 x5 x4)), (IntKind.wrap .i64 (t5 + (1 : Int)))))) (
              none)) (
            none)) (
          none)) (
        none)) (
      some (.inr (m2, t5, decide (t5 < (25 : Int)))))
theorem i_keccak_4_l {l5 : List UInt8} {all2 : List UInt8} {t4 : List Int} {m2 : List Int} {t5 : Int} {e : ((List Int) × Int × Bool)} (h : Loop (i_keccak_4_s l5 all2 t4) (m2, t5) = some e) : LoopX tab ow (.close []) b_i_keccak_15 ⟨[(3, sl eU8 all2), (6, .ptr 12001 0 0 1), (46, .agg (ar .u64 t4)), (47, I t5)], [(8001, ⟨1, false, rws eU8 l5⟩), (12001, ⟨25, true, [ar .u64 m2]⟩)]⟩ = some ((.exit 6, ⟨[(3, sl eU8 all2), (6, .ptr 12001 0 0 1), (46, .agg (ar .u64 t4)), (47, I e.2.1), (48, B e.2.2)], [(8001, ⟨1, false, rws eU8 l5⟩), (12001, ⟨25, true, [ar .u64 e.1]⟩)]⟩)) := by
  refine loop_runG (S := (List Int) × Int) (eS := fun s => ⟨[(3, sl eU8 all2), (6, .ptr 12001 0 0 1), (46, .agg (ar .u64 t4)), (47, I s.2)], [(8001, ⟨1, false, rws eU8 l5⟩), (12001, ⟨25, true, [ar .u64 s.1]⟩)]⟩) (eE := fun e => (.exit 6, ⟨[(3, sl eU8 all2), (6, .ptr 12001 0 0 1), (46, .agg (ar .u64 t4)), (47, I e.2.1), (48, B e.2.2)], [(8001, ⟨1, false, rws eU8 l5⟩), (12001, ⟨25, true, [ar .u64 e.1]⟩)]⟩)) (fun e => ?_) (fun s o h => ?_) h
  · simp [alt]
  · obtain ⟨m2, t5⟩ := s
    simp only [i_keccak_4_s] at h
    show Rn tab ow _ _ ⟨[(3, sl eU8 all2), (6, .ptr 12001 0 0 1), (46, .agg (ar .u64 t4)), (47, I t5)], [(8001, ⟨1, false, rws eU8 l5⟩), (12001, ⟨25, true, [ar .u64 m2]⟩)]⟩ = _
    simp +decide only [b_i_keccak_15, go_sem, reduceIte, Nat.reduceAdd]
    rcases brc h with ⟨hb, h⟩ | ⟨hb, h⟩
    · refine br_t hb ?_
      obtain ⟨hb, h⟩ := brg h
      refine br_t hb ?_
      obtain ⟨x4, h1, h⟩ := bd h
      refine bind_some h1 ?_
      obtain ⟨hb, h⟩ := brg h
      refine br_t hb ?_
      obtain ⟨x5, h1, h⟩ := bd h
      refine bind_some h1 ?_
      obtain ⟨hb, h⟩ := brg h
      refine br_t hb ?_
      obtain ⟨hb, h⟩ := brg h
      refine br_t hb ?_
      obtain rfl := Option.some.inj h
      first | rfl | (simp only [List.length_set, go_sem]; done)
    · refine br_f hb ?_
      obtain rfl := Option.some.inj h
      first | rfl | (simp only [List.length_set, go_sem]; done)
noncomputable def i_keccak_3_s (l4 : List UInt8) : (List Int) × (List UInt8) → Option (((List Int) × (List UInt8)) ⊕ (((List Int) × (List UInt8) × Bool)))
  | (m, all) =>
    br (decide (((all.length : Nat) : Int) > (0 : Int))) (
      (subL all (0 : Int) (136 : Int)).bind fun y =>
      (i_lanesOf y).bind fun r_ =>
      (Loop (i_keccak_4_s l4 all r_) (m, (0 : Int))).bind fun e_3 =>
      (i_lanes_permute e_3.1).bind fun r_2 =>
      (subL all (136 : Int) ((all.length : Nat) : Int)).bind fun y2 =>
      some (.inl (r_2, y2))) (
      some (.inr (m, all, decide (((all.length : Nat) : Int) > (0 : Int)))))
theorem i_keccak_3_l {l4 : List UInt8} {m : List Int} {all : List UInt8} {e : ((List Int) × (List UInt8) × Bool)} (h : Loop (i_keccak_3_s l4) (m, all) = some e) : LoopX tab ow (.close [15002, 20000, 2000]) b_i_keccak_12 ⟨[(3, sl eU8 all), (6, .ptr 12001 0 0 1)], [(8001, ⟨1, false, rws eU8 l4⟩), (12001, ⟨25, true, [ar .u64 m]⟩)]⟩ = some ((.exit 4, ⟨[(3, sl eU8 e.2.1), (6, .ptr 12001 0 0 1), (41, B e.2.2)], [(8001, ⟨1, false, rws eU8 l4⟩), (12001, ⟨25, true, [ar .u64 e.1]⟩)]⟩)) := by
  refine loop_runG (S := (List Int) × (List UInt8)) (eS := fun s => ⟨[(3, sl eU8 s.2), (6, .ptr 12001 0 0 1)], [(8001, ⟨1, false, rws eU8 l4⟩), (12001, ⟨25, true, [ar .u64 s.1]⟩)]⟩) (eE := fun e => (.exit 4, ⟨[(3, sl eU8 e.2.1), (6, .ptr 12001 0 0 1), (41, B e.2.2)], [(8001, ⟨1, false, rws eU8 l4⟩), (12001, ⟨25, true, [ar .u64 e.1]⟩)]⟩)) (fun e => ?_) (fun s o h => ?_) h
  · simp [alt]
  · obtain ⟨m, all⟩ := s
    simp only [i_keccak_3_s] at h
    show Rn tab ow _ _ ⟨[(3, sl eU8 all), (6, .ptr 12001 0 0 1)], [(8001, ⟨1, false, rws eU8 l4⟩), (12001, ⟨25, true, [ar .u64 m]⟩)]⟩ = _
    simp +decide only [b_i_keccak_12, go_sem, reduceIte, Nat.reduceAdd]
    rcases brc h with ⟨hb, h⟩ | ⟨hb, h⟩
    · refine br_t hb ?_
      obtain ⟨y, h1, h⟩ := bd h
      refine bind_some h1 ?_
      obtain ⟨r_, h1, h⟩ := bd h
      refine call_aft (i_lanesOf_c h1) ?_
      simp +decide only [go_sem, reduceIte, Nat.reduceAdd]
      obtain ⟨e_3, h1, h⟩ := bd h
      refine goR_of (i_keccak_4_l h1) ?_
      simp +decide only [go_sem, reduceIte, Nat.reduceAdd]
      obtain ⟨r_2, h1, h⟩ := bd h
      refine call_aft (i_lanes_permute_c h1) ?_
      simp +decide only [go_sem, reduceIte, Nat.reduceAdd]
      obtain ⟨y2, h1, h⟩ := bd h
      refine bind_some h1 ?_
      obtain rfl := Option.some.inj h
      first | rfl | (simp only [List.length_set, go_sem]; done)
    · refine br_f hb ?_
      obtain rfl := Option.some.inj h
      first | rfl | (simp only [List.length_set, go_sem]; done)
noncomputable def i_keccak (pieces : (List (List UInt8))) : Option ((List UInt8)) :=
  (Loop (i_keccak_1_s pieces ((pieces.length : Nat) : Int)) (([] : List UInt8), (0 : Int))).bind fun e_ =>
  br (fits ((e_.1 ++ ([(1 : UInt8)] : List UInt8)).length) 1) (
    (Loop (i_keccak_2_s ([(1 : UInt8)] : List UInt8)) (e_.1 ++ ([(1 : UInt8)] : List UInt8))).bind fun e_2 =>
    br (decide (0 ≤ (IntKind.wrap .i64 (((e_2.1.length : Nat) : Int) - (1 : Int))))) (
      br (decide ((IntKind.wrap .i64 (((e_2.1.length : Nat) : Int) - (1 : Int))).toNat < e_2.1.length)) (
        (e_2.1[(IntKind.wrap .i64 (((e_2.1.length : Nat) : Int) - (1 : Int))).toNat]?).bind fun x2 =>
        br (decide (0 ≤ (IntKind.wrap .i64 (((e_2.1.length : Nat) : Int) - (1 : Int))))) (
          br (decide ((IntKind.wrap .i64 (((e_2.1.length : Nat) : Int) - (1 : Int))).toNat < e_2.1.length)) (
            (e_2.1[(IntKind.wrap .i64 (((e_2.1.length : Nat) : Int) - (1 : Int))).toNat]?).bind fun x3 =>
            (Loop (i_keccak_3_s ([(1 : UInt8)] : List UInt8)) ((nZ 25), (e_2.1.set ((IntKind.wrap .i64 (((e_2.1.length : Nat) : Int) - (1 : Int))).toNat) (UInt8.ofInt (or64 .u8 (x2.toNat : Int) (128 : Int)))))).bind fun e_4 =>
            (i_lanes_text e_4.1).bind fun r_3 =>
            (subL r_3.1 (0 : Int) (32 : Int)).bind fun y3 =>
            some y3) (
            none)) (
          none)) (
        none)) (
      none)) (
    none)
theorem i_keccak_c {pieces : (List (List UInt8))} {r : (List UInt8)} (h : i_keccak pieces = some r) : Call tab ow 168 [sl (eL eU8) pieces] [] = some (S r, []) := by
  rw [run_i_keccak]
  unfold i_keccak at h
  simp +decide only [b_i_keccak, go_sem, reduceIte, Nat.reduceAdd]
  obtain ⟨e_, h1, h⟩ := bd h
  refine goR_of (i_keccak_1_l h1) ?_
  simp +decide only [go_sem, reduceIte, Nat.reduceAdd]
  obtain ⟨hb, h⟩ := brg h
  refine br_t hb ?_
  obtain ⟨e_2, h1, h⟩ := bd h
  refine goR_of (i_keccak_2_l h1) ?_
  simp +decide only [go_sem, reduceIte, Nat.reduceAdd]
  obtain ⟨hb, h⟩ := brg h
  refine br_t hb ?_
  obtain ⟨hb, h⟩ := brg h
  refine br_t hb ?_
  obtain ⟨x2, h1, h⟩ := bd h
  refine bind_some h1 ?_
  obtain ⟨hb, h⟩ := brg h
  refine br_t hb ?_
  obtain ⟨hb, h⟩ := brg h
  refine br_t hb ?_
  obtain ⟨x3, h1, h⟩ := bd h
  refine bind_some h1 ?_
  obtain ⟨e_4, h1, h⟩ := bd h
  have h2 := i_keccak_3_l h1
  try simp only [List.length_set] at h2
  refine goR_of h2 ?_
  simp +decide only [go_sem, reduceIte, Nat.reduceAdd]
  obtain ⟨r_3, h1, h⟩ := bd h
  refine call_aft (i_lanes_text_c h1) ?_
  simp +decide only [go_sem, reduceIte, Nat.reduceAdd]
  obtain ⟨y3, h1, h⟩ := bd h
  refine bind_some h1 ?_
  obtain rfl := Option.some.inj h
  first | rfl | (simp only [List.length_set, go_sem]; done)
end
noncomputable def s_l10List_1_s (ListtoArray2 : List Entry) (t : Int) (t2 : Int) : Int → Option ((Int) ⊕ ((Int × Int × Int) ⊕ (Int × Bool)))
  | t3 =>
    br (decide (t3 < ((ListtoArray2.length : Nat) : Int))) (
      (atL ListtoArray2 t3).bind fun x =>
      br (decide (0 ≤ (IntKind.wrap .u64 t))) (
        (s_l01In x.Row (0 : Int) (IntKind.wrap .i64 ((shl64 .i64 (1 : Int) (IntKind.wrap .u64 t)) - (1 : Int)))).bind fun r_ =>
        br (!r_) (
          some (.inr (.inl (x.Row, x.Col, x.Value)))) (
          br (decide (0 ≤ (IntKind.wrap .u64 t2))) (
            (s_l01In x.Col (0 : Int) (IntKind.wrap .i64 ((shl64 .i64 (1 : Int) (IntKind.wrap .u64 t2)) - (1 : Int)))).bind fun r_2 =>
            br (!r_2) (
              some (.inr (.inl (x.Row, x.Col, x.Value)))) (
              (s_l01In x.Value (1 : Int) (2130706432 : Int)).bind fun r_3 =>
              br (!r_3) (
                some (.inr (.inl (x.Row, x.Col, x.Value)))) (
                br (decide (t3 > (0 : Int))) (
                  (atL ListtoArray2 (IntKind.wrap .i64 (t3 - (1 : Int)))).bind fun x2 =>
                  br (decide (x2.Row > x.Row)) (
                    some (.inr (.inl (x.Row, x.Col, x.Value)))) (
                    (atL ListtoArray2 (IntKind.wrap .i64 (t3 - (1 : Int)))).bind fun x3 =>
                    br (x3.Row == x.Row) (
                      (atL ListtoArray2 (IntKind.wrap .i64 (t3 - (1 : Int)))).bind fun x4 =>
                      br (decide (x4.Col ≥ x.Col)) (
                        some (.inr (.inl (x.Row, x.Col, x.Value)))) (
                        some (.inl (IntKind.wrap .i64 (t3 + (1 : Int)))))) (
                      some (.inl (IntKind.wrap .i64 (t3 + (1 : Int))))))) (
                  some (.inl (IntKind.wrap .i64 (t3 + (1 : Int)))))))) (
            none))) (
        none)) (
      some (.inr (.inr (t3, decide (t3 < ((ListtoArray2.length : Nat) : Int))))))
theorem s_l10List_1_l {ListtoArray2 : List Entry} {t : Int} {t2 : Int} {t3 : Int} {e : (Int × Int × Int) ⊕ (Int × Bool)} (h : Loop (s_l10List_1_s ListtoArray2 t t2) t3 = some e) : LoopX tab ow (.close [7004, 8006, 8015, 8021]) b_s_l10List_4 ⟨[(0, sl eEntry ListtoArray2), (1, I t), (2, I t2), (7, I t3)], []⟩ = some ((alt (fun e => ((.ret, ⟨[(6, B false)], [(7004, ⟨3, true, [[I e.1, I e.2.1, I e.2.2]]⟩)]⟩) : AExit × St)) (fun e => (.exit 0, ⟨[(0, sl eEntry ListtoArray2), (1, I t), (2, I t2), (7, I e.1), (15, B e.2)], []⟩))) e) := by
  refine loop_runG (S := Int) (eS := fun s => ⟨[(0, sl eEntry ListtoArray2), (1, I t), (2, I t2), (7, I s)], []⟩) (eE := fun e => (alt (fun e => ((.ret, ⟨[(6, B false)], [(7004, ⟨3, true, [[I e.1, I e.2.1, I e.2.2]]⟩)]⟩) : AExit × St)) (fun e => (.exit 0, ⟨[(0, sl eEntry ListtoArray2), (1, I t), (2, I t2), (7, I e.1), (15, B e.2)], []⟩))) e) (fun e => ?_) (fun t3 o h => ?_) h
  · rcases e with e | e <;> simp [alt]
  · skip
    simp only [s_l10List_1_s] at h
    show Rn tab ow _ _ ⟨[(0, sl eEntry ListtoArray2), (1, I t), (2, I t2), (7, I t3)], []⟩ = _
    simp +decide only [b_s_l10List_4, go_sem, reduceIte, Nat.reduceAdd]
    rcases brc h with ⟨hb, h⟩ | ⟨hb, h⟩
    · refine br_t hb ?_
      obtain ⟨x, h1, h⟩ := bd h
      refine bind_some h1 ?_
      obtain ⟨hb, h⟩ := brg h
      refine br_t hb ?_
      obtain ⟨r_, h1, h⟩ := bd h
      refine call_aft (s_l01In_c h1) ?_
      simp +decide only [go_sem, reduceIte, Nat.reduceAdd]
      rcases brc h with ⟨hb, h⟩ | ⟨hb, h⟩
      · refine br_t hb ?_
        obtain rfl := Option.some.inj h
        first | rfl | (simp only [List.length_set, go_sem]; done)
      · refine br_f hb ?_
        obtain ⟨hb, h⟩ := brg h
        refine br_t hb ?_
        obtain ⟨r_2, h1, h⟩ := bd h
        refine call_aft (s_l01In_c h1) ?_
        simp +decide only [go_sem, reduceIte, Nat.reduceAdd]
        rcases brc h with ⟨hb, h⟩ | ⟨hb, h⟩
        · refine br_t hb ?_
          obtain rfl := Option.some.inj h
          first | rfl | (simp only [List.length_set, go_sem]; done)
        · refine br_f hb ?_
          obtain ⟨r_3, h1, h⟩ := bd h
          refine call_aft (s_l01In_c h1) ?_
          simp +decide only [go_sem, reduceIte, Nat.reduceAdd]
          rcases brc h with ⟨hb, h⟩ | ⟨hb, h⟩
          · refine br_t hb ?_
            obtain rfl := Option.some.inj h
            first | rfl | (simp only [List.length_set, go_sem]; done)
          · refine br_f hb ?_
            rcases brc h with ⟨hb, h⟩ | ⟨hb, h⟩
            · refine br_t hb ?_
              obtain ⟨x2, h1, h⟩ := bd h
              refine bind_some h1 ?_
              rcases brc h with ⟨hb, h⟩ | ⟨hb, h⟩
              · refine br_t hb ?_
                obtain rfl := Option.some.inj h
                first | rfl | (simp only [List.length_set, go_sem]; done)
              · refine br_f hb ?_
                obtain ⟨x3, h1, h⟩ := bd h
                refine bind_some h1 ?_
                rcases brc h with ⟨hb, h⟩ | ⟨hb, h⟩
                · refine br_t hb ?_
                  obtain ⟨x4, h1, h⟩ := bd h
                  refine bind_some h1 ?_
                  rcases brc h with ⟨hb, h⟩ | ⟨hb, h⟩
                  · refine br_t hb ?_
                    obtain rfl := Option.some.inj h
                    first | rfl | (simp only [List.length_set, go_sem]; done)
                  · refine br_f hb ?_
                    obtain rfl := Option.some.inj h
                    first | rfl | (simp only [List.length_set, go_sem]; done)
                · refine br_f hb ?_
                  obtain rfl := Option.some.inj h
                  first | rfl | (simp only [List.length_set, go_sem]; done)
            · refine br_f hb ?_
              obtain rfl := Option.some.inj h
              first | rfl | (simp only [List.length_set, go_sem]; done)
    · refine br_f hb ?_
      obtain rfl := Option.some.inj h
      first | rfl | (simp only [List.length_set, go_sem]; done)
noncomputable def s_l10List (ListtoArray : (List Entry)) (a : Int) (a2 : Int) : Option (Bool) :=
  br (decide (((ListtoArray.length : Nat) : Int) > (200 : Int))) (
    some false) (
    (Loop (s_l10List_1_s ListtoArray a a2) (0 : Int)).bind (alt (fun e_2 =>
      some false) (fun e_3 =>
      some true)))
theorem s_l10List_c {ListtoArray : (List Entry)} {a : Int} {a2 : Int} {r : Bool} (h : s_l10List ListtoArray a a2 = some r) : Call tab ow 171 [sl eEntry ListtoArray, I a, I a2] [] = some (B r, []) := by
  rw [run_s_l10List]
  unfold s_l10List at h
  simp +decide only [b_s_l10List, go_sem, reduceIte, Nat.reduceAdd]
  rcases brc h with ⟨hb, h⟩ | ⟨hb, h⟩
  · refine br_t hb ?_
    obtain rfl := Option.some.inj h
    first | rfl | (simp only [List.length_set, go_sem]; done)
  · refine br_f hb ?_
    obtain ⟨e_, h1, h⟩ := bd h
    refine goR_of (s_l10List_1_l h1) ?_
    rcases e_ with e_2 | e_3
    · simp +decide only [go_sem, reduceIte, Nat.reduceAdd]
      obtain rfl := Option.some.inj h
      first | rfl | (simp only [List.length_set, go_sem]; done)
    · simp +decide only [go_sem, reduceIte, Nat.reduceAdd]
      obtain rfl := Option.some.inj h
      first | rfl | (simp only [List.length_set, go_sem]; done)
noncomputable def s_SystemOK (s : System) : Option (Bool) :=
  (s_l01In s.Rows (1 : Int) (5 : Int)).bind fun r_ =>
  br r_ (
    (s_l01In s.Cols (2 : Int) (5 : Int)).bind fun r_2 =>
    br r_2 (
      br (decide (0 ≤ (IntKind.wrap .u64 (IntKind.wrap .i64 (s.Cols - (1 : Int)))))) (
        (s_l01In s.Publics (0 : Int) (IntKind.wrap .i64 ((shl64 .i64 (1 : Int) (IntKind.wrap .u64 (IntKind.wrap .i64 (s.Cols - (1 : Int))))) - (1 : Int)))).bind fun r_3 =>
        br r_3 (
          (s_l10List s.A s.Rows s.Cols).bind fun r_4 =>
          br r_4 (
            (s_l10List s.B s.Rows s.Cols).bind fun r_5 =>
            br r_5 (
              (s_l10List s.C s.Rows s.Cols).bind fun r_6 =>
              some r_6) (
              some false)) (
            some false)) (
          some false)) (
        none)) (
      some false)) (
    some false)
theorem s_SystemOK_c {s : System} {r : Bool} (h : s_SystemOK s = some r) : Call tab ow 147 [.agg [I s.Rows, I s.Cols, I s.Publics, sl eEntry s.A, sl eEntry s.B, sl eEntry s.C]] [] = some (B r, []) := by
  rw [run_s_SystemOK]
  unfold s_SystemOK at h
  simp +decide only [b_s_SystemOK, go_sem, reduceIte, Nat.reduceAdd]
  obtain ⟨r_, h1, h⟩ := bd h
  refine call_aft (s_l01In_c h1) ?_
  simp +decide only [go_sem, reduceIte, Nat.reduceAdd]
  rcases brc h with ⟨hb, h⟩ | ⟨hb, h⟩
  · refine br_t hb ?_
    obtain ⟨r_2, h1, h⟩ := bd h
    refine call_aft (s_l01In_c h1) ?_
    simp +decide only [go_sem, reduceIte, Nat.reduceAdd]
    rcases brc h with ⟨hb, h⟩ | ⟨hb, h⟩
    · refine br_t hb ?_
      obtain ⟨hb, h⟩ := brg h
      refine br_t hb ?_
      obtain ⟨r_3, h1, h⟩ := bd h
      refine call_aft (s_l01In_c h1) ?_
      simp +decide only [go_sem, reduceIte, Nat.reduceAdd]
      rcases brc h with ⟨hb, h⟩ | ⟨hb, h⟩
      · refine br_t hb ?_
        obtain ⟨r_4, h1, h⟩ := bd h
        refine call_aft (s_l10List_c h1) ?_
        simp +decide only [go_sem, reduceIte, Nat.reduceAdd]
        rcases brc h with ⟨hb, h⟩ | ⟨hb, h⟩
        · refine br_t hb ?_
          obtain ⟨r_5, h1, h⟩ := bd h
          refine call_aft (s_l10List_c h1) ?_
          simp +decide only [go_sem, reduceIte, Nat.reduceAdd]
          rcases brc h with ⟨hb, h⟩ | ⟨hb, h⟩
          · refine br_t hb ?_
            obtain ⟨r_6, h1, h⟩ := bd h
            refine call_aft (s_l10List_c h1) ?_
            simp +decide only [go_sem, reduceIte, Nat.reduceAdd]
            obtain rfl := Option.some.inj h
            first | rfl | (simp only [List.length_set, go_sem]; done)
          · refine br_f hb ?_
            obtain rfl := Option.some.inj h
            first | rfl | (simp only [List.length_set, go_sem]; done)
        · refine br_f hb ?_
          obtain rfl := Option.some.inj h
          first | rfl | (simp only [List.length_set, go_sem]; done)
      · refine br_f hb ?_
        obtain rfl := Option.some.inj h
        first | rfl | (simp only [List.length_set, go_sem]; done)
    · refine br_f hb ?_
      obtain rfl := Option.some.inj h
      first | rfl | (simp only [List.length_set, go_sem]; done)
  · refine br_f hb ?_
    obtain rfl := Option.some.inj h
    first | rfl | (simp only [List.length_set, go_sem]; done)
noncomputable def s_l06One : Option (Ext) :=
  (s_l02Of (1 : Int)).bind fun r_ =>
  some r_
theorem s_l06One_c {r : Ext} (h : s_l06One = some r) : Call tab ow 271 [] [] = some (.agg [I r.A, I r.B], []) := by
  rw [run_s_l06One]
  unfold s_l06One at h
  simp +decide only [b_s_l06One, go_sem, reduceIte, Nat.reduceAdd]
  obtain ⟨r_, h1, h⟩ := bd h
  refine call_aft (s_l02Of_c h1) ?_
  simp +decide only [go_sem, reduceIte, Nat.reduceAdd]
  obtain rfl := Option.some.inj h
  first | rfl | (simp only [List.length_set, go_sem]; done)
noncomputable def s_l06Less (a : Ext) : Option (Ext) :=
  (s_l06One).bind fun r_ =>
  (s_l02Sub r_ a).bind fun r_2 =>
  some r_2
theorem s_l06Less_c {a : Ext} {r : Ext} (h : s_l06Less a = some r) : Call tab ow 272 [.agg [I a.A, I a.B]] [] = some (.agg [I r.A, I r.B], []) := by
  rw [run_s_l06Less]
  unfold s_l06Less at h
  simp +decide only [b_s_l06Less, go_sem, reduceIte, Nat.reduceAdd]
  obtain ⟨r_, h1, h⟩ := bd h
  refine call_aftD (s_l06One_c h1) ?_
  simp +decide only [go_sem, reduceIte, Nat.reduceAdd]
  obtain ⟨r_2, h1, h⟩ := bd h
  refine call_aftD (s_l02Sub_c h1) ?_
  simp +decide only [go_sem, reduceIte, Nat.reduceAdd]
  obtain rfl := Option.some.inj h
  first | rfl | (simp only [List.length_set, go_sem]; done)
section
theorem s_l06Eq_k0 : mkR 2001 [] = rws eExt [] := rfl
attribute [local go_sem] s_l06Eq_k0
theorem s_l06Eq_k1 : ∀ k, repR 6003 k [I (0 : Int), I (0 : Int)] = rws eExt (List.replicate k (Ext.mk (0 : Int) (0 : Int))) := fun _ => repT eExt (Ext.mk (0 : Int) (0 : Int)) _ _
attribute [local go_sem] s_l06Eq_k1
noncomputable def s_l06Eq_2_s (point3 : List Ext) (out2 : List Ext) (i2 : Int) : (List Ext) × Int → Option (((List Ext) × Int) ⊕ (((List Ext) × Int × Bool)))
  | (l, k) =>
    br (decide (k < ((out2.length : Nat) : Int))) (
      (atL out2 k).bind fun x =>
      (atL point3 i2).bind fun x2 =>
      (s_l06Less x2).bind fun r_2 =>
      (s_l02Mul x r_2).bind fun r_3 =>
      br (decide (0 ≤ k)) (
        br (decide (k.toNat < l.length)) (
          (l[k.toNat]?).bind fun x3 =>
          (atL out2 k).bind fun x4 =>
          (atL point3 i2).bind fun x5 =>
          (s_l02Mul x4 x5).bind fun r_4 =>
          br (decide (0 ≤ (IntKind.wrap .i64 (k + ((out2.length : Nat) : Int))))) (
            br (decide ((IntKind.wrap .i64 (k + ((out2.length : Nat) : Int))).toNat < l.length)) (
              ((l.set k.toNat r_3)[(IntKind.wrap .i64 (k + ((out2.length : Nat) : Int))).toNat]?).bind fun x6 =>
              some (.inl (((l.set k.toNat r_3).set ((IntKind.wrap .i64 (k + ((out2.length : Nat) : Int))).toNat) r_4), (IntKind.wrap .i64 (k + (1 : Int)))))) (
              none)) (
            none)) (
          none)) (
        none)) (
      some (.inr (l, k, decide (k < ((out2.length : Nat) : Int)))))
theorem s_l06Eq_2_l {point3 : List Ext} {out2 : List Ext} {i2 : Int} {l : List Ext} {k : Int} {e : ((List Ext) × Int × Bool)} (h : Loop (s_l06Eq_2_s point3 out2 i2) (l, k) = some e) : LoopX tab ow (.close [10010, 10011, 11013]) b_s_l06Eq_7 ⟨[(0, sl eExt point3), (3, sl eExt out2), (4, I i2), (5, .sl 6003 0 l.length), (6, I k)], [(6003, ⟨2, false, rws eExt l⟩)]⟩ = some ((.exit 2, ⟨[(0, sl eExt point3), (3, sl eExt out2), (4, I i2), (5, .sl 6003 0 e.1.length), (6, I e.2.1), (22, B e.2.2)], [(6003, ⟨2, false, rws eExt e.1⟩)]⟩)) := by
  refine loop_runG (S := (List Ext) × Int) (eS := fun s => ⟨[(0, sl eExt point3), (3, sl eExt out2), (4, I i2), (5, .sl 6003 0 s.1.length), (6, I s.2)], [(6003, ⟨2, false, rws eExt s.1⟩)]⟩) (eE := fun e => (.exit 2, ⟨[(0, sl eExt point3), (3, sl eExt out2), (4, I i2), (5, .sl 6003 0 e.1.length), (6, I e.2.1), (22, B e.2.2)], [(6003, ⟨2, false, rws eExt e.1⟩)]⟩)) (fun e => ?_) (fun s o h => ?_) h
  · simp [alt]
  · obtain ⟨l, k⟩ := s
    simp only [s_l06Eq_2_s] at h
    show Rn tab ow _ _ ⟨[(0, sl eExt point3), (3, sl eExt out2), (4, I i2), (5, .sl 6003 0 l.length), (6, I k)], [(6003, ⟨2, false, rws eExt l⟩)]⟩ = _
    simp +decide only [b_s_l06Eq_7, go_sem, reduceIte, Nat.reduceAdd]
    rcases brc h with ⟨hb, h⟩ | ⟨hb, h⟩
    · refine br_t hb ?_
      obtain ⟨x, h1, h⟩ := bd h
      refine bind_some h1 ?_
      obtain ⟨x2, h1, h⟩ := bd h
      refine bind_some h1 ?_
      obtain ⟨r_2, h1, h⟩ := bd h
      refine call_aftD (s_l06Less_c h1) ?_
      simp +decide only [go_sem, reduceIte, Nat.reduceAdd]
      obtain ⟨r_3, h1, h⟩ := bd h
      refine call_aftD (s_l02Mul_c h1) ?_
      simp +decide only [go_sem, reduceIte, Nat.reduceAdd]
      obtain ⟨hb, h⟩ := brg h
      refine br_t hb ?_
      obtain ⟨hb, h⟩ := brg h
      refine br_t hb ?_
      obtain ⟨x3, h1, h⟩ := bd h
      refine bind_some h1 ?_
      obtain ⟨x4, h1, h⟩ := bd h
      refine bind_some h1 ?_
      obtain ⟨x5, h1, h⟩ := bd h
      refine bind_some h1 ?_
      obtain ⟨r_4, h1, h⟩ := bd h
      refine call_aftD (s_l02Mul_c h1) ?_
      simp +decide only [go_sem, reduceIte, Nat.reduceAdd]
      obtain ⟨hb, h⟩ := brg h
      refine br_t hb ?_
      obtain ⟨hb, h⟩ := brg h
      refine br_t hb ?_
      obtain ⟨x6, h1, h⟩ := bd h
      refine bind_some h1 ?_
      obtain rfl := Option.some.inj h
      first | rfl | (simp only [List.length_set, go_sem]; done)
    · refine br_f hb ?_
      obtain rfl := Option.some.inj h
      first | rfl | (simp only [List.length_set, go_sem]; done)
noncomputable def s_l06Eq_1_s (point2 : List Ext) : (List Ext) × Int → Option (((List Ext) × Int) ⊕ (((List Ext) × Int × Bool)))
  | (out, i) =>
    br (decide (i < ((point2.length : Nat) : Int))) (
      br (mkOK (IntKind.wrap .i64 ((2 : Int) * ((out.length : Nat) : Int))) (IntKind.wrap .i64 ((2 : Int) * ((out.length : Nat) : Int))) 16) (
        (Loop (s_l06Eq_2_s point2 out i) ((List.replicate ((IntKind.wrap .i64 ((2 : Int) * ((out.length : Nat) : Int))).toNat) (Ext.mk (0 : Int) (0 : Int))), (0 : Int))).bind fun e_ =>
        some (.inl (e_.1, (IntKind.wrap .i64 (i + (1 : Int)))))) (
        none)) (
      some (.inr (out, i, decide (i < ((point2.length : Nat) : Int)))))
theorem s_l06Eq_1_l {point2 : List Ext} {out : List Ext} {i : Int} {e : ((List Ext) × Int × Bool)} (h : Loop (s_l06Eq_1_s point2) (out, i) = some e) : LoopX tab ow (.close [6003, 10010, 10011, 11013, 2001]) b_s_l06Eq_3 ⟨[(0, sl eExt point2), (3, sl eExt out), (4, I i)], []⟩ = some ((.exit 0, ⟨[(0, sl eExt point2), (3, sl eExt e.1), (4, I e.2.1), (12, B e.2.2)], []⟩)) := by
  refine loop_runG (S := (List Ext) × Int) (eS := fun s => ⟨[(0, sl eExt point2), (3, sl eExt s.1), (4, I s.2)], []⟩) (eE := fun e => (.exit 0, ⟨[(0, sl eExt point2), (3, sl eExt e.1), (4, I e.2.1), (12, B e.2.2)], []⟩)) (fun e => ?_) (fun s o h => ?_) h
  · simp [alt]
  · obtain ⟨out, i⟩ := s
    simp only [s_l06Eq_1_s] at h
    show Rn tab ow _ _ ⟨[(0, sl eExt point2), (3, sl eExt out), (4, I i)], []⟩ = _
    simp +decide only [b_s_l06Eq_3, go_sem, reduceIte, Nat.reduceAdd]
    rcases brc h with ⟨hb, h⟩ | ⟨hb, h⟩
    · refine br_t hb ?_
      obtain ⟨hb, h⟩ := brg h
      refine br_t hb ?_
      obtain ⟨e_, h1, h⟩ := bd h
      refine goR_of (s_l06Eq_2_l h1) ?_
      simp +decide only [go_sem, reduceIte, Nat.reduceAdd]
      obtain rfl := Option.some.inj h
      first | rfl | (simp only [List.length_set, go_sem]; done)
    · refine br_f hb ?_
      obtain rfl := Option.some.inj h
      first | rfl | (simp only [List.length_set, go_sem]; done)
noncomputable def s_l06Eq (point : (List Ext)) : Option ((List Ext)) :=
  (s_l06One).bind fun r_ =>
  (Loop (s_l06Eq_1_s point) (([r_] : List Ext), (0 : Int))).bind fun e_2 =>
  some e_2.1
theorem s_l06Eq_c {point : (List Ext)} {r : (List Ext)} (h : s_l06Eq point = some r) : Call tab ow 235 [sl eExt point] [] = some (sl eExt r, []) := by
  rw [run_s_l06Eq]
  unfold s_l06Eq at h
  simp +decide only [b_s_l06Eq, go_sem, reduceIte, Nat.reduceAdd]
  obtain ⟨r_, h1, h⟩ := bd h
  refine call_aft (s_l06One_c h1) ?_
  simp +decide only [go_sem, reduceIte, Nat.reduceAdd]
  obtain ⟨e_2, h1, h⟩ := bd h
  refine goR_of (s_l06Eq_1_l h1) ?_
  simp +decide only [go_sem, reduceIte, Nat.reduceAdd]
  obtain rfl := Option.some.inj h
  first | rfl | (simp only [List.length_set, go_sem]; done)
end
end Go.AI.Fn

set_option linter.unusedVariables false
set_option linter.unusedSimpArgs false
set_option maxRecDepth 100000
set_option maxHeartbeats 1000000
namespace Go.AI.Fn
noncomputable def i_MatrixAt_1_s (t : List Ext) (t2 : List Ext) (t3 : List Entry) (t4 : Int) (c : Int) (c2 : Int) : Int × Int × Int → Option ((Int × Int × Int) ⊕ ((Int × Bool × Int × Int)))
  | (t5, c3, c4) =>
    br (decide (t5 < t4)) (
      (atL t3 t5).bind fun x =>
      (atL t x.Row).bind fun x2 =>
      (atL t2 x.Col).bind fun x3 =>
      (i_Ext_times x2 x3).bind fun r_8 =>
      (i_Ext_scaled r_8 x.Value).bind fun r_9 =>
      (i_Ext_plus (Ext.mk c3 c4) r_9).bind fun r_10 =>
      some (.inl ((IntKind.wrap .i64 (t5 + (1 : Int))), r_10.A, r_10.B))) (
      some (.inr (t5, decide (t5 < t4), c3, c4)))
theorem i_MatrixAt_1_l {t : List Ext} {t2 : List Ext} {t3 : List Entry} {t4 : Int} {c : Int} {c2 : Int} {t5 : Int} {c3 : Int} {c4 : Int} {e : (Int × Bool × Int × Int)} (h : Loop (i_MatrixAt_1_s t t2 t3 t4 c c2) (t5, c3, c4) = some e) : LoopX tab ow (.close [11002, 12011, 12014, 12015]) b_i_MatrixAt_9 ⟨[(6, .ptr 1000 0 0 1), (8, sl eExt t), (9, sl eExt t2), (10, .ptr 8005 0 0 1), (66, sl eEntry t3), (67, I t4), (68, I t5)], [(1000, ⟨2, true, [[I c, I c2]]⟩), (8005, ⟨2, true, [[I c3, I c4]]⟩)]⟩ = some ((.exit 1, ⟨[(6, .ptr 1000 0 0 1), (8, sl eExt t), (9, sl eExt t2), (10, .ptr 8005 0 0 1), (66, sl eEntry t3), (67, I t4), (68, I e.1), (69, B e.2.1)], [(1000, ⟨2, true, [[I c, I c2]]⟩), (8005, ⟨2, true, [[I e.2.2.1, I e.2.2.2]]⟩)]⟩)) := by
  refine loop_runG (S := Int × Int × Int) (eS := fun s => ⟨[(6, .ptr 1000 0 0 1), (8, sl eExt t), (9, sl eExt t2), (10, .ptr 8005 0 0 1), (66, sl eEntry t3), (67, I t4), (68, I s.1)], [(1000, ⟨2, true, [[I c, I c2]]⟩), (8005, ⟨2, true, [[I s.2.1, I s.2.2]]⟩)]⟩) (eE := fun e => (.exit 1, ⟨[(6, .ptr 1000 0 0 1), (8, sl eExt t), (9, sl eExt t2), (10, .ptr 8005 0 0 1), (66, sl eEntry t3), (67, I t4), (68, I e.1), (69, B e.2.1)], [(1000, ⟨2, true, [[I c, I c2]]⟩), (8005, ⟨2, true, [[I e.2.2.1, I e.2.2.2]]⟩)]⟩)) (fun e => ?_) (fun s o h => ?_) h
  · simp [alt]
  · obtain ⟨t5, c3, c4⟩ := s
    simp only [i_MatrixAt_1_s] at h
    show Rn tab ow _ _ ⟨[(6, .ptr 1000 0 0 1), (8, sl eExt t), (9, sl eExt t2), (10, .ptr 8005 0 0 1), (66, sl eEntry t3), (67, I t4), (68, I t5)], [(1000, ⟨2, true, [[I c, I c2]]⟩), (8005, ⟨2, true, [[I c3, I c4]]⟩)]⟩ = _
    simp +decide only [b_i_MatrixAt_9, go_sem, reduceIte, Nat.reduceAdd]
    rcases brc h with ⟨hb, h⟩ | ⟨hb, h⟩
    · refine br_t hb ?_
      obtain ⟨x, h1, h⟩ := bd h
      refine bind_some h1 ?_
      obtain ⟨x2, h1, h⟩ := bd h
      refine bind_some h1 ?_
      obtain ⟨x3, h1, h⟩ := bd h
      refine bind_some h1 ?_
      obtain ⟨r_8, h1, h⟩ := bd h
      refine call_aftD (i_Ext_times_c h1) ?_
      simp +decide only [go_sem, reduceIte, Nat.reduceAdd]
      obtain ⟨r_9, h1, h⟩ := bd h
      refine call_aftD (i_Ext_scaled_c h1) ?_
      simp +decide only [go_sem, reduceIte, Nat.reduceAdd]
      obtain ⟨r_10, h1, h⟩ := bd h
      refine call_aftD (i_Ext_plus_c h1) ?_
      simp +decide only [go_sem, reduceIte, Nat.reduceAdd]
      obtain rfl := Option.some.inj h
      first | rfl | (simp only [List.length_set, go_sem]; done)
    · refine br_f hb ?_
      obtain rfl := Option.some.inj h
      first | rfl | (simp only [List.length_set, go_sem]; done)
noncomputable def i_MatrixAt (ListtoArray : (List Entry)) (a : (List Ext)) (a2 : (List Ext)) : Option (Ext × Int) :=
  br (decide (((ListtoArray.length : Nat) : Int) > (4096 : Int))) (
    some ((Ext.mk (0 : Int) (0 : Int)), (2 : Int))) (
    br (decide (((a.length : Nat) : Int) > (4096 : Int))) (
      some ((Ext.mk (0 : Int) (0 : Int)), (2 : Int))) (
      br (decide (((a2.length : Nat) : Int) > (4096 : Int))) (
        some ((Ext.mk (0 : Int) (0 : Int)), (2 : Int))) (
        (i_in ((a.length : Nat) : Int) (1 : Int) (5 : Int)).bind fun r_ =>
        br (!r_) (
          some ((Ext.mk (0 : Int) (0 : Int)), (4 : Int))) (
          (i_in ((a2.length : Nat) : Int) (1 : Int) (5 : Int)).bind fun r_2 =>
          br (!r_2) (
            some ((Ext.mk (0 : Int) (0 : Int)), (4 : Int))) (
            br (decide (0 ≤ ((a.length : Nat) : Int))) (
              br (decide (0 ≤ ((a2.length : Nat) : Int))) (
                (i_isMatrix ListtoArray (shl64 .i64 (1 : Int) ((a.length : Nat) : Int)) (shl64 .i64 (1 : Int) ((a2.length : Nat) : Int))).bind fun r_3 =>
                br (!r_3) (
                  some ((Ext.mk (0 : Int) (0 : Int)), (1 : Int))) (
                  (i_are_i_Ext_ExtOK a).bind fun r_4 =>
                  br (!r_4) (
                    some ((Ext.mk (0 : Int) (0 : Int)), (1 : Int))) (
                    (i_are_i_Ext_ExtOK a2).bind fun r_5 =>
                    br (!r_5) (
                      some ((Ext.mk (0 : Int) (0 : Int)), (1 : Int))) (
                      (i_eqTable a).bind fun r_6 =>
                      (i_eqTable a2).bind fun r_7 =>
                      (Loop (i_MatrixAt_1_s r_6 r_7 ListtoArray ((ListtoArray.length : Nat) : Int) (0 : Int) (0 : Int)) ((0 : Int), (0 : Int), (0 : Int))).bind fun e_ =>
                      some ((Ext.mk e_.2.2.1 e_.2.2.2), (0 : Int)))))) (
                none)) (
              none))))))
theorem i_MatrixAt_c {ListtoArray : (List Entry)} {a : (List Ext)} {a2 : (List Ext)} {r : Ext × Int} (h : i_MatrixAt ListtoArray a a2 = some r) : Call tab ow 71 [sl eEntry ListtoArray, sl eExt a, sl eExt a2] [] = some (.tup [.agg [I r.1.A, I r.1.B], I r.2], []) := by
  rw [run_i_MatrixAt]
  unfold i_MatrixAt at h
  simp +decide only [b_i_MatrixAt, go_sem, reduceIte, Nat.reduceAdd]
  rcases brc h with ⟨hb, h⟩ | ⟨hb, h⟩
  · refine br_t hb ?_
    obtain rfl := Option.some.inj h
    first | rfl | (simp only [List.length_set, go_sem]; done)
  · refine br_f hb ?_
    rcases brc h with ⟨hb, h⟩ | ⟨hb, h⟩
    · refine br_t hb ?_
      obtain rfl := Option.some.inj h
      first | rfl | (simp only [List.length_set, go_sem]; done)
    · refine br_f hb ?_
      rcases brc h with ⟨hb, h⟩ | ⟨hb, h⟩
      · refine br_t hb ?_
        obtain rfl := Option.some.inj h
        first | rfl | (simp only [List.length_set, go_sem]; done)
      · refine br_f hb ?_
        obtain ⟨r_, h1, h⟩ := bd h
        refine call_aft (i_in_c h1) ?_
        simp +decide only [go_sem, reduceIte, Nat.reduceAdd]
        rcases brc h with ⟨hb, h⟩ | ⟨hb, h⟩
        · refine br_t hb ?_
          obtain rfl := Option.some.inj h
          first | rfl | (simp only [List.length_set, go_sem]; done)
        · refine br_f hb ?_
          obtain ⟨r_2, h1, h⟩ := bd h
          refine call_aft (i_in_c h1) ?_
          simp +decide only [go_sem, reduceIte, Nat.reduceAdd]
          rcases brc h with ⟨hb, h⟩ | ⟨hb, h⟩
          · refine br_t hb ?_
            obtain rfl := Option.some.inj h
            first | rfl | (simp only [List.length_set, go_sem]; done)
          · refine br_f hb ?_
            obtain ⟨hb, h⟩ := brg h
            refine br_t hb ?_
            obtain ⟨hb, h⟩ := brg h
            refine br_t hb ?_
            obtain ⟨r_3, h1, h⟩ := bd h
            refine call_aftD (i_isMatrix_c h1) ?_
            simp +decide only [go_sem, reduceIte, Nat.reduceAdd]
            rcases brc h with ⟨hb, h⟩ | ⟨hb, h⟩
            · refine br_t hb ?_
              obtain rfl := Option.some.inj h
              first | rfl | (simp only [List.length_set, go_sem]; done)
            · refine br_f hb ?_
              obtain ⟨r_4, h1, h⟩ := bd h
              refine call_aftD (i_are_i_Ext_ExtOK_c h1) ?_
              simp +decide only [go_sem, reduceIte, Nat.reduceAdd]
              rcases brc h with ⟨hb, h⟩ | ⟨hb, h⟩
              · refine br_t hb ?_
                obtain rfl := Option.some.inj h
                first | rfl | (simp only [List.length_set, go_sem]; done)
              · refine br_f hb ?_
                obtain ⟨r_5, h1, h⟩ := bd h
                refine call_aftD (i_are_i_Ext_ExtOK_c h1) ?_
                simp +decide only [go_sem, reduceIte, Nat.reduceAdd]
                rcases brc h with ⟨hb, h⟩ | ⟨hb, h⟩
                · refine br_t hb ?_
                  obtain rfl := Option.some.inj h
                  first | rfl | (simp only [List.length_set, go_sem]; done)
                · refine br_f hb ?_
                  obtain ⟨r_6, h1, h⟩ := bd h
                  refine call_aft (i_eqTable_c h1) ?_
                  simp +decide only [go_sem, reduceIte, Nat.reduceAdd]
                  obtain ⟨r_7, h1, h⟩ := bd h
                  refine call_aft (i_eqTable_c h1) ?_
                  simp +decide only [go_sem, reduceIte, Nat.reduceAdd]
                  obtain ⟨e_, h1, h⟩ := bd h
                  refine goR_of (i_MatrixAt_1_l h1) ?_
                  simp +decide only [go_sem, reduceIte, Nat.reduceAdd]
                  obtain rfl := Option.some.inj h
                  first | rfl | (simp only [List.length_set, go_sem]; done)
noncomputable def s_l10At_1_s (list2 : List Entry) (a : List Ext) (b : List Ext) (c : Int) (c2 : Int) : Int × Int × Int → Option ((Int × Int × Int) ⊕ ((Int × Bool × Int × Int)))
  | (i, c3, c4) =>
    br (decide (i < ((list2.length : Nat) : Int))) (
      (atL list2 i).bind fun x =>
      (s_l02Of x.Value).bind fun r_3 =>
      (atL a x.Row).bind fun x2 =>
      (atL b x.Col).bind fun x3 =>
      (s_l02Mul x2 x3).bind fun r_4 =>
      (s_l02Mul r_3 r_4).bind fun r_5 =>
      (s_l02Add (Ext.mk c3 c4) r_5).bind fun r_6 =>
      some (.inl ((IntKind.wrap .i64 (i + (1 : Int))), r_6.A, r_6.B))) (
      some (.inr (i, decide (i < ((list2.length : Nat) : Int)), c3, c4)))
theorem s_l10At_1_l {list2 : List Entry} {a : List Ext} {b : List Ext} {c : Int} {c2 : Int} {i : Int} {c3 : Int} {c4 : Int} {e : (Int × Bool × Int × Int)} (h : Loop (s_l10At_1_s list2 a b c c2) (i, c3, c4) = some e) : LoopX tab ow (.close [8004, 9003, 9014, 9015, 9016]) b_s_l10At_5 ⟨[(0, sl eEntry list2), (6, .ptr 1000 0 0 1), (7, sl eExt a), (8, sl eExt b), (9, .ptr 4001 0 0 1), (10, I i)], [(1000, ⟨2, true, [[I c, I c2]]⟩), (4001, ⟨2, true, [[I c3, I c4]]⟩)]⟩ = some ((.exit 0, ⟨[(0, sl eEntry list2), (6, .ptr 1000 0 0 1), (7, sl eExt a), (8, sl eExt b), (9, .ptr 4001 0 0 1), (10, I e.1), (20, B e.2.1)], [(1000, ⟨2, true, [[I c, I c2]]⟩), (4001, ⟨2, true, [[I e.2.2.1, I e.2.2.2]]⟩)]⟩)) := by
  refine loop_runG (S := Int × Int × Int) (eS := fun s => ⟨[(0, sl eEntry list2), (6, .ptr 1000 0 0 1), (7, sl eExt a), (8, sl eExt b), (9, .ptr 4001 0 0 1), (10, I s.1)], [(1000, ⟨2, true, [[I c, I c2]]⟩), (4001, ⟨2, true, [[I s.2.1, I s.2.2]]⟩)]⟩) (eE := fun e => (.exit 0, ⟨[(0, sl eEntry list2), (6, .ptr 1000 0 0 1), (7, sl eExt a), (8, sl eExt b), (9, .ptr 4001 0 0 1), (10, I e.1), (20, B e.2.1)], [(1000, ⟨2, true, [[I c, I c2]]⟩), (4001, ⟨2, true, [[I e.2.2.1, I e.2.2.2]]⟩)]⟩)) (fun e => ?_) (fun s o h => ?_) h
  · simp [alt]
  · obtain ⟨i, c3, c4⟩ := s
    simp only [s_l10At_1_s] at h
    show Rn tab ow _ _ ⟨[(0, sl eEntry list2), (6, .ptr 1000 0 0 1), (7, sl eExt a), (8, sl eExt b), (9, .ptr 4001 0 0 1), (10, I i)], [(1000, ⟨2, true, [[I c, I c2]]⟩), (4001, ⟨2, true, [[I c3, I c4]]⟩)]⟩ = _
    simp +decide only [b_s_l10At_5, go_sem, reduceIte, Nat.reduceAdd]
    rcases brc h with ⟨hb, h⟩ | ⟨hb, h⟩
    · refine br_t hb ?_
      obtain ⟨x, h1, h⟩ := bd h
      refine bind_some h1 ?_
      obtain ⟨r_3, h1, h⟩ := bd h
      refine call_aftD (s_l02Of_c h1) ?_
      simp +decide only [go_sem, reduceIte, Nat.reduceAdd]
      obtain ⟨x2, h1, h⟩ := bd h
      refine bind_some h1 ?_
      obtain ⟨x3, h1, h⟩ := bd h
      refine bind_some h1 ?_
      obtain ⟨r_4, h1, h⟩ := bd h
      refine call_aftD (s_l02Mul_c h1) ?_
      simp +decide only [go_sem, reduceIte, Nat.reduceAdd]
      obtain ⟨r_5, h1, h⟩ := bd h
      refine call_aftD (s_l02Mul_c h1) ?_
      simp +decide only [go_sem, reduceIte, Nat.reduceAdd]
      obtain ⟨r_6, h1, h⟩ := bd h
      refine call_aftD (s_l02Add_c h1) ?_
      simp +decide only [go_sem, reduceIte, Nat.reduceAdd]
      obtain rfl := Option.some.inj h
      first | rfl | (simp only [List.length_set, go_sem]; done)
    · refine br_f hb ?_
      obtain rfl := Option.some.inj h
      first | rfl | (simp only [List.length_set, go_sem]; done)
noncomputable def s_l10At (list : (List Entry)) (rx : (List Ext)) (ry : (List Ext)) : Option (Ext) :=
  (s_l06Eq rx).bind fun r_ =>
  (s_l06Eq ry).bind fun r_2 =>
  (Loop (s_l10At_1_s list r_ r_2 (0 : Int) (0 : Int)) ((0 : Int), (0 : Int), (0 : Int))).bind fun e_ =>
  some (Ext.mk e_.2.2.1 e_.2.2.2)
theorem s_l10At_c {list : (List Entry)} {rx : (List Ext)} {ry : (List Ext)} {r : Ext} (h : s_l10At list rx ry = some r) : Call tab ow 172 [sl eEntry list, sl eExt rx, sl eExt ry] [] = some (.agg [I r.A, I r.B], []) := by
  rw [run_s_l10At]
  unfold s_l10At at h
  simp +decide only [b_s_l10At, go_sem, reduceIte, Nat.reduceAdd]
  obtain ⟨r_, h1, h⟩ := bd h
  refine call_aft (s_l06Eq_c h1) ?_
  simp +decide only [go_sem, reduceIte, Nat.reduceAdd]
  obtain ⟨r_2, h1, h⟩ := bd h
  refine call_aft (s_l06Eq_c h1) ?_
  simp +decide only [go_sem, reduceIte, Nat.reduceAdd]
  obtain ⟨e_, h1, h⟩ := bd h
  refine goR_of (s_l10At_1_l h1) ?_
  simp +decide only [go_sem, reduceIte, Nat.reduceAdd]
  obtain rfl := Option.some.inj h
  first | rfl | (simp only [List.length_set, go_sem]; done)
noncomputable def s_MatrixAt (list : (List Entry)) (rx : (List Ext)) (ry : (List Ext)) : Option (Ext × Int) :=
  br (decide (((list.length : Nat) : Int) > (4096 : Int))) (
    some ((Ext.mk (0 : Int) (0 : Int)), (2 : Int))) (
    br (decide (((rx.length : Nat) : Int) > (4096 : Int))) (
      some ((Ext.mk (0 : Int) (0 : Int)), (2 : Int))) (
      br (decide (((ry.length : Nat) : Int) > (4096 : Int))) (
        some ((Ext.mk (0 : Int) (0 : Int)), (2 : Int))) (
        (s_l01In ((rx.length : Nat) : Int) (1 : Int) (5 : Int)).bind fun r_ =>
        br (!r_) (
          some ((Ext.mk (0 : Int) (0 : Int)), (4 : Int))) (
          (s_l01In ((ry.length : Nat) : Int) (1 : Int) (5 : Int)).bind fun r_2 =>
          br (!r_2) (
            some ((Ext.mk (0 : Int) (0 : Int)), (4 : Int))) (
            (s_l10List list ((rx.length : Nat) : Int) ((ry.length : Nat) : Int)).bind fun r_3 =>
            br (!r_3) (
              some ((Ext.mk (0 : Int) (0 : Int)), (1 : Int))) (
              (s_l02List rx).bind fun r_4 =>
              br (!r_4) (
                some ((Ext.mk (0 : Int) (0 : Int)), (1 : Int))) (
                (s_l02List ry).bind fun r_5 =>
                br (!r_5) (
                  some ((Ext.mk (0 : Int) (0 : Int)), (1 : Int))) (
                  (s_l10At list rx ry).bind fun r_6 =>
                  some (r_6, (0 : Int))))))))))
theorem s_MatrixAt_c {list : (List Entry)} {rx : (List Ext)} {ry : (List Ext)} {r : Ext × Int} (h : s_MatrixAt list rx ry = some r) : Call tab ow 72 [sl eEntry list, sl eExt rx, sl eExt ry] [] = some (.tup [.agg [I r.1.A, I r.1.B], I r.2], []) := by
  rw [run_s_MatrixAt]
  unfold s_MatrixAt at h
  simp +decide only [b_s_MatrixAt, go_sem, reduceIte, Nat.reduceAdd]
  rcases brc h with ⟨hb, h⟩ | ⟨hb, h⟩
  · refine br_t hb ?_
    obtain rfl := Option.some.inj h
    first | rfl | (simp only [List.length_set, go_sem]; done)
  · refine br_f hb ?_
    rcases brc h with ⟨hb, h⟩ | ⟨hb, h⟩
    · refine br_t hb ?_
      obtain rfl := Option.some.inj h
      first | rfl | (simp only [List.length_set, go_sem]; done)
    · refine br_f hb ?_
      rcases brc h with ⟨hb, h⟩ | ⟨hb, h⟩
      · refine br_t hb ?_
        obtain rfl := Option.some.inj h
        first | rfl | (simp only [List.length_set, go_sem]; done)
      · refine br_f hb ?_
        obtain ⟨r_, h1, h⟩ := bd h
        refine call_aft (s_l01In_c h1) ?_
        simp +decide only [go_sem, reduceIte, Nat.reduceAdd]
        rcases brc h with ⟨hb, h⟩ | ⟨hb, h⟩
        · refine br_t hb ?_
          obtain rfl := Option.some.inj h
          first | rfl | (simp only [List.length_set, go_sem]; done)
        · refine br_f hb ?_
          obtain ⟨r_2, h1, h⟩ := bd h
          refine call_aft (s_l01In_c h1) ?_
          simp +decide only [go_sem, reduceIte, Nat.reduceAdd]
          rcases brc h with ⟨hb, h⟩ | ⟨hb, h⟩
          · refine br_t hb ?_
            obtain rfl := Option.some.inj h
            first | rfl | (simp only [List.length_set, go_sem]; done)
          · refine br_f hb ?_
            obtain ⟨r_3, h1, h⟩ := bd h
            refine call_aft (s_l10List_c h1) ?_
            simp +decide only [go_sem, reduceIte, Nat.reduceAdd]
            rcases brc h with ⟨hb, h⟩ | ⟨hb, h⟩
            · refine br_t hb ?_
              obtain rfl := Option.some.inj h
              first | rfl | (simp only [List.length_set, go_sem]; done)
            · refine br_f hb ?_
              obtain ⟨r_4, h1, h⟩ := bd h
              refine call_aft (s_l02List_c h1) ?_
              simp +decide only [go_sem, reduceIte, Nat.reduceAdd]
              rcases brc h with ⟨hb, h⟩ | ⟨hb, h⟩
              · refine br_t hb ?_
                obtain rfl := Option.some.inj h
                first | rfl | (simp only [List.length_set, go_sem]; done)
              · refine br_f hb ?_
                obtain ⟨r_5, h1, h⟩ := bd h
                refine call_aft (s_l02List_c h1) ?_
                simp +decide only [go_sem, reduceIte, Nat.reduceAdd]
                rcases brc h with ⟨hb, h⟩ | ⟨hb, h⟩
                · refine br_t hb ?_
                  obtain rfl := Option.some.inj h
                  first | rfl | (simp only [List.length_set, go_sem]; done)
                · refine br_f hb ?_
                  obtain ⟨r_6, h1, h⟩ := bd h
                  refine call_aft (s_l10At_c h1) ?_
                  simp +decide only [go_sem, reduceIte, Nat.reduceAdd]
                  obtain rfl := Option.some.inj h
                  first | rfl | (simp only [List.length_set, go_sem]; done)
section
theorem i_System_digestText_k0 : mkR 2000 [] = rws eU8 [] := rfl
attribute [local go_sem] i_System_digestText_k0
theorem i_System_digestText_k1 : mkR 2011 [] = rws eU8 [] := rfl
attribute [local go_sem] i_System_digestText_k1
theorem i_System_digestText_k2 : mkR 10007 [] = rws eU8 [] := rfl
attribute [local go_sem] i_System_digestText_k2
noncomputable def i_System_digestText_1_s (l2 : List UInt8) (t : List Entry) (t2 : List Entry) (t3 : List Entry) (t4 : Int) (t5 : List Entry) (t6 : Int) (c : Int) (c2 : Int) (c3 : Int) (c4 : List Entry) (c5 : List Entry) (c6 : List Entry) : (List UInt8) × Int → Option (((List UInt8) × Int) ⊕ (((List UInt8) × Int × Bool)))
  | (l, t7) =>
    br (decide (t7 < t6)) (
      (atL t5 t7).bind fun x =>
      br (fits ((l ++ ([(UInt8.ofInt x.Row), (UInt8.ofInt x.Col)] : List UInt8)).length) 1) (
        (i_four_o x.Value (l ++ ([(UInt8.ofInt x.Row), (UInt8.ofInt x.Col)] : List UInt8))).bind fun r_3 =>
        some (.inl (r_3, (IntKind.wrap .i64 (t7 + (1 : Int)))))) (
        none)) (
      some (.inr (l, t7, decide (t7 < t6))))
theorem i_System_digestText_1_l {l2 : List UInt8} {t : List Entry} {t2 : List Entry} {t3 : List Entry} {t4 : Int} {t5 : List Entry} {t6 : Int} {c : Int} {c2 : Int} {c3 : Int} {c4 : List Entry} {c5 : List Entry} {c6 : List Entry} {l : List UInt8} {t7 : Int} {e : ((List UInt8) × Int × Bool)} (h : Loop (i_System_digestText_1_s l2 t t2 t3 t4 t5 t6 c c2 c3 c4 c5 c6) (l, t7) = some e) : LoopX tab ow (.close [9002, 10007, 10008, 10011]) b_i_System_digestText_7 ⟨[(3, .sl 2000 0 l.length), (22, .agg [sl eEntry t, sl eEntry t2, sl eEntry t3]), (23, I t4), (30, sl eEntry t5), (31, I t6), (32, I t7)], [(1000, ⟨6, true, [[I c, I c2, I c3, sl eEntry c4, sl eEntry c5, sl eEntry c6]]⟩), (2000, ⟨1, false, rws eU8 l⟩), (2011, ⟨1, false, rws eU8 l2⟩)]⟩ = some ((.exit 2, ⟨[(3, .sl 2000 0 e.1.length), (22, .agg [sl eEntry t, sl eEntry t2, sl eEntry t3]), (23, I t4), (30, sl eEntry t5), (31, I t6), (32, I e.2.1), (33, B e.2.2)], [(1000, ⟨6, true, [[I c, I c2, I c3, sl eEntry c4, sl eEntry c5, sl eEntry c6]]⟩), (2000, ⟨1, false, rws eU8 e.1⟩), (2011, ⟨1, false, rws eU8 l2⟩)]⟩)) := by
  refine loop_runG (S := (List UInt8) × Int) (eS := fun s => ⟨[(3, .sl 2000 0 s.1.length), (22, .agg [sl eEntry t, sl eEntry t2, sl eEntry t3]), (23, I t4), (30, sl eEntry t5), (31, I t6), (32, I s.2)], [(1000, ⟨6, true, [[I c, I c2, I c3, sl eEntry c4, sl eEntry c5, sl eEntry c6]]⟩), (2000, ⟨1, false, rws eU8 s.1⟩), (2011, ⟨1, false, rws eU8 l2⟩)]⟩) (eE := fun e => (.exit 2, ⟨[(3, .sl 2000 0 e.1.length), (22, .agg [sl eEntry t, sl eEntry t2, sl eEntry t3]), (23, I t4), (30, sl eEntry t5), (31, I t6), (32, I e.2.1), (33, B e.2.2)], [(1000, ⟨6, true, [[I c, I c2, I c3, sl eEntry c4, sl eEntry c5, sl eEntry c6]]⟩), (2000, ⟨1, false, rws eU8 e.1⟩), (2011, ⟨1, false, rws eU8 l2⟩)]⟩)) (fun e => ?_) (fun s o h => ?_) h
  · simp [alt]
  · obtain ⟨l, t7⟩ := s
    simp only [i_System_digestText_1_s] at h
    show Rn tab ow _ _ ⟨[(3, .sl 2000 0 l.length), (22, .agg [sl eEntry t, sl eEntry t2, sl eEntry t3]), (23, I t4), (30, sl eEntry t5), (31, I t6), (32, I t7)], [(1000, ⟨6, true, [[I c, I c2, I c3, sl eEntry c4, sl eEntry c5, sl eEntry c6]]⟩), (2000, ⟨1, false, rws eU8 l⟩), (2011, ⟨1, false, rws eU8 l2⟩)]⟩ = _
    simp +decide only [b_i_System_digestText_7, go_sem, reduceIte, Nat.reduceAdd, Int.reduceAdd, Int.reduceMul, Int.reduceSub]
    rcases brc h with ⟨hb, h⟩ | ⟨hb, h⟩
    · refine br_t hb ?_
      obtain ⟨x, h1, h⟩ := bd h
      refine bind_some h1 ?_
      obtain ⟨hb, h⟩ := brg h
      refine br_t hb ?_
      obtain ⟨r_3, h1, h⟩ := bd h
      refine call_aftD (i_four_o_c h1) ?_
      simp +decide only [go_sem, reduceIte, Nat.reduceAdd, Int.reduceAdd, Int.reduceMul, Int.reduceSub]
      obtain rfl := Option.some.inj h
      first | rfl | (simp only [List.length_set, go_sem]; done)
    · refine br_f hb ?_
      obtain rfl := Option.some.inj h
      first | rfl | (simp only [List.length_set, go_sem]; done)
noncomputable def i_System_digestText_2_s (l4 : List UInt8) (t8 : List Entry) (t9 : List Entry) (t10 : List Entry) (t11 : Int) (t12 : List Entry) (t13 : Int) (c7 : Int) (c8 : Int) (c9 : Int) (c10 : List Entry) (c11 : List Entry) (c12 : List Entry) : (List UInt8) × Int → Option (((List UInt8) × Int) ⊕ (((List UInt8) × Int × Bool)))
  | (l3, t14) =>
    br (decide (t14 < t13)) (
      (atL t12 t14).bind fun x2 =>
      br (fits ((l3 ++ ([(UInt8.ofInt x2.Row), (UInt8.ofInt x2.Col)] : List UInt8)).length) 1) (
        (i_four_o x2.Value (l3 ++ ([(UInt8.ofInt x2.Row), (UInt8.ofInt x2.Col)] : List UInt8))).bind fun r_5 =>
        some (.inl (r_5, (IntKind.wrap .i64 (t14 + (1 : Int)))))) (
        none)) (
      some (.inr (l3, t14, decide (t14 < t13))))
theorem i_System_digestText_2_l {l4 : List UInt8} {t8 : List Entry} {t9 : List Entry} {t10 : List Entry} {t11 : Int} {t12 : List Entry} {t13 : Int} {c7 : Int} {c8 : Int} {c9 : Int} {c10 : List Entry} {c11 : List Entry} {c12 : List Entry} {l3 : List UInt8} {t14 : Int} {e : ((List UInt8) × Int × Bool)} (h : Loop (i_System_digestText_2_s l4 t8 t9 t10 t11 t12 t13 c7 c8 c9 c10 c11 c12) (l3, t14) = some e) : LoopX tab ow (.close [9002, 10007, 10008, 10011]) b_i_System_digestText_7 ⟨[(3, .sl 2000 0 l3.length), (22, .agg [sl eEntry t8, sl eEntry t9, sl eEntry t10]), (23, I t11), (30, sl eEntry t12), (31, I t13), (32, I t14)], [(1000, ⟨6, true, [[I c7, I c8, I c9, sl eEntry c10, sl eEntry c11, sl eEntry c12]]⟩), (2000, ⟨1, false, rws eU8 l3⟩), (2011, ⟨1, false, rws eU8 l4⟩)]⟩ = some ((.exit 2, ⟨[(3, .sl 2000 0 e.1.length), (22, .agg [sl eEntry t8, sl eEntry t9, sl eEntry t10]), (23, I t11), (30, sl eEntry t12), (31, I t13), (32, I e.2.1), (33, B e.2.2)], [(1000, ⟨6, true, [[I c7, I c8, I c9, sl eEntry c10, sl eEntry c11, sl eEntry c12]]⟩), (2000, ⟨1, false, rws eU8 e.1⟩), (2011, ⟨1, false, rws eU8 l4⟩)]⟩)) := by
  refine loop_runG (S := (List UInt8) × Int) (eS := fun s => ⟨[(3, .sl 2000 0 s.1.length), (22, .agg [sl eEntry t8, sl eEntry t9, sl eEntry t10]), (23, I t11), (30, sl eEntry t12), (31, I t13), (32, I s.2)], [(1000, ⟨6, true, [[I c7, I c8, I c9, sl eEntry c10, sl eEntry c11, sl eEntry c12]]⟩), (2000, ⟨1, false, rws eU8 s.1⟩), (2011, ⟨1, false, rws eU8 l4⟩)]⟩) (eE := fun e => (.exit 2, ⟨[(3, .sl 2000 0 e.1.length), (22, .agg [sl eEntry t8, sl eEntry t9, sl eEntry t10]), (23, I t11), (30, sl eEntry t12), (31, I t13), (32, I e.2.1), (33, B e.2.2)], [(1000, ⟨6, true, [[I c7, I c8, I c9, sl eEntry c10, sl eEntry c11, sl eEntry c12]]⟩), (2000, ⟨1, false, rws eU8 e.1⟩), (2011, ⟨1, false, rws eU8 l4⟩)]⟩)) (fun e => ?_) (fun s o h => ?_) h
  · simp [alt]
  · obtain ⟨l3, t14⟩ := s
    simp only [i_System_digestText_2_s] at h
    show Rn tab ow _ _ ⟨[(3, .sl 2000 0 l3.length), (22, .agg [sl eEntry t8, sl eEntry t9, sl eEntry t10]), (23, I t11), (30, sl eEntry t12), (31, I t13), (32, I t14)], [(1000, ⟨6, true, [[I c7, I c8, I c9, sl eEntry c10, sl eEntry c11, sl eEntry c12]]⟩), (2000, ⟨1, false, rws eU8 l3⟩), (2011, ⟨1, false, rws eU8 l4⟩)]⟩ = _
    simp +decide only [b_i_System_digestText_7, go_sem, reduceIte, Nat.reduceAdd, Int.reduceAdd, Int.reduceMul, Int.reduceSub]
    rcases brc h with ⟨hb, h⟩ | ⟨hb, h⟩
    · refine br_t hb ?_
      obtain ⟨x2, h1, h⟩ := bd h
      refine bind_some h1 ?_
      obtain ⟨hb, h⟩ := brg h
      refine br_t hb ?_
      obtain ⟨r_5, h1, h⟩ := bd h
      refine call_aftD (i_four_o_c h1) ?_
      simp +decide only [go_sem, reduceIte, Nat.reduceAdd, Int.reduceAdd, Int.reduceMul, Int.reduceSub]
      obtain rfl := Option.some.inj h
      first | rfl | (simp only [List.length_set, go_sem]; done)
    · refine br_f hb ?_
      obtain rfl := Option.some.inj h
      first | rfl | (simp only [List.length_set, go_sem]; done)
noncomputable def i_System_digestText_3_s (l6 : List UInt8) (t15 : List Entry) (t16 : List Entry) (t17 : List Entry) (t18 : Int) (t19 : List Entry) (t20 : Int) (c13 : Int) (c14 : Int) (c15 : Int) (c16 : List Entry) (c17 : List Entry) (c18 : List Entry) : (List UInt8) × Int → Option (((List UInt8) × Int) ⊕ (((List UInt8) × Int × Bool)))
  | (l5, t21) =>
    br (decide (t21 < t20)) (
      (atL t19 t21).bind fun x3 =>
      br (fits ((l5 ++ ([(UInt8.ofInt x3.Row), (UInt8.ofInt x3.Col)] : List UInt8)).length) 1) (
        (i_four_o x3.Value (l5 ++ ([(UInt8.ofInt x3.Row), (UInt8.ofInt x3.Col)] : List UInt8))).bind fun r_7 =>
        some (.inl (r_7, (IntKind.wrap .i64 (t21 + (1 : Int)))))) (
        none)) (
      some (.inr (l5, t21, decide (t21 < t20))))
theorem i_System_digestText_3_l {l6 : List UInt8} {t15 : List Entry} {t16 : List Entry} {t17 : List Entry} {t18 : Int} {t19 : List Entry} {t20 : Int} {c13 : Int} {c14 : Int} {c15 : Int} {c16 : List Entry} {c17 : List Entry} {c18 : List Entry} {l5 : List UInt8} {t21 : Int} {e : ((List UInt8) × Int × Bool)} (h : Loop (i_System_digestText_3_s l6 t15 t16 t17 t18 t19 t20 c13 c14 c15 c16 c17 c18) (l5, t21) = some e) : LoopX tab ow (.close [9002, 10007, 10008, 10011]) b_i_System_digestText_7 ⟨[(3, .sl 2000 0 l5.length), (22, .agg [sl eEntry t15, sl eEntry t16, sl eEntry t17]), (23, I t18), (30, sl eEntry t19), (31, I t20), (32, I t21)], [(1000, ⟨6, true, [[I c13, I c14, I c15, sl eEntry c16, sl eEntry c17, sl eEntry c18]]⟩), (2000, ⟨1, false, rws eU8 l5⟩), (2011, ⟨1, false, rws eU8 l6⟩)]⟩ = some ((.exit 2, ⟨[(3, .sl 2000 0 e.1.length), (22, .agg [sl eEntry t15, sl eEntry t16, sl eEntry t17]), (23, I t18), (30, sl eEntry t19), (31, I t20), (32, I e.2.1), (33, B e.2.2)], [(1000, ⟨6, true, [[I c13, I c14, I c15, sl eEntry c16, sl eEntry c17, sl eEntry c18]]⟩), (2000, ⟨1, false, rws eU8 e.1⟩), (2011, ⟨1, false, rws eU8 l6⟩)]⟩)) := by
  refine loop_runG (S := (List UInt8) × Int) (eS := fun s => ⟨[(3, .sl 2000 0 s.1.length), (22, .agg [sl eEntry t15, sl eEntry t16, sl eEntry t17]), (23, I t18), (30, sl eEntry t19), (31, I t20), (32, I s.2)], [(1000, ⟨6, true, [[I c13, I c14, I c15, sl eEntry c16, sl eEntry c17, sl eEntry c18]]⟩), (2000, ⟨1, false, rws eU8 s.1⟩), (2011, ⟨1, false, rws eU8 l6⟩)]⟩) (eE := fun e => (.exit 2, ⟨[(3, .sl 2000 0 e.1.length), (22, .agg [sl eEntry t15, sl eEntry t16, sl eEntry t17]), (23, I t18), (30, sl eEntry t19), (31, I t20), (32, I e.2.1), (33, B e.2.2)], [(1000, ⟨6, true, [[I c13, I c14, I c15, sl eEntry c16, sl eEntry c17, sl eEntry c18]]⟩), (2000, ⟨1, false, rws eU8 e.1⟩), (2011, ⟨1, false, rws eU8 l6⟩)]⟩)) (fun e => ?_) (fun s o h => ?_) h
  · simp [alt]
  · obtain ⟨l5, t21⟩ := s
    simp only [i_System_digestText_3_s] at h
    show Rn tab ow _ _ ⟨[(3, .sl 2000 0 l5.length), (22, .agg [sl eEntry t15, sl eEntry t16, sl eEntry t17]), (23, I t18), (30, sl eEntry t19), (31, I t20), (32, I t21)], [(1000, ⟨6, true, [[I c13, I c14, I c15, sl eEntry c16, sl eEntry c17, sl eEntry c18]]⟩), (2000, ⟨1, false, rws eU8 l5⟩), (2011, ⟨1, false, rws eU8 l6⟩)]⟩ = _
    simp +decide only [b_i_System_digestText_7, go_sem, reduceIte, Nat.reduceAdd, Int.reduceAdd, Int.reduceMul, Int.reduceSub]
    rcases brc h with ⟨hb, h⟩ | ⟨hb, h⟩
    · refine br_t hb ?_
      obtain ⟨x3, h1, h⟩ := bd h
      refine bind_some h1 ?_
      obtain ⟨hb, h⟩ := brg h
      refine br_t hb ?_
      obtain ⟨r_7, h1, h⟩ := bd h
      refine call_aftD (i_four_o_c h1) ?_
      simp +decide only [go_sem, reduceIte, Nat.reduceAdd, Int.reduceAdd, Int.reduceMul, Int.reduceSub]
      obtain rfl := Option.some.inj h
      first | rfl | (simp only [List.length_set, go_sem]; done)
    · refine br_f hb ?_
      obtain rfl := Option.some.inj h
      first | rfl | (simp only [List.length_set, go_sem]; done)
noncomputable def i_System_digestText (s : System) : Option ((List UInt8)) :=
  br (fits ((([(115 : UInt8), (121 : UInt8), (115 : UInt8), (116 : UInt8), (101 : UInt8), (109 : UInt8)] : List UInt8) ++ ([(UInt8.ofInt s.Rows), (UInt8.ofInt s.Cols), (UInt8.ofInt s.Publics)] : List UInt8)).length) 1) (
    (i_System_matrices s).bind fun r_ =>
    (i_four_o ((r_.1.length : Nat) : Int) (([(115 : UInt8), (121 : UInt8), (115 : UInt8), (116 : UInt8), (101 : UInt8), (109 : UInt8)] : List UInt8) ++ ([(UInt8.ofInt s.Rows), (UInt8.ofInt s.Cols), (UInt8.ofInt s.Publics)] : List UInt8))).bind fun r_2 =>
    (Loop (i_System_digestText_1_s ([(UInt8.ofInt s.Rows), (UInt8.ofInt s.Cols), (UInt8.ofInt s.Publics)] : List UInt8) r_.1 r_.2.1 r_.2.2 (0 : Int) r_.1 ((r_.1.length : Nat) : Int) s.Rows s.Cols s.Publics s.A s.B s.C) (r_2, (0 : Int))).bind fun e_ =>
    (i_four_o ((r_.2.1.length : Nat) : Int) e_.1).bind fun r_4 =>
    (Loop (i_System_digestText_2_s ([(UInt8.ofInt s.Rows), (UInt8.ofInt s.Cols), (UInt8.ofInt s.Publics)] : List UInt8) r_.1 r_.2.1 r_.2.2 (1 : Int) r_.2.1 ((r_.2.1.length : Nat) : Int) s.Rows s.Cols s.Publics s.A s.B s.C) (r_4, (0 : Int))).bind fun e_2 =>
    (i_four_o ((r_.2.2.length : Nat) : Int) e_2.1).bind fun r_6 =>
    (Loop (i_System_digestText_3_s ([(UInt8.ofInt s.Rows), (UInt8.ofInt s.Cols), (UInt8.ofInt s.Publics)] : List UInt8) r_.1 r_.2.1 r_.2.2 (2 : Int) r_.2.2 ((r_.2.2.length : Nat) : Int) s.Rows s.Cols s.Publics s.A s.B s.C) (r_6, (0 : Int))).bind fun e_3 =>
    some e_3.1) (
    none)
theorem i_System_digestText_c {s : System} {r : (List UInt8)} (h : i_System_digestText s = some r) : Call tab ow 173 [.agg [I s.Rows, I s.Cols, I s.Publics, sl eEntry s.A, sl eEntry s.B, sl eEntry s.C]] [] = some (sl eU8 r, []) := by
  rw [run_i_System_digestText]
  unfold i_System_digestText at h
  simp +decide only [b_i_System_digestText, go_sem, reduceIte, Nat.reduceAdd, Int.reduceAdd, Int.reduceMul, Int.reduceSub]
  obtain ⟨hb, h⟩ := brg h
  refine br_t hb ?_
  obtain ⟨r_, h1, h⟩ := bd h
  refine call_aft (i_System_matrices_c h1) ?_
  simp +decide only [go_sem, reduceIte, Nat.reduceAdd, Int.reduceAdd, Int.reduceMul, Int.reduceSub]
  refine unroll_of ?_
  simp +decide only [b_i_System_digestText_3, go_sem, reduceIte, Nat.reduceAdd, Int.reduceAdd, Int.reduceMul, Int.reduceSub]
  obtain ⟨r_2, h1, h⟩ := bd h
  refine call_aft (i_four_o_c h1) ?_
  simp +decide only [go_sem, reduceIte, Nat.reduceAdd, Int.reduceAdd, Int.reduceMul, Int.reduceSub]
  obtain ⟨e_, h1, h⟩ := bd h
  refine goR_of (i_System_digestText_1_l h1) ?_
  simp +decide only [go_sem, reduceIte, Nat.reduceAdd, Int.reduceAdd, Int.reduceMul, Int.reduceSub]
  refine unroll_of ?_
  simp +decide only [b_i_System_digestText_3, go_sem, reduceIte, Nat.reduceAdd, Int.reduceAdd, Int.reduceMul, Int.reduceSub]
  obtain ⟨r_4, h1, h⟩ := bd h
  refine call_aft (i_four_o_c h1) ?_
  simp +decide only [go_sem, reduceIte, Nat.reduceAdd, Int.reduceAdd, Int.reduceMul, Int.reduceSub]
  obtain ⟨e_2, h1, h⟩ := bd h
  refine goR_of (i_System_digestText_2_l h1) ?_
  simp +decide only [go_sem, reduceIte, Nat.reduceAdd, Int.reduceAdd, Int.reduceMul, Int.reduceSub]
  refine unroll_of ?_
  simp +decide only [b_i_System_digestText_3, go_sem, reduceIte, Nat.reduceAdd, Int.reduceAdd, Int.reduceMul, Int.reduceSub]
  obtain ⟨r_6, h1, h⟩ := bd h
  refine call_aft (i_four_o_c h1) ?_
  simp +decide only [go_sem, reduceIte, Nat.reduceAdd, Int.reduceAdd, Int.reduceMul, Int.reduceSub]
  obtain ⟨e_3, h1, h⟩ := bd h
  refine goR_of (i_System_digestText_3_l h1) ?_
  simp +decide only [go_sem, reduceIte, Nat.reduceAdd, Int.reduceAdd, Int.reduceMul, Int.reduceSub]
  refine unroll_of ?_
  simp +decide only [b_i_System_digestText_3, go_sem, reduceIte, Nat.reduceAdd, Int.reduceAdd, Int.reduceMul, Int.reduceSub]
  obtain rfl := Option.some.inj h
  first | rfl | (simp only [List.length_set, go_sem]; done)
end
section
theorem i_SystemDigest_k0 : mkR 4002 [] = rws (eL eU8) [] := rfl
attribute [local go_sem] i_SystemDigest_k0
noncomputable def i_SystemDigest (s : System) : Option ((List UInt8) × Int) :=
  (i_SystemOK s).bind fun r_ =>
  br (!r_) (
    some ((([] : List UInt8)), (1 : Int))) (
    (i_System_digestText s).bind fun r_2 =>
    (i_keccak ([r_2] : List (List UInt8))).bind fun r_3 =>
    some (r_3, (0 : Int)))
theorem i_SystemDigest_c {s : System} {r : (List UInt8) × Int} (h : i_SystemDigest s = some r) : Call tab ow 73 [.agg [I s.Rows, I s.Cols, I s.Publics, sl eEntry s.A, sl eEntry s.B, sl eEntry s.C]] [] = some (.tup [S r.1, I r.2], []) := by
  rw [run_i_SystemDigest]
  unfold i_SystemDigest at h
  simp +decide only [b_i_SystemDigest, go_sem, reduceIte, Nat.reduceAdd]
  obtain ⟨r_, h1, h⟩ := bd h
  refine call_aft (i_SystemOK_c h1) ?_
  simp +decide only [go_sem, reduceIte, Nat.reduceAdd]
  rcases brc h with ⟨hb, h⟩ | ⟨hb, h⟩
  · refine br_t hb ?_
    obtain rfl := Option.some.inj h
    first | rfl | (simp only [List.length_set, go_sem]; done)
  · refine br_f hb ?_
    obtain ⟨r_2, h1, h⟩ := bd h
    refine call_aft (i_System_digestText_c h1) ?_
    simp +decide only [go_sem, reduceIte, Nat.reduceAdd]
    obtain ⟨r_3, h1, h⟩ := bd h
    refine call_aft (i_keccak_c h1) ?_
    simp +decide only [go_sem, reduceIte, Nat.reduceAdd]
    obtain rfl := Option.some.inj h
    first | rfl | (simp only [List.length_set, go_sem]; done)
end
section
theorem s_l10Digest_k0 : mkR 2009 [] = rws eU8 [] := rfl
attribute [local go_sem] s_l10Digest_k0
theorem s_l10Digest_k1 : mkR 3006 [] = rws (eL eEntry) [] := rfl
attribute [local go_sem] s_l10Digest_k1
theorem s_l10Digest_k2 : mkR 12007 [] = rws eU8 [] := rfl
attribute [local go_sem] s_l10Digest_k2
noncomputable def s_l10Digest_2_s (l3 : List UInt8) (l4 : List (List Entry)) (t4 : Int) (c7 : Int) (c8 : Int) (c9 : Int) (c10 : List Entry) (c11 : List Entry) (c12 : List Entry) : (List UInt8) × Int → Option (((List UInt8) × Int) ⊕ (((List UInt8) × Int × Bool)))
  | (t3, t5) =>
    br (decide (0 ≤ t4)) (
      br (decide (t4.toNat < l4.length)) (
        (l4[t4.toNat]?).bind fun x2 =>
        br (decide (t5 < ((x2.length : Nat) : Int))) (
          br (decide (0 ≤ t4)) (
            br (decide (t4.toNat < l4.length)) (
              (l4[t4.toNat]?).bind fun x3 =>
              (atL x3 t5).bind fun x4 =>
              (s_l02Number x4.Value (4 : Int)).bind fun r_2 =>
              br (fits (([(UInt8.ofInt x4.Row), (UInt8.ofInt x4.Col)] : List UInt8).length + r_2.length) 1) (
                br (fits (t3.length + (([(UInt8.ofInt x4.Row), (UInt8.ofInt x4.Col)] : List UInt8) ++ r_2).length) 1) (
                  some (.inl ((t3 ++ (([(UInt8.ofInt x4.Row), (UInt8.ofInt x4.Col)] : List UInt8) ++ r_2)), (IntKind.wrap .i64 (t5 + (1 : Int)))))) (
                  none)) (
                none)) (
              none)) (
            none)) (
          some (.inr (t3, t5, decide (t5 < ((x2.length : Nat) : Int)))))) (
        none)) (
      none)
theorem s_l10Digest_2_l {l3 : List UInt8} {l4 : List (List Entry)} {t4 : Int} {c7 : Int} {c8 : Int} {c9 : Int} {c10 : List Entry} {c11 : List Entry} {c12 : List Entry} {t3 : List UInt8} {t5 : Int} {e : ((List UInt8) × Int × Bool)} (h : Loop (s_l10Digest_2_s l3 l4 t4 c7 c8 c9 c10 c11 c12) (t3, t5) = some e) : LoopX tab ow (.close [11007, 12007, 12011]) b_s_l10Digest_8 ⟨[(3, S t3), (4, .sl 3006 0 l4.length), (5, I t4), (6, I t5)], [(1000, ⟨6, true, [[I c7, I c8, I c9, sl eEntry c10, sl eEntry c11, sl eEntry c12]]⟩), (2009, ⟨1, false, rws eU8 l3⟩), (3006, ⟨1, false, rws (eL eEntry) l4⟩)]⟩ = some ((.exit 2, ⟨[(3, S e.1), (4, .sl 3006 0 l4.length), (5, I t4), (6, I e.2.1), (46, B e.2.2)], [(1000, ⟨6, true, [[I c7, I c8, I c9, sl eEntry c10, sl eEntry c11, sl eEntry c12]]⟩), (2009, ⟨1, false, rws eU8 l3⟩), (3006, ⟨1, false, rws (eL eEntry) l4⟩)]⟩)) := by
  refine loop_runG (S := (List UInt8) × Int) (eS := fun s => ⟨[(3, S s.1), (4, .sl 3006 0 l4.length), (5, I t4), (6, I s.2)], [(1000, ⟨6, true, [[I c7, I c8, I c9, sl eEntry c10, sl eEntry c11, sl eEntry c12]]⟩), (2009, ⟨1, false, rws eU8 l3⟩), (3006, ⟨1, false, rws (eL eEntry) l4⟩)]⟩) (eE := fun e => (.exit 2, ⟨[(3, S e.1), (4, .sl 3006 0 l4.length), (5, I t4), (6, I e.2.1), (46, B e.2.2)], [(1000, ⟨6, true, [[I c7, I c8, I c9, sl eEntry c10, sl eEntry c11, sl eEntry c12]]⟩), (2009, ⟨1, false, rws eU8 l3⟩), (3006, ⟨1, false, rws (eL eEntry) l4⟩)]⟩)) (fun e => ?_) (fun s o h => ?_) h
  · simp [alt]
  · obtain ⟨t3, t5⟩ := s
    simp only [s_l10Digest_2_s] at h
    show Rn tab ow _ _ ⟨[(3, S t3), (4, .sl 3006 0 l4.length), (5, I t4), (6, I t5)], [(1000, ⟨6, true, [[I c7, I c8, I c9, sl eEntry c10, sl eEntry c11, sl eEntry c12]]⟩), (2009, ⟨1, false, rws eU8 l3⟩), (3006, ⟨1, false, rws (eL eEntry) l4⟩)]⟩ = _
    simp +decide only [b_s_l10Digest_8, go_sem, reduceIte, Nat.reduceAdd]
    obtain ⟨hb, h⟩ := brg h
    refine br_t hb ?_
    obtain ⟨hb, h⟩ := brg h
    refine br_t hb ?_
    obtain ⟨x2, h1, h⟩ := bd h
    refine bind_some h1 ?_
    rcases brc h with ⟨hb, h⟩ | ⟨hb, h⟩
    · refine br_t hb ?_
      obtain ⟨hb, h⟩ := brg h
      refine br_t hb ?_
      obtain ⟨hb, h⟩ := brg h
      refine br_t hb ?_
      obtain ⟨x3, h1, h⟩ := bd h
      refine bind_some h1 ?_
      obtain ⟨x4, h1, h⟩ := bd h
      refine bind_some h1 ?_
      obtain ⟨r_2, h1, h⟩ := bd h
      refine call_aftD (s_l02Number_c h1) ?_
      simp +decide only [go_sem, reduceIte, Nat.reduceAdd]
      obtain ⟨hb, h⟩ := brg h
      refine br_t hb ?_
      obtain ⟨hb, h⟩ := brg h
      refine br_t hb ?_
      obtain rfl := Option.some.inj h
      first | rfl | (simp only [List.length_set, go_sem]; done)
    · refine br_f hb ?_
      obtain rfl := Option.some.inj h
      first | rfl | (simp only [List.length_set, go_sem]; done)
noncomputable def s_l10Digest_1_s (l : List UInt8) (l2 : List (List Entry)) (c : Int) (c2 : Int) (c3 : Int) (c4 : List Entry) (c5 : List Entry) (c6 : List Entry) : (List UInt8) × Int → Option (((List UInt8) × Int) ⊕ (((List UInt8) × Int × Bool)))
  | (t, t2) =>
    br (decide (t2 < (3 : Int))) (
      br (decide (0 ≤ t2)) (
        br (decide (t2.toNat < l2.length)) (
          (l2[t2.toNat]?).bind fun x =>
          (s_l02Number ((x.length : Nat) : Int) (4 : Int)).bind fun r_ =>
          br (fits (t.length + r_.length) 1) (
            (Loop (s_l10Digest_2_s l l2 t2 c c2 c3 c4 c5 c6) ((t ++ r_), (0 : Int))).bind fun e_ =>
            some (.inl (e_.1, (IntKind.wrap .i64 (t2 + (1 : Int)))))) (
            none)) (
          none)) (
        none)) (
      some (.inr (t, t2, decide (t2 < (3 : Int)))))
theorem s_l10Digest_1_l {l : List UInt8} {l2 : List (List Entry)} {c : Int} {c2 : Int} {c3 : Int} {c4 : List Entry} {c5 : List Entry} {c6 : List Entry} {t : List UInt8} {t2 : Int} {e : ((List UInt8) × Int × Bool)} (h : Loop (s_l10Digest_1_s l l2 c c2 c3 c4 c5 c6) (t, t2) = some e) : LoopX tab ow (.close [7006, 11007, 12007, 12011]) b_s_l10Digest_4 ⟨[(3, S t), (4, .sl 3006 0 l2.length), (5, I t2)], [(1000, ⟨6, true, [[I c, I c2, I c3, sl eEntry c4, sl eEntry c5, sl eEntry c6]]⟩), (2009, ⟨1, false, rws eU8 l⟩), (3006, ⟨1, false, rws (eL eEntry) l2⟩)]⟩ = some ((.exit 0, ⟨[(3, S e.1), (4, .sl 3006 0 l2.length), (5, I e.2.1), (28, B e.2.2)], [(1000, ⟨6, true, [[I c, I c2, I c3, sl eEntry c4, sl eEntry c5, sl eEntry c6]]⟩), (2009, ⟨1, false, rws eU8 l⟩), (3006, ⟨1, false, rws (eL eEntry) l2⟩)]⟩)) := by
  refine loop_runG (S := (List UInt8) × Int) (eS := fun s => ⟨[(3, S s.1), (4, .sl 3006 0 l2.length), (5, I s.2)], [(1000, ⟨6, true, [[I c, I c2, I c3, sl eEntry c4, sl eEntry c5, sl eEntry c6]]⟩), (2009, ⟨1, false, rws eU8 l⟩), (3006, ⟨1, false, rws (eL eEntry) l2⟩)]⟩) (eE := fun e => (.exit 0, ⟨[(3, S e.1), (4, .sl 3006 0 l2.length), (5, I e.2.1), (28, B e.2.2)], [(1000, ⟨6, true, [[I c, I c2, I c3, sl eEntry c4, sl eEntry c5, sl eEntry c6]]⟩), (2009, ⟨1, false, rws eU8 l⟩), (3006, ⟨1, false, rws (eL eEntry) l2⟩)]⟩)) (fun e => ?_) (fun s o h => ?_) h
  · simp [alt]
  · obtain ⟨t, t2⟩ := s
    simp only [s_l10Digest_1_s] at h
    show Rn tab ow _ _ ⟨[(3, S t), (4, .sl 3006 0 l2.length), (5, I t2)], [(1000, ⟨6, true, [[I c, I c2, I c3, sl eEntry c4, sl eEntry c5, sl eEntry c6]]⟩), (2009, ⟨1, false, rws eU8 l⟩), (3006, ⟨1, false, rws (eL eEntry) l2⟩)]⟩ = _
    simp +decide only [b_s_l10Digest_4, go_sem, reduceIte, Nat.reduceAdd]
    rcases brc h with ⟨hb, h⟩ | ⟨hb, h⟩
    · refine br_t hb ?_
      obtain ⟨hb, h⟩ := brg h
      refine br_t hb ?_
      obtain ⟨hb, h⟩ := brg h
      refine br_t hb ?_
      obtain ⟨x, h1, h⟩ := bd h
      refine bind_some h1 ?_
      obtain ⟨r_, h1, h⟩ := bd h
      refine call_aft (s_l02Number_c h1) ?_
      simp +decide only [go_sem, reduceIte, Nat.reduceAdd]
      obtain ⟨hb, h⟩ := brg h
      refine br_t hb ?_
      obtain ⟨e_, h1, h⟩ := bd h
      refine goR_of (s_l10Digest_2_l h1) ?_
      simp +decide only [go_sem, reduceIte, Nat.reduceAdd]
      obtain rfl := Option.some.inj h
      first | rfl | (simp only [List.length_set, go_sem]; done)
    · refine br_f hb ?_
      obtain rfl := Option.some.inj h
      first | rfl | (simp only [List.length_set, go_sem]; done)
noncomputable def s_l10Digest (ListtoArray : System) : Option ((List UInt8)) :=
  br (fits ((([115, 121, 115, 116, 101, 109] : List UInt8)).length + ([(UInt8.ofInt ListtoArray.Rows), (UInt8.ofInt ListtoArray.Cols), (UInt8.ofInt ListtoArray.Publics)] : List UInt8).length) 1) (
    (Loop (s_l10Digest_1_s ([(UInt8.ofInt ListtoArray.Rows), (UInt8.ofInt ListtoArray.Cols), (UInt8.ofInt ListtoArray.Publics)] : List UInt8) ([ListtoArray.A, ListtoArray.B, ListtoArray.C] : List (List Entry)) ListtoArray.Rows ListtoArray.Cols ListtoArray.Publics ListtoArray.A ListtoArray.B ListtoArray.C) (((([115, 121, 115, 116, 101, 109] : List UInt8)) ++ ([(UInt8.ofInt ListtoArray.Rows), (UInt8.ofInt ListtoArray.Cols), (UInt8.ofInt ListtoArray.Publics)] : List UInt8)), (0 : Int))).bind fun e_2 =>
    (s_l03Hash e_2.1).bind fun r_3 =>
    some r_3) (
    none)
theorem s_l10Digest_c {ListtoArray : System} {r : (List UInt8)} (h : s_l10Digest ListtoArray = some r) : Call tab ow 174 [.agg [I ListtoArray.Rows, I ListtoArray.Cols, I ListtoArray.Publics, sl eEntry ListtoArray.A, sl eEntry ListtoArray.B, sl eEntry ListtoArray.C]] [] = some (S r, []) := by
  rw [run_s_l10Digest]
  unfold s_l10Digest at h
  simp +decide only [b_s_l10Digest, go_sem, reduceIte, Nat.reduceAdd]
  obtain ⟨hb, h⟩ := brg h
  refine br_t hb ?_
  obtain ⟨e_2, h1, h⟩ := bd h
  refine goR_of (s_l10Digest_1_l h1) ?_
  simp +decide only [go_sem, reduceIte, Nat.reduceAdd]
  obtain ⟨r_3, h1, h⟩ := bd h
  refine call_aft (s_l03Hash_c h1) ?_
  simp +decide only [go_sem, reduceIte, Nat.reduceAdd]
  obtain rfl := Option.some.inj h
  first | rfl | (simp only [List.length_set, go_sem]; done)
end
noncomputable def s_SystemDigest (s : System) : Option ((List UInt8) × Int) :=
  (s_SystemOK s).bind fun r_ =>
  br (!r_) (
    some ((([] : List UInt8)), (1 : Int))) (
    (s_l10Digest s).bind fun r_2 =>
    some (r_2, (0 : Int)))
theorem s_SystemDigest_c {s : System} {r : (List UInt8) × Int} (h : s_SystemDigest s = some r) : Call tab ow 74 [.agg [I s.Rows, I s.Cols, I s.Publics, sl eEntry s.A, sl eEntry s.B, sl eEntry s.C]] [] = some (.tup [S r.1, I r.2], []) := by
  rw [run_s_SystemDigest]
  unfold s_SystemDigest at h
  simp +decide only [b_s_SystemDigest, go_sem, reduceIte, Nat.reduceAdd]
  obtain ⟨r_, h1, h⟩ := bd h
  refine call_aft (s_SystemOK_c h1) ?_
  simp +decide only [go_sem, reduceIte, Nat.reduceAdd]
  rcases brc h with ⟨hb, h⟩ | ⟨hb, h⟩
  · refine br_t hb ?_
    obtain rfl := Option.some.inj h
    first | rfl | (simp only [List.length_set, go_sem]; done)
  · refine br_f hb ?_
    obtain ⟨r_2, h1, h⟩ := bd h
    refine call_aft (s_l10Digest_c h1) ?_
    simp +decide only [go_sem, reduceIte, Nat.reduceAdd]
    obtain rfl := Option.some.inj h
    first | rfl | (simp only [List.length_set, go_sem]; done)
end Go.AI.Fn

set_option linter.unusedVariables false
set_option linter.unusedSimpArgs false
set_option maxRecDepth 100000
set_option maxHeartbeats 1000000
namespace Go.AI.Fn
section
theorem w_FnMatrix_k0 : mkR 7000 [] = rws eExt [] := rfl
attribute [local go_sem] w_FnMatrix_k0
theorem w_FnMatrix_k1 : mkR 11007 [] = rws eExt [] := rfl
attribute [local go_sem] w_FnMatrix_k1
theorem w_FnMatrix_k2 : mkR 12000 [] = rws eExt [] := rfl
attribute [local go_sem] w_FnMatrix_k2
theorem w_FnMatrix_k3 : mkR 16007 [] = rws eExt [] := rfl
attribute [local go_sem] w_FnMatrix_k3
noncomputable def w_FnMatrix_1_s (ListtoArray2 : List UInt8) (t : List UInt8) (t2 : Int) (t3 : Int) (c : Int) (c2 : Int) (c3 : Int) (c4 : List Entry) (c5 : List Entry) (c6 : List Entry) : (List Ext) × Int → Option (((List Ext) × Int) ⊕ (((List Ext) × Int × Bool)))
  | (l, t4) =>
    br (decide (t4 < c)) (
      br (decide (0 ≤ (IntKind.wrap .u64 t4))) (
        br (fits ((l ++ ([(Ext.mk (and64 .i64 (shr64 .i64 t2 (IntKind.wrap .u64 t4)) (1 : Int)) (0 : Int))] : List Ext)).length) 16) (
          some (.inl ((l ++ ([(Ext.mk (and64 .i64 (shr64 .i64 t2 (IntKind.wrap .u64 t4)) (1 : Int)) (0 : Int))] : List Ext)), (IntKind.wrap .i64 (t4 + (1 : Int)))))) (
          none)) (
        none)) (
      some (.inr (l, t4, decide (t4 < c))))
theorem w_FnMatrix_1_l {ListtoArray2 : List UInt8} {t : List UInt8} {t2 : Int} {t3 : Int} {c : Int} {c2 : Int} {c3 : Int} {c4 : List Entry} {c5 : List Entry} {c6 : List Entry} {l : List Ext} {t4 : Int} {e : ((List Ext) × Int × Bool)} (h : Loop (w_FnMatrix_1_s ListtoArray2 t t2 t3 c c2 c3 c4 c5 c6) (l, t4) = some e) : LoopX tab ow (.close [11007, 11008]) b_w_FnMatrix_8 ⟨[(0, sl eU8 ListtoArray2), (1, sl eU8 t), (5, .ptr 4002 0 0 1), (6, I t2), (7, I t3), (8, .sl 7000 0 l.length), (9, I t4)], [(4002, ⟨6, true, [[I c, I c2, I c3, sl eEntry c4, sl eEntry c5, sl eEntry c6]]⟩), (7000, ⟨2, false, rws eExt l⟩)]⟩ = some ((.exit 0, ⟨[(0, sl eU8 ListtoArray2), (1, sl eU8 t), (5, .ptr 4002 0 0 1), (6, I t2), (7, I t3), (8, .sl 7000 0 e.1.length), (9, I e.2.1), (52, B e.2.2)], [(4002, ⟨6, true, [[I c, I c2, I c3, sl eEntry c4, sl eEntry c5, sl eEntry c6]]⟩), (7000, ⟨2, false, rws eExt e.1⟩)]⟩)) := by
  refine loop_runG (S := (List Ext) × Int) (eS := fun s => ⟨[(0, sl eU8 ListtoArray2), (1, sl eU8 t), (5, .ptr 4002 0 0 1), (6, I t2), (7, I t3), (8, .sl 7000 0 s.1.length), (9, I s.2)], [(4002, ⟨6, true, [[I c, I c2, I c3, sl eEntry c4, sl eEntry c5, sl eEntry c6]]⟩), (7000, ⟨2, false, rws eExt s.1⟩)]⟩) (eE := fun e => (.exit 0, ⟨[(0, sl eU8 ListtoArray2), (1, sl eU8 t), (5, .ptr 4002 0 0 1), (6, I t2), (7, I t3), (8, .sl 7000 0 e.1.length), (9, I e.2.1), (52, B e.2.2)], [(4002, ⟨6, true, [[I c, I c2, I c3, sl eEntry c4, sl eEntry c5, sl eEntry c6]]⟩), (7000, ⟨2, false, rws eExt e.1⟩)]⟩)) (fun e => ?_) (fun s o h => ?_) h
  · simp [alt]
  · obtain ⟨l, t4⟩ := s
    simp only [w_FnMatrix_1_s] at h
    show Rn tab ow _ _ ⟨[(0, sl eU8 ListtoArray2), (1, sl eU8 t), (5, .ptr 4002 0 0 1), (6, I t2), (7, I t3), (8, .sl 7000 0 l.length), (9, I t4)], [(4002, ⟨6, true, [[I c, I c2, I c3, sl eEntry c4, sl eEntry c5, sl eEntry c6]]⟩), (7000, ⟨2, false, rws eExt l⟩)]⟩ = _
    simp +decide only [b_w_FnMatrix_8, go_sem, reduceIte, Nat.reduceAdd]
    rcases brc h with ⟨hb, h⟩ | ⟨hb, h⟩
    · refine br_t hb ?_
      obtain ⟨hb, h⟩ := brg h
      refine br_t hb ?_
      obtain ⟨hb, h⟩ := brg h
      refine br_t hb ?_
      obtain rfl := Option.some.inj h
      first | rfl | (simp only [List.length_set, go_sem]; done)
    · refine br_f hb ?_
      obtain rfl := Option.some.inj h
      first | rfl | (simp only [List.length_set, go_sem]; done)
noncomputable def w_FnMatrix_2_s (l2 : List Ext) (ListtoArray3 : List UInt8) (t5 : List UInt8) (t6 : Int) (t7 : Int) (c7 : Int) (c8 : Int) (c9 : Int) (c10 : List Entry) (c11 : List Entry) (c12 : List Entry) : (List Ext) × Int → Option (((List Ext) × Int) ⊕ (((List Ext) × Int × Bool)))
  | (l3, t8) =>
    br (decide (t8 < c8)) (
      br (decide (0 ≤ (IntKind.wrap .u64 t8))) (
        br (fits ((l3 ++ ([(Ext.mk (and64 .i64 (shr64 .i64 t7 (IntKind.wrap .u64 t8)) (1 : Int)) (0 : Int))] : List Ext)).length) 16) (
          some (.inl ((l3 ++ ([(Ext.mk (and64 .i64 (shr64 .i64 t7 (IntKind.wrap .u64 t8)) (1 : Int)) (0 : Int))] : List Ext)), (IntKind.wrap .i64 (t8 + (1 : Int)))))) (
          none)) (
        none)) (
      some (.inr (l3, t8, decide (t8 < c8))))
theorem w_FnMatrix_2_l {l2 : List Ext} {ListtoArray3 : List UInt8} {t5 : List UInt8} {t6 : Int} {t7 : Int} {c7 : Int} {c8 : Int} {c9 : Int} {c10 : List Entry} {c11 : List Entry} {c12 : List Entry} {l3 : List Ext} {t8 : Int} {e : ((List Ext) × Int × Bool)} (h : Loop (w_FnMatrix_2_s l2 ListtoArray3 t5 t6 t7 c7 c8 c9 c10 c11 c12) (l3, t8) = some e) : LoopX tab ow (.close [16007, 16008]) b_w_FnMatrix_13 ⟨[(0, sl eU8 ListtoArray3), (1, sl eU8 t5), (5, .ptr 4002 0 0 1), (6, I t6), (7, I t7), (8, .sl 7000 0 l2.length), (10, .sl 12000 0 l3.length), (11, I t8)], [(4002, ⟨6, true, [[I c7, I c8, I c9, sl eEntry c10, sl eEntry c11, sl eEntry c12]]⟩), (7000, ⟨2, false, rws eExt l2⟩), (12000, ⟨2, false, rws eExt l3⟩)]⟩ = some ((.exit 2, ⟨[(0, sl eU8 ListtoArray3), (1, sl eU8 t5), (5, .ptr 4002 0 0 1), (6, I t6), (7, I t7), (8, .sl 7000 0 l2.length), (10, .sl 12000 0 e.1.length), (11, I e.2.1), (68, B e.2.2)], [(4002, ⟨6, true, [[I c7, I c8, I c9, sl eEntry c10, sl eEntry c11, sl eEntry c12]]⟩), (7000, ⟨2, false, rws eExt l2⟩), (12000, ⟨2, false, rws eExt e.1⟩)]⟩)) := by
  refine loop_runG (S := (List Ext) × Int) (eS := fun s => ⟨[(0, sl eU8 ListtoArray3), (1, sl eU8 t5), (5, .ptr 4002 0 0 1), (6, I t6), (7, I t7), (8, .sl 7000 0 l2.length), (10, .sl 12000 0 s.1.length), (11, I s.2)], [(4002, ⟨6, true, [[I c7, I c8, I c9, sl eEntry c10, sl eEntry c11, sl eEntry c12]]⟩), (7000, ⟨2, false, rws eExt l2⟩), (12000, ⟨2, false, rws eExt s.1⟩)]⟩) (eE := fun e => (.exit 2, ⟨[(0, sl eU8 ListtoArray3), (1, sl eU8 t5), (5, .ptr 4002 0 0 1), (6, I t6), (7, I t7), (8, .sl 7000 0 l2.length), (10, .sl 12000 0 e.1.length), (11, I e.2.1), (68, B e.2.2)], [(4002, ⟨6, true, [[I c7, I c8, I c9, sl eEntry c10, sl eEntry c11, sl eEntry c12]]⟩), (7000, ⟨2, false, rws eExt l2⟩), (12000, ⟨2, false, rws eExt e.1⟩)]⟩)) (fun e => ?_) (fun s o h => ?_) h
  · simp [alt]
  · obtain ⟨l3, t8⟩ := s
    simp only [w_FnMatrix_2_s] at h
    show Rn tab ow _ _ ⟨[(0, sl eU8 ListtoArray3), (1, sl eU8 t5), (5, .ptr 4002 0 0 1), (6, I t6), (7, I t7), (8, .sl 7000 0 l2.length), (10, .sl 12000 0 l3.length), (11, I t8)], [(4002, ⟨6, true, [[I c7, I c8, I c9, sl eEntry c10, sl eEntry c11, sl eEntry c12]]⟩), (7000, ⟨2, false, rws eExt l2⟩), (12000, ⟨2, false, rws eExt l3⟩)]⟩ = _
    simp +decide only [b_w_FnMatrix_13, go_sem, reduceIte, Nat.reduceAdd]
    rcases brc h with ⟨hb, h⟩ | ⟨hb, h⟩
    · refine br_t hb ?_
      obtain ⟨hb, h⟩ := brg h
      refine br_t hb ?_
      obtain ⟨hb, h⟩ := brg h
      refine br_t hb ?_
      obtain rfl := Option.some.inj h
      first | rfl | (simp only [List.length_set, go_sem]; done)
    · refine br_f hb ?_
      obtain rfl := Option.some.inj h
      first | rfl | (simp only [List.length_set, go_sem]; done)
noncomputable def w_FnMatrix_3_s (l4 : List Ext) (l5 : List Ext) (ListtoArray4 : List UInt8) (t9 : List UInt8) (t10 : Int) (t11 : Int) (t12 : Int) (c13 : Int) (c14 : Int) (c15 : Int) (c16 : List Entry) (c17 : List Entry) (c18 : List Entry) (c19 : Int) (c20 : Int) : Int × Int → Option ((Int × Int) ⊕ ((Int × Int × Bool)))
  | (t13, t14) =>
    br (decide (t14 < ((c16.length : Nat) : Int))) (
      (atL c16 t14).bind fun x =>
      br (x.Row == t10) (
        (atL c16 t14).bind fun x2 =>
        br (x2.Col == t11) (
          (atL c16 t14).bind fun x3 =>
          some (.inl (x3.Value, (IntKind.wrap .i64 (t14 + (1 : Int)))))) (
          some (.inl (t13, (IntKind.wrap .i64 (t14 + (1 : Int))))))) (
        some (.inl (t13, (IntKind.wrap .i64 (t14 + (1 : Int))))))) (
      some (.inr (t13, t14, decide (t14 < ((c16.length : Nat) : Int)))))
theorem w_FnMatrix_3_l {l4 : List Ext} {l5 : List Ext} {ListtoArray4 : List UInt8} {t9 : List UInt8} {t10 : Int} {t11 : Int} {t12 : Int} {c13 : Int} {c14 : Int} {c15 : Int} {c16 : List Entry} {c17 : List Entry} {c18 : List Entry} {c19 : Int} {c20 : Int} {t13 : Int} {t14 : Int} {e : (Int × Int × Bool)} (h : Loop (w_FnMatrix_3_s l4 l5 ListtoArray4 t9 t10 t11 t12 c13 c14 c15 c16 c17 c18 c19 c20) (t13, t14) = some e) : LoopX tab ow (.close []) b_w_FnMatrix_19 ⟨[(0, sl eU8 ListtoArray4), (1, sl eU8 t9), (5, .ptr 4002 0 0 1), (6, I t10), (7, I t11), (12, .ptr 17008 0 0 1), (13, I t12), (14, I t13), (15, I t14)], [(4002, ⟨6, true, [[I c13, I c14, I c15, sl eEntry c16, sl eEntry c17, sl eEntry c18]]⟩), (7000, ⟨2, false, rws eExt l4⟩), (12000, ⟨2, false, rws eExt l5⟩), (17008, ⟨2, true, [[I c19, I c20]]⟩)]⟩ = some ((.exit 4, ⟨[(0, sl eU8 ListtoArray4), (1, sl eU8 t9), (5, .ptr 4002 0 0 1), (6, I t10), (7, I t11), (12, .ptr 17008 0 0 1), (13, I t12), (14, I e.1), (15, I e.2.1), (92, B e.2.2)], [(4002, ⟨6, true, [[I c13, I c14, I c15, sl eEntry c16, sl eEntry c17, sl eEntry c18]]⟩), (7000, ⟨2, false, rws eExt l4⟩), (12000, ⟨2, false, rws eExt l5⟩), (17008, ⟨2, true, [[I c19, I c20]]⟩)]⟩)) := by
  refine loop_runG (S := Int × Int) (eS := fun s => ⟨[(0, sl eU8 ListtoArray4), (1, sl eU8 t9), (5, .ptr 4002 0 0 1), (6, I t10), (7, I t11), (12, .ptr 17008 0 0 1), (13, I t12), (14, I s.1), (15, I s.2)], [(4002, ⟨6, true, [[I c13, I c14, I c15, sl eEntry c16, sl eEntry c17, sl eEntry c18]]⟩), (7000, ⟨2, false, rws eExt l4⟩), (12000, ⟨2, false, rws eExt l5⟩), (17008, ⟨2, true, [[I c19, I c20]]⟩)]⟩) (eE := fun e => (.exit 4, ⟨[(0, sl eU8 ListtoArray4), (1, sl eU8 t9), (5, .ptr 4002 0 0 1), (6, I t10), (7, I t11), (12, .ptr 17008 0 0 1), (13, I t12), (14, I e.1), (15, I e.2.1), (92, B e.2.2)], [(4002, ⟨6, true, [[I c13, I c14, I c15, sl eEntry c16, sl eEntry c17, sl eEntry c18]]⟩), (7000, ⟨2, false, rws eExt l4⟩), (12000, ⟨2, false, rws eExt l5⟩), (17008, ⟨2, true, [[I c19, I c20]]⟩)]⟩)) (fun e => ?_) (fun s o h => ?_) h
  · simp [alt]
  · obtain ⟨t13, t14⟩ := s
    simp only [w_FnMatrix_3_s] at h
    show Rn tab ow _ _ ⟨[(0, sl eU8 ListtoArray4), (1, sl eU8 t9), (5, .ptr 4002 0 0 1), (6, I t10), (7, I t11), (12, .ptr 17008 0 0 1), (13, I t12), (14, I t13), (15, I t14)], [(4002, ⟨6, true, [[I c13, I c14, I c15, sl eEntry c16, sl eEntry c17, sl eEntry c18]]⟩), (7000, ⟨2, false, rws eExt l4⟩), (12000, ⟨2, false, rws eExt l5⟩), (17008, ⟨2, true, [[I c19, I c20]]⟩)]⟩ = _
    simp +decide only [b_w_FnMatrix_19, go_sem, reduceIte, Nat.reduceAdd]
    rcases brc h with ⟨hb, h⟩ | ⟨hb, h⟩
    · refine br_t hb ?_
      obtain ⟨x, h1, h⟩ := bd h
      refine bind_some h1 ?_
      rcases brc h with ⟨hb, h⟩ | ⟨hb, h⟩
      · refine br_t hb ?_
        obtain ⟨x2, h1, h⟩ := bd h
        refine bind_some h1 ?_
        rcases brc h with ⟨hb, h⟩ | ⟨hb, h⟩
        · refine br_t hb ?_
          obtain ⟨x3, h1, h⟩ := bd h
          refine bind_some h1 ?_
          obtain rfl := Option.some.inj h
          first | rfl | (simp only [List.length_set, go_sem]; done)
        · refine br_f hb ?_
          obtain rfl := Option.some.inj h
          first | rfl | (simp only [List.length_set, go_sem]; done)
      · refine br_f hb ?_
        obtain rfl := Option.some.inj h
        first | rfl | (simp only [List.length_set, go_sem]; done)
    · refine br_f hb ?_
      obtain rfl := Option.some.inj h
      first | rfl | (simp only [List.length_set, go_sem]; done)
noncomputable def w_FnMatrix (ListtoArray : (List UInt8)) (a : (List UInt8)) : Option (Bool) :=
  br (decide (((ListtoArray.length : Nat) : Int) > (1048576 : Int))) (
    some true) (
    br (decide (((a.length : Nat) : Int) > (1048576 : Int))) (
      some true) (
      (s_SystemDrawn ListtoArray).bind fun r_ =>
      br (decide (0 ≤ (IntKind.wrap .u64 r_.Rows))) (
        (w_at a (0 : Int) (shl64 .i64 (1 : Int) (IntKind.wrap .u64 r_.Rows))).bind fun r_2 =>
        br (decide (0 ≤ (IntKind.wrap .u64 r_.Cols))) (
          (w_at a (1 : Int) (shl64 .i64 (1 : Int) (IntKind.wrap .u64 r_.Cols))).bind fun r_3 =>
          (Loop (w_FnMatrix_1_s ListtoArray a r_2 r_3 r_.Rows r_.Cols r_.Publics r_.A r_.B r_.C) (([] : List Ext), (0 : Int))).bind fun e_ =>
          (Loop (w_FnMatrix_2_s e_.1 ListtoArray a r_2 r_3 r_.Rows r_.Cols r_.Publics r_.A r_.B r_.C) (([] : List Ext), (0 : Int))).bind fun e_2 =>
          (i_MatrixAt r_.A e_.1 e_2.1).bind fun r_4 =>
          (Loop (w_FnMatrix_3_s e_.1 e_2.1 ListtoArray a r_2 r_3 r_4.2 r_.Rows r_.Cols r_.Publics r_.A r_.B r_.C r_4.1.A r_4.1.B) ((0 : Int), (0 : Int))).bind fun e_3 =>
          (s_ExtsOf a r_.Rows).bind fun r_5 =>
          (s_ExtsOf ListtoArray r_.Cols).bind fun r_6 =>
          (i_MatrixAt r_.B r_5 r_6).bind fun r_7 =>
          (s_MatrixAt r_.B r_5 r_6).bind fun r_8 =>
          (i_SystemDigest r_).bind fun r_9 =>
          (s_SystemDigest r_).bind fun r_10 =>
          br (r_4.2 == (0 : Int)) (
            br (r_4.1.A == e_3.1) (
              br (r_4.1.B == (0 : Int)) (
                br (r_7.2 == (0 : Int)) (
                  br (r_7.1.A == r_8.1.A) (
                    br (r_7.1.B == r_8.1.B) (
                      br (r_9.2 == (0 : Int)) (
                        br (r_9.1 == r_10.1) (
                          some (((r_9.1.length : Nat) : Int) == (32 : Int))) (
                          some false)) (
                        some false)) (
                      some false)) (
                    some false)) (
                  some false)) (
                some false)) (
              some false)) (
            some false)) (
          none)) (
        none)))
theorem w_FnMatrix_c {ListtoArray : (List UInt8)} {a : (List UInt8)} {r : Bool} (h : w_FnMatrix ListtoArray a = some r) : Call tab ow 12 [sl eU8 ListtoArray, sl eU8 a] [] = some (B r, []) := by
  rw [run_w_FnMatrix]
  unfold w_FnMatrix at h
  simp +decide only [b_w_FnMatrix, go_sem, reduceIte, Nat.reduceAdd]
  rcases brc h with ⟨hb, h⟩ | ⟨hb, h⟩
  · refine br_t hb ?_
    obtain rfl := Option.some.inj h
    first | rfl | (simp only [List.length_set, go_sem]; done)
  · refine br_f hb ?_
    rcases brc h with ⟨hb, h⟩ | ⟨hb, h⟩
    · refine br_t hb ?_
      obtain rfl := Option.some.inj h
      first | rfl | (simp only [List.length_set, go_sem]; done)
    · refine br_f hb ?_
      obtain ⟨r_, h1, h⟩ := bd h
      refine call_aft (s_SystemDrawn_c h1) ?_
      simp +decide only [go_sem, reduceIte, Nat.reduceAdd]
      obtain ⟨hb, h⟩ := brg h
      refine br_t hb ?_
      obtain ⟨r_2, h1, h⟩ := bd h
      refine call_aft (w_at_c h1) ?_
      simp +decide only [go_sem, reduceIte, Nat.reduceAdd]
      obtain ⟨hb, h⟩ := brg h
      refine br_t hb ?_
      obtain ⟨r_3, h1, h⟩ := bd h
      refine call_aft (w_at_c h1) ?_
      simp +decide only [go_sem, reduceIte, Nat.reduceAdd]
      obtain ⟨e_, h1, h⟩ := bd h
      refine goR_of (w_FnMatrix_1_l h1) ?_
      simp +decide only [go_sem, reduceIte, Nat.reduceAdd]
      obtain ⟨e_2, h1, h⟩ := bd h
      refine goR_of (w_FnMatrix_2_l h1) ?_
      simp +decide only [go_sem, reduceIte, Nat.reduceAdd]
      obtain ⟨r_4, h1, h⟩ := bd h
      refine call_aft (i_MatrixAt_c h1) ?_
      simp +decide only [go_sem, reduceIte, Nat.reduceAdd]
      obtain ⟨e_3, h1, h⟩ := bd h
      refine goR_of (w_FnMatrix_3_l h1) ?_
      simp +decide only [go_sem, reduceIte, Nat.reduceAdd]
      obtain ⟨r_5, h1, h⟩ := bd h
      refine call_aft (s_ExtsOf_c h1) ?_
      simp +decide only [go_sem, reduceIte, Nat.reduceAdd]
      obtain ⟨r_6, h1, h⟩ := bd h
      refine call_aft (s_ExtsOf_c h1) ?_
      simp +decide only [go_sem, reduceIte, Nat.reduceAdd]
      obtain ⟨r_7, h1, h⟩ := bd h
      refine call_aft (i_MatrixAt_c h1) ?_
      simp +decide only [go_sem, reduceIte, Nat.reduceAdd]
      obtain ⟨r_8, h1, h⟩ := bd h
      refine call_aft (s_MatrixAt_c h1) ?_
      simp +decide only [go_sem, reduceIte, Nat.reduceAdd]
      obtain ⟨r_9, h1, h⟩ := bd h
      refine call_aft (i_SystemDigest_c h1) ?_
      simp +decide only [go_sem, reduceIte, Nat.reduceAdd]
      obtain ⟨r_10, h1, h⟩ := bd h
      refine call_aft (s_SystemDigest_c h1) ?_
      simp +decide only [go_sem, reduceIte, Nat.reduceAdd]
      rcases brc h with ⟨hb, h⟩ | ⟨hb, h⟩
      · refine br_t hb ?_
        rcases brc h with ⟨hb, h⟩ | ⟨hb, h⟩
        · refine br_t hb ?_
          rcases brc h with ⟨hb, h⟩ | ⟨hb, h⟩
          · refine br_t hb ?_
            rcases brc h with ⟨hb, h⟩ | ⟨hb, h⟩
            · refine br_t hb ?_
              rcases brc h with ⟨hb, h⟩ | ⟨hb, h⟩
              · refine br_t hb ?_
                rcases brc h with ⟨hb, h⟩ | ⟨hb, h⟩
                · refine br_t hb ?_
                  rcases brc h with ⟨hb, h⟩ | ⟨hb, h⟩
                  · refine br_t hb ?_
                    rcases brc h with ⟨hb, h⟩ | ⟨hb, h⟩
                    · refine br_t hb ?_
                      obtain rfl := Option.some.inj h
                      first | rfl | (simp only [List.length_set, go_sem]; done)
                    · refine br_f hb ?_
                      obtain rfl := Option.some.inj h
                      first | rfl | (simp only [List.length_set, go_sem]; done)
                  · refine br_f hb ?_
                    obtain rfl := Option.some.inj h
                    first | rfl | (simp only [List.length_set, go_sem]; done)
                · refine br_f hb ?_
                  obtain rfl := Option.some.inj h
                  first | rfl | (simp only [List.length_set, go_sem]; done)
              · refine br_f hb ?_
                obtain rfl := Option.some.inj h
                first | rfl | (simp only [List.length_set, go_sem]; done)
            · refine br_f hb ?_
              obtain rfl := Option.some.inj h
              first | rfl | (simp only [List.length_set, go_sem]; done)
          · refine br_f hb ?_
            obtain rfl := Option.some.inj h
            first | rfl | (simp only [List.length_set, go_sem]; done)
        · refine br_f hb ?_
          obtain rfl := Option.some.inj h
          first | rfl | (simp only [List.length_set, go_sem]; done)
      · refine br_f hb ?_
        obtain rfl := Option.some.inj h
        first | rfl | (simp only [List.length_set, go_sem]; done)
end
end Go.AI.Fn

