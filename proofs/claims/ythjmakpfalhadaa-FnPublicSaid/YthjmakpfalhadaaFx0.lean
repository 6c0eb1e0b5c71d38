/- Walks through the program, with open values. -/
import Derived.Test.YthjmakpfalhadaaStr
import Derived.Test.YthjmakpfalhadaaTb2
set_option linter.unusedVariables false
set_option linter.unusedSimpArgs false
set_option maxRecDepth 100000
set_option maxHeartbeats 1000000
namespace Go.AI.Fn
noncomputable def s_l00Source (code : (List UInt8)) : Option (l00Src) :=
  some (l00Src.mk code (0 : Int) (((code.length : Nat) : Int).tmod (1000 : Int)))
theorem s_l00Source_c {code : (List UInt8)} {r : l00Src} (h : s_l00Source code = some r) : Call tab ow 93 [sl eU8 code] [] = some (.ptr 0 0 0 1, [⟨3, true, [[sl eU8 r.code, I r.at_, I r.seed]]⟩]) := by
  rw [run_s_l00Source]
  unfold s_l00Source at h
  simp +decide only [b_s_l00Source, go_sem, reduceIte, Nat.reduceAdd]
  obtain rfl := Option.some.inj h
  first | rfl | (simp only [List.length_set, go_sem]; done)
noncomputable def s_l00Src_byte (m : l00Src) : Option (Int × l00Src) :=
  br (decide ((IntKind.wrap .i64 (m.at_ + (1 : Int))) ≤ ((m.code.length : Nat) : Int))) (
    (atL m.code (IntKind.wrap .i64 ((IntKind.wrap .i64 (m.at_ + (1 : Int))) - (1 : Int)))).bind fun x =>
    (atL m.code (IntKind.wrap .i64 ((IntKind.wrap .i64 (m.at_ + (1 : Int))) - (1 : Int)))).bind fun x2 =>
    some ((IntKind.wrap .i64 (x2.toNat : Int)), (l00Src.mk m.code (IntKind.wrap .i64 (m.at_ + (1 : Int))) ((IntKind.wrap .i64 ((IntKind.wrap .i64 ((IntKind.wrap .i64 (m.seed * (31 : Int))) + (IntKind.wrap .i64 (x.toNat : Int)))) + (7 : Int))).tmod (2147483648 : Int))))) (
    br (decide ((IntKind.wrap .i64 (m.at_ + (1 : Int))) > (3000 : Int))) (
      some ((0 : Int), (l00Src.mk m.code (IntKind.wrap .i64 (m.at_ + (1 : Int))) m.seed))) (
      some (((IntKind.wrap .i64 (((IntKind.wrap .i64 ((IntKind.wrap .i64 (m.seed * (1103515245 : Int))) + (12345 : Int))).tmod (2147483648 : Int)).tdiv (65536 : Int))).tmod (256 : Int)), (l00Src.mk m.code (IntKind.wrap .i64 (m.at_ + (1 : Int))) ((IntKind.wrap .i64 ((IntKind.wrap .i64 (m.seed * (1103515245 : Int))) + (12345 : Int))).tmod (2147483648 : Int))))))
theorem s_l00Src_byte_c {m : l00Src} {r : Int × l00Src} (h : s_l00Src_byte m = some r) : Call tab ow 264 [.ptr 0 0 0 1] [⟨3, true, [[sl eU8 m.code, I m.at_, I m.seed]]⟩] = some (I r.1, [⟨3, true, [[sl eU8 r.2.code, I r.2.at_, I r.2.seed]]⟩]) := by
  rw [run_s_l00Src_byte]
  unfold s_l00Src_byte at h
  simp +decide only [b_s_l00Src_byte, go_sem, reduceIte, Nat.reduceAdd]
  rcases brc h with ⟨hb, h⟩ | ⟨hb, h⟩
  · refine br_t hb ?_
    obtain ⟨x, h1, h⟩ := bd h
    refine bind_some h1 ?_
    obtain ⟨x2, h1, h⟩ := bd h
    refine bind_some h1 ?_
    obtain rfl := Option.some.inj h
    first | rfl | (simp only [List.length_set, go_sem]; done)
  · refine br_f hb ?_
    rcases brc h with ⟨hb, h⟩ | ⟨hb, h⟩
    · refine br_t hb ?_
      obtain rfl := Option.some.inj h
      first | rfl | (simp only [List.length_set, go_sem]; done)
    · refine br_f hb ?_
      obtain rfl := Option.some.inj h
      first | rfl | (simp only [List.length_set, go_sem]; done)
noncomputable def s_l00Src_next (n : Int) (m : l00Src) : Option (Int × l00Src) :=
  br (decide (n ≤ (1 : Int))) (
    some ((0 : Int), m)) (
    br (decide (n ≤ (256 : Int))) (
      (s_l00Src_byte m).bind fun r_ =>
      br (decide (n ≠ 0)) (
        some ((r_.1.tmod n), r_.2)) (
        none)) (
      (s_l00Src_byte m).bind fun r_2 =>
      (s_l00Src_byte r_2.2).bind fun r_3 =>
      (s_l00Src_byte r_3.2).bind fun r_4 =>
      br (decide (n ≠ 0)) (
        some (((IntKind.wrap .i64 ((IntKind.wrap .i64 ((IntKind.wrap .i64 (r_2.1 * (65536 : Int))) + (IntKind.wrap .i64 (r_3.1 * (256 : Int))))) + r_4.1)).tmod n), r_4.2)) (
        none)))
theorem s_l00Src_next_c {n : Int} {m : l00Src} {r : Int × l00Src} (h : s_l00Src_next n m = some r) : Call tab ow 200 [.ptr 0 0 0 1, I n] [⟨3, true, [[sl eU8 m.code, I m.at_, I m.seed]]⟩] = some (I r.1, [⟨3, true, [[sl eU8 r.2.code, I r.2.at_, I r.2.seed]]⟩]) := by
  rw [run_s_l00Src_next]
  unfold s_l00Src_next at h
  simp +decide only [b_s_l00Src_next, go_sem, reduceIte, Nat.reduceAdd]
  rcases brc h with ⟨hb, h⟩ | ⟨hb, h⟩
  · refine br_t hb ?_
    obtain rfl := Option.some.inj h
    first | rfl | (simp only [List.length_set, go_sem]; done)
  · refine br_f hb ?_
    rcases brc h with ⟨hb, h⟩ | ⟨hb, h⟩
    · refine br_t hb ?_
      obtain ⟨r_, h1, h⟩ := bd h
      refine call_aft (s_l00Src_byte_c h1) ?_
      simp +decide only [go_sem, reduceIte, Nat.reduceAdd]
      obtain ⟨hb, h⟩ := brg h
      refine br_t hb ?_
      obtain rfl := Option.some.inj h
      first | rfl | (simp only [List.length_set, go_sem]; done)
    · refine br_f hb ?_
      obtain ⟨r_2, h1, h⟩ := bd h
      refine call_aft (s_l00Src_byte_c h1) ?_
      simp +decide only [go_sem, reduceIte, Nat.reduceAdd]
      obtain ⟨r_3, h1, h⟩ := bd h
      refine call_aft (s_l00Src_byte_c h1) ?_
      simp +decide only [go_sem, reduceIte, Nat.reduceAdd]
      obtain ⟨r_4, h1, h⟩ := bd h
      refine call_aft (s_l00Src_byte_c h1) ?_
      simp +decide only [go_sem, reduceIte, Nat.reduceAdd]
      obtain ⟨hb, h⟩ := brg h
      refine br_t hb ?_
      obtain rfl := Option.some.inj h
      first | rfl | (simp only [List.length_set, go_sem]; done)
noncomputable def s_l00Src_chance (n : Int) (m : l00Src) : Option (Bool × l00Src) :=
  (s_l00Src_next n m).bind fun r_ =>
  some ((r_.1 == (IntKind.wrap .i64 (n - (1 : Int)))), r_.2)
theorem s_l00Src_chance_c {n : Int} {m : l00Src} {r : Bool × l00Src} (h : s_l00Src_chance n m = some r) : Call tab ow 210 [.ptr 0 0 0 1, I n] [⟨3, true, [[sl eU8 m.code, I m.at_, I m.seed]]⟩] = some (B r.1, [⟨3, true, [[sl eU8 r.2.code, I r.2.at_, I r.2.seed]]⟩]) := by
  rw [run_s_l00Src_chance]
  unfold s_l00Src_chance at h
  simp +decide only [b_s_l00Src_chance, go_sem, reduceIte, Nat.reduceAdd]
  obtain ⟨r_, h1, h⟩ := bd h
  refine call_aft (s_l00Src_next_c h1) ?_
  simp +decide only [go_sem, reduceIte, Nat.reduceAdd]
  obtain rfl := Option.some.inj h
  first | rfl | (simp only [List.length_set, go_sem]; done)
noncomputable def s_l00Src_field_1_s : Int × Int × (List UInt8) × Int × Int → Option ((Int × Int × (List UInt8) × Int × Int) ⊕ ((Int × Int × Bool × (List UInt8) × Int × Int)))
  | (n, i, c, c2, c3) =>
    br (decide (i < (5 : Int))) (
      (s_l00Src_next (256 : Int) (l00Src.mk c c2 c3)).bind fun r_4 =>
      some (.inl (((IntKind.wrap .i64 ((IntKind.wrap .i64 (n * (256 : Int))) + r_4.1)).tmod (2130706433 : Int)), (IntKind.wrap .i64 (i + (1 : Int))), r_4.2.code, r_4.2.at_, r_4.2.seed))) (
      some (.inr (n, i, decide (i < (5 : Int)), c, c2, c3)))
theorem s_l00Src_field_1_l {n : Int} {i : Int} {c : List UInt8} {c2 : Int} {c3 : Int} {e : (Int × Int × Bool × (List UInt8) × Int × Int)} (h : Loop (s_l00Src_field_1_s) (n, i, c, c2, c3) = some e) : LoopX tab ow (.close [11003]) b_s_l00Src_field_8 ⟨[(0, .ptr 0 0 0 1), (3, I n), (4, I i)], [(0, ⟨3, true, [[sl eU8 c, I c2, I c3]]⟩)]⟩ = some ((.exit 1, ⟨[(0, .ptr 0 0 0 1), (3, I e.1), (4, I e.2.1), (17, B e.2.2.1)], [(0, ⟨3, true, [[sl eU8 e.2.2.2.1, I e.2.2.2.2.1, I e.2.2.2.2.2]]⟩)]⟩)) := by
  refine loop_runG (S := Int × Int × (List UInt8) × Int × Int) (eS := fun s => ⟨[(0, .ptr 0 0 0 1), (3, I s.1), (4, I s.2.1)], [(0, ⟨3, true, [[sl eU8 s.2.2.1, I s.2.2.2.1, I s.2.2.2.2]]⟩)]⟩) (eE := fun e => (.exit 1, ⟨[(0, .ptr 0 0 0 1), (3, I e.1), (4, I e.2.1), (17, B e.2.2.1)], [(0, ⟨3, true, [[sl eU8 e.2.2.2.1, I e.2.2.2.2.1, I e.2.2.2.2.2]]⟩)]⟩)) (fun e => ?_) (fun s o h => ?_) h
  · simp [alt]
  · obtain ⟨n, i, c, c2, c3⟩ := s
    simp only [s_l00Src_field_1_s] at h
    show Rn tab ow _ _ ⟨[(0, .ptr 0 0 0 1), (3, I n), (4, I i)], [(0, ⟨3, true, [[sl eU8 c, I c2, I c3]]⟩)]⟩ = _
    simp +decide only [b_s_l00Src_field_8, go_sem, reduceIte, Nat.reduceAdd]
    rcases brc h with ⟨hb, h⟩ | ⟨hb, h⟩
    · refine br_t hb ?_
      obtain ⟨r_4, h1, h⟩ := bd h
      refine call_aft (s_l00Src_next_c h1) ?_
      simp +decide only [go_sem, reduceIte, Nat.reduceAdd]
      obtain rfl := Option.some.inj h
      first | rfl | (simp only [List.length_set, go_sem]; done)
    · refine br_f hb ?_
      obtain rfl := Option.some.inj h
      first | rfl | (simp only [List.length_set, go_sem]; done)
noncomputable def s_l00Src_field (m : l00Src) : Option (Int × l00Src) :=
  (s_l00Src_next (5 : Int) m).bind fun r_ =>
  br (r_.1 == (0 : Int)) (
    (s_l00Src_next (4 : Int) r_.2).bind fun r_2 =>
    some (r_2.1, r_2.2)) (
    br (r_.1 == (1 : Int)) (
      (s_l00Src_next (3 : Int) r_.2).bind fun r_3 =>
      some ((IntKind.wrap .i64 ((2130706432 : Int) - r_3.1)), r_3.2)) (
      (Loop (s_l00Src_field_1_s) ((0 : Int), (0 : Int), r_.2.code, r_.2.at_, r_.2.seed)).bind fun e_ =>
      some (e_.1, (l00Src.mk e_.2.2.2.1 e_.2.2.2.2.1 e_.2.2.2.2.2))))
theorem s_l00Src_field_c {m : l00Src} {r : Int × l00Src} (h : s_l00Src_field m = some r) : Call tab ow 202 [.ptr 0 0 0 1] [⟨3, true, [[sl eU8 m.code, I m.at_, I m.seed]]⟩] = some (I r.1, [⟨3, true, [[sl eU8 r.2.code, I r.2.at_, I r.2.seed]]⟩]) := by
  rw [run_s_l00Src_field]
  unfold s_l00Src_field at h
  simp +decide only [b_s_l00Src_field, go_sem, reduceIte, Nat.reduceAdd]
  obtain ⟨r_, h1, h⟩ := bd h
  refine call_aft (s_l00Src_next_c h1) ?_
  simp +decide only [go_sem, reduceIte, Nat.reduceAdd]
  rcases brc h with ⟨hb, h⟩ | ⟨hb, h⟩
  · refine br_t hb ?_
    obtain ⟨r_2, h1, h⟩ := bd h
    refine call_aft (s_l00Src_next_c h1) ?_
    simp +decide only [go_sem, reduceIte, Nat.reduceAdd]
    obtain rfl := Option.some.inj h
    first | rfl | (simp only [List.length_set, go_sem]; done)
  · refine br_f hb ?_
    rcases brc h with ⟨hb, h⟩ | ⟨hb, h⟩
    · refine br_t hb ?_
      obtain ⟨r_3, h1, h⟩ := bd h
      refine call_aft (s_l00Src_next_c h1) ?_
      simp +decide only [go_sem, reduceIte, Nat.reduceAdd]
      obtain rfl := Option.some.inj h
      first | rfl | (simp only [List.length_set, go_sem]; done)
    · refine br_f hb ?_
      obtain ⟨e_, h1, h⟩ := bd h
      refine goR_of (s_l00Src_field_1_l h1) ?_
      simp +decide only [go_sem, reduceIte, Nat.reduceAdd]
      obtain rfl := Option.some.inj h
      first | rfl | (simp only [List.length_set, go_sem]; done)
section
theorem s_l00Src_entries_k0 : mkR 2000 [] = rws eEntry [] := rfl
attribute [local go_sem] s_l00Src_entries_k0
theorem s_l00Src_entries_k1 : mkR 10007 [] = rws eEntry [] := rfl
attribute [local go_sem] s_l00Src_entries_k1
noncomputable def s_l00Src_entries_2_s (rows3 : Int) (cols3 : Int) (r_2 : Int) : (List Entry) × Int × (List UInt8) × Int × Int → Option (((List Entry) × Int × (List UInt8) × Int × Int) ⊕ (((List Entry) × Int × Bool × (List UInt8) × Int × Int)))
  | (l2, c4, c5, c6, c7) =>
    br (decide (0 ≤ (IntKind.wrap .u64 cols3))) (
      br (decide (c4 < (shl64 .i64 (1 : Int) (IntKind.wrap .u64 cols3)))) (
        (s_l00Src_chance (4 : Int) (l00Src.mk c5 c6 c7)).bind fun r_3 =>
        br r_3.1 (
          (s_l00Src_field r_3.2).bind fun r_4 =>
          br (fits ((l2 ++ ([(Entry.mk r_2 c4 (mx (1 : Int) r_4.1))] : List Entry)).length) 24) (
            some (.inl ((l2 ++ ([(Entry.mk r_2 c4 (mx (1 : Int) r_4.1))] : List Entry)), (IntKind.wrap .i64 (c4 + (1 : Int))), r_4.2.code, r_4.2.at_, r_4.2.seed))) (
            none)) (
          some (.inl (l2, (IntKind.wrap .i64 (c4 + (1 : Int))), r_3.2.code, r_3.2.at_, r_3.2.seed)))) (
        some (.inr (l2, c4, decide (c4 < (shl64 .i64 (1 : Int) (IntKind.wrap .u64 cols3))), c5, c6, c7)))) (
      none)
theorem s_l00Src_entries_2_l {rows3 : Int} {cols3 : Int} {r_2 : Int} {l2 : List Entry} {c4 : Int} {c5 : List UInt8} {c6 : Int} {c7 : Int} {e : ((List Entry) × Int × Bool × (List UInt8) × Int × Int)} (h : Loop (s_l00Src_entries_2_s rows3 cols3 r_2) (l2, c4, c5, c6, c7) = some e) : LoopX tab ow (.close [9001, 10004, 10007, 10008]) b_s_l00Src_entries_6 ⟨[(0, .ptr 0 0 0 1), (1, I rows3), (2, I cols3), (7, .sl 2000 0 l2.length), (8, I r_2), (9, I c4)], [(0, ⟨3, true, [[sl eU8 c5, I c6, I c7]]⟩), (2000, ⟨3, false, rws eEntry l2⟩)]⟩ = some ((.exit 2, ⟨[(0, .ptr 0 0 0 1), (1, I rows3), (2, I cols3), (7, .sl 2000 0 e.1.length), (8, I r_2), (9, I e.2.1), (22, B e.2.2.1)], [(0, ⟨3, true, [[sl eU8 e.2.2.2.1, I e.2.2.2.2.1, I e.2.2.2.2.2]]⟩), (2000, ⟨3, false, rws eEntry e.1⟩)]⟩)) := by
  refine loop_runG (S := (List Entry) × Int × (List UInt8) × Int × Int) (eS := fun s => ⟨[(0, .ptr 0 0 0 1), (1, I rows3), (2, I cols3), (7, .sl 2000 0 s.1.length), (8, I r_2), (9, I s.2.1)], [(0, ⟨3, true, [[sl eU8 s.2.2.1, I s.2.2.2.1, I s.2.2.2.2]]⟩), (2000, ⟨3, false, rws eEntry s.1⟩)]⟩) (eE := fun e => (.exit 2, ⟨[(0, .ptr 0 0 0 1), (1, I rows3), (2, I cols3), (7, .sl 2000 0 e.1.length), (8, I r_2), (9, I e.2.1), (22, B e.2.2.1)], [(0, ⟨3, true, [[sl eU8 e.2.2.2.1, I e.2.2.2.2.1, I e.2.2.2.2.2]]⟩), (2000, ⟨3, false, rws eEntry e.1⟩)]⟩)) (fun e => ?_) (fun s o h => ?_) h
  · simp [alt]
  · obtain ⟨l2, c4, c5, c6, c7⟩ := s
    simp only [s_l00Src_entries_2_s] at h
    show Rn tab ow _ _ ⟨[(0, .ptr 0 0 0 1), (1, I rows3), (2, I cols3), (7, .sl 2000 0 l2.length), (8, I r_2), (9, I c4)], [(0, ⟨3, true, [[sl eU8 c5, I c6, I c7]]⟩), (2000, ⟨3, false, rws eEntry l2⟩)]⟩ = _
    simp +decide only [b_s_l00Src_entries_6, go_sem, reduceIte, Nat.reduceAdd]
    obtain ⟨hb, h⟩ := brg h
    refine br_t hb ?_
    rcases brc h with ⟨hb, h⟩ | ⟨hb, h⟩
    · refine br_t hb ?_
      obtain ⟨r_3, h1, h⟩ := bd h
      refine call_aft (s_l00Src_chance_c h1) ?_
      simp +decide only [go_sem, reduceIte, Nat.reduceAdd]
      rcases brc h with ⟨hb, h⟩ | ⟨hb, h⟩
      · refine br_t hb ?_
        obtain ⟨r_4, h1, h⟩ := bd h
        refine call_aft (s_l00Src_field_c h1) ?_
        simp +decide only [go_sem, reduceIte, Nat.reduceAdd]
        obtain ⟨hb, h⟩ := brg h
        refine br_t hb ?_
        obtain rfl := Option.some.inj h
        first | rfl | (simp only [List.length_set, go_sem]; done)
      · refine br_f hb ?_
        obtain rfl := Option.some.inj h
        first | rfl | (simp only [List.length_set, go_sem]; done)
    · refine br_f hb ?_
      obtain rfl := Option.some.inj h
      first | rfl | (simp only [List.length_set, go_sem]; done)
noncomputable def s_l00Src_entries_1_s (rows2 : Int) (cols2 : Int) : (List Entry) × Int × (List UInt8) × Int × Int → Option (((List Entry) × Int × (List UInt8) × Int × Int) ⊕ (((List Entry) × Int × Bool × (List UInt8) × Int × Int)))
  | (l, r_, c, c2, c3) =>
    br (decide (0 ≤ (IntKind.wrap .u64 rows2))) (
      br (decide (r_ < (shl64 .i64 (1 : Int) (IntKind.wrap .u64 rows2)))) (
        (Loop (s_l00Src_entries_2_s rows2 cols2 r_) (l, (0 : Int), c, c2, c3)).bind fun e_ =>
        some (.inl (e_.1, (IntKind.wrap .i64 (r_ + (1 : Int))), e_.2.2.2.1, e_.2.2.2.2.1, e_.2.2.2.2.2))) (
        some (.inr (l, r_, decide (r_ < (shl64 .i64 (1 : Int) (IntKind.wrap .u64 rows2))), c, c2, c3)))) (
      none)
theorem s_l00Src_entries_1_l {rows2 : Int} {cols2 : Int} {l : List Entry} {r_ : Int} {c : List UInt8} {c2 : Int} {c3 : Int} {e : ((List Entry) × Int × Bool × (List UInt8) × Int × Int)} (h : Loop (s_l00Src_entries_1_s rows2 cols2) (l, r_, c, c2, c3) = some e) : LoopX tab ow (.close [9001, 10004, 10007, 10008]) b_s_l00Src_entries_3 ⟨[(0, .ptr 0 0 0 1), (1, I rows2), (2, I cols2), (7, .sl 2000 0 l.length), (8, I r_)], [(0, ⟨3, true, [[sl eU8 c, I c2, I c3]]⟩), (2000, ⟨3, false, rws eEntry l⟩)]⟩ = some ((.exit 0, ⟨[(0, .ptr 0 0 0 1), (1, I rows2), (2, I cols2), (7, .sl 2000 0 e.1.length), (8, I e.2.1), (15, B e.2.2.1)], [(0, ⟨3, true, [[sl eU8 e.2.2.2.1, I e.2.2.2.2.1, I e.2.2.2.2.2]]⟩), (2000, ⟨3, false, rws eEntry e.1⟩)]⟩)) := by
  refine loop_runG (S := (List Entry) × Int × (List UInt8) × Int × Int) (eS := fun s => ⟨[(0, .ptr 0 0 0 1), (1, I rows2), (2, I cols2), (7, .sl 2000 0 s.1.length), (8, I s.2.1)], [(0, ⟨3, true, [[sl eU8 s.2.2.1, I s.2.2.2.1, I s.2.2.2.2]]⟩), (2000, ⟨3, false, rws eEntry s.1⟩)]⟩) (eE := fun e => (.exit 0, ⟨[(0, .ptr 0 0 0 1), (1, I rows2), (2, I cols2), (7, .sl 2000 0 e.1.length), (8, I e.2.1), (15, B e.2.2.1)], [(0, ⟨3, true, [[sl eU8 e.2.2.2.1, I e.2.2.2.2.1, I e.2.2.2.2.2]]⟩), (2000, ⟨3, false, rws eEntry e.1⟩)]⟩)) (fun e => ?_) (fun s o h => ?_) h
  · simp [alt]
  · obtain ⟨l, r_, c, c2, c3⟩ := s
    simp only [s_l00Src_entries_1_s] at h
    show Rn tab ow _ _ ⟨[(0, .ptr 0 0 0 1), (1, I rows2), (2, I cols2), (7, .sl 2000 0 l.length), (8, I r_)], [(0, ⟨3, true, [[sl eU8 c, I c2, I c3]]⟩), (2000, ⟨3, false, rws eEntry l⟩)]⟩ = _
    simp +decide only [b_s_l00Src_entries_3, go_sem, reduceIte, Nat.reduceAdd]
    obtain ⟨hb, h⟩ := brg h
    refine br_t hb ?_
    rcases brc h with ⟨hb, h⟩ | ⟨hb, h⟩
    · refine br_t hb ?_
      obtain ⟨e_, h1, h⟩ := bd h
      refine goR_of (s_l00Src_entries_2_l h1) ?_
      simp +decide only [go_sem, reduceIte, Nat.reduceAdd]
      obtain rfl := Option.some.inj h
      first | rfl | (simp only [List.length_set, go_sem]; done)
    · refine br_f hb ?_
      obtain rfl := Option.some.inj h
      first | rfl | (simp only [List.length_set, go_sem]; done)
noncomputable def s_l00Src_entries (rows : Int) (cols : Int) (m : l00Src) : Option ((List Entry) × l00Src) :=
  (Loop (s_l00Src_entries_1_s rows cols) (([] : List Entry), (0 : Int), m.code, m.at_, m.seed)).bind fun e_2 =>
  some (e_2.1, (l00Src.mk e_2.2.2.2.1 e_2.2.2.2.2.1 e_2.2.2.2.2.2))
theorem s_l00Src_entries_c {rows : Int} {cols : Int} {m : l00Src} {r : (List Entry) × l00Src} (h : s_l00Src_entries rows cols m = some r) : Call tab ow 201 [.ptr 0 0 0 1, I rows, I cols] [⟨3, true, [[sl eU8 m.code, I m.at_, I m.seed]]⟩] = some (sl eEntry r.1, [⟨3, true, [[sl eU8 r.2.code, I r.2.at_, I r.2.seed]]⟩]) := by
  rw [run_s_l00Src_entries]
  unfold s_l00Src_entries at h
  simp +decide only [b_s_l00Src_entries, go_sem, reduceIte, Nat.reduceAdd]
  obtain ⟨e_2, h1, h⟩ := bd h
  refine goR_of (s_l00Src_entries_1_l h1) ?_
  simp +decide only [go_sem, reduceIte, Nat.reduceAdd]
  obtain rfl := Option.some.inj h
  first | rfl | (simp only [List.length_set, go_sem]; done)
end
noncomputable def s_l00Src_system (m : l00Src) : Option (System × l00Src) :=
  (s_l00Src_next (2 : Int) m).bind fun r_ =>
  (s_l00Src_next (2 : Int) r_.2).bind fun r_2 =>
  br (decide (0 ≤ (IntKind.wrap .u64 (IntKind.wrap .i64 ((IntKind.wrap .i64 ((2 : Int) + r_2.1)) - (1 : Int)))))) (
    (s_l00Src_next (shl64 .i64 (1 : Int) (IntKind.wrap .u64 (IntKind.wrap .i64 ((IntKind.wrap .i64 ((2 : Int) + r_2.1)) - (1 : Int))))) r_2.2).bind fun r_3 =>
    (s_l00Src_entries (IntKind.wrap .i64 ((1 : Int) + r_.1)) (IntKind.wrap .i64 ((2 : Int) + r_2.1)) r_3.2).bind fun r_4 =>
    (s_l00Src_entries (IntKind.wrap .i64 ((1 : Int) + r_.1)) (IntKind.wrap .i64 ((2 : Int) + r_2.1)) r_4.2).bind fun r_5 =>
    (s_l00Src_entries (IntKind.wrap .i64 ((1 : Int) + r_.1)) (IntKind.wrap .i64 ((2 : Int) + r_2.1)) r_5.2).bind fun r_6 =>
    some ((System.mk (IntKind.wrap .i64 ((1 : Int) + r_.1)) (IntKind.wrap .i64 ((2 : Int) + r_2.1)) r_3.1 r_4.1 r_5.1 r_6.1), r_6.2)) (
    none)
theorem s_l00Src_system_c {m : l00Src} {r : System × l00Src} (h : s_l00Src_system m = some r) : Call tab ow 94 [.ptr 0 0 0 1] [⟨3, true, [[sl eU8 m.code, I m.at_, I m.seed]]⟩] = some (.agg [I r.1.Rows, I r.1.Cols, I r.1.Publics, sl eEntry r.1.A, sl eEntry r.1.B, sl eEntry r.1.C], [⟨3, true, [[sl eU8 r.2.code, I r.2.at_, I r.2.seed]]⟩]) := by
  rw [run_s_l00Src_system]
  unfold s_l00Src_system at h
  simp +decide only [b_s_l00Src_system, go_sem, reduceIte, Nat.reduceAdd]
  obtain ⟨r_, h1, h⟩ := bd h
  refine call_aft (s_l00Src_next_c h1) ?_
  simp +decide only [go_sem, reduceIte, Nat.reduceAdd]
  obtain ⟨r_2, h1, h⟩ := bd h
  refine call_aft (s_l00Src_next_c h1) ?_
  simp +decide only [go_sem, reduceIte, Nat.reduceAdd]
  obtain ⟨hb, h⟩ := brg h
  refine br_t hb ?_
  obtain ⟨r_3, h1, h⟩ := bd h
  refine call_aft (s_l00Src_next_c h1) ?_
  simp +decide only [go_sem, reduceIte, Nat.reduceAdd]
  obtain ⟨r_4, h1, h⟩ := bd h
  refine call_aft (s_l00Src_entries_c h1) ?_
  simp +decide only [go_sem, reduceIte, Nat.reduceAdd]
  obtain ⟨r_5, h1, h⟩ := bd h
  refine call_aft (s_l00Src_entries_c h1) ?_
  simp +decide only [go_sem, reduceIte, Nat.reduceAdd]
  obtain ⟨r_6, h1, h⟩ := bd h
  refine call_aft (s_l00Src_entries_c h1) ?_
  simp +decide only [go_sem, reduceIte, Nat.reduceAdd]
  obtain rfl := Option.some.inj h
  first | rfl | (simp only [List.length_set, go_sem]; done)
noncomputable def s_SystemDrawn (code : (List UInt8)) : Option (System) :=
  (s_l00Source code).bind fun r_ =>
  (s_l00Src_system r_).bind fun r_2 =>
  some r_2.1
theorem s_SystemDrawn_c {code : (List UInt8)} {r : System} (h : s_SystemDrawn code = some r) : Call tab ow 15 [sl eU8 code] [] = some (.agg [I r.Rows, I r.Cols, I r.Publics, sl eEntry r.A, sl eEntry r.B, sl eEntry r.C], []) := by
  rw [run_s_SystemDrawn]
  unfold s_SystemDrawn at h
  simp +decide only [b_s_SystemDrawn, go_sem, reduceIte, Nat.reduceAdd]
  obtain ⟨r_, h1, h⟩ := bd h
  refine call_aft (s_l00Source_c h1) ?_
  simp +decide only [go_sem, reduceIte, Nat.reduceAdd]
  obtain ⟨r_2, h1, h⟩ := bd h
  refine call_aft (s_l00Src_system_c h1) ?_
  simp +decide only [go_sem, reduceIte, Nat.reduceAdd]
  obtain rfl := Option.some.inj h
  first | rfl | (simp only [List.length_set, go_sem]; done)
section
theorem s_l00Src_fields_k0 : mkR 2000 [] = rws eI [] := rfl
attribute [local go_sem] s_l00Src_fields_k0
theorem s_l00Src_fields_k1 : mkR 6003 [] = rws eI [] := rfl
attribute [local go_sem] s_l00Src_fields_k1
noncomputable def s_l00Src_fields_1_s (n2 : Int) : (List Int) × Int × (List UInt8) × Int × Int → Option (((List Int) × Int × (List UInt8) × Int × Int) ⊕ (((List Int) × Int × Bool × (List UInt8) × Int × Int)))
  | (l, i, c, c2, c3) =>
    br (decide (i < n2)) (
      (s_l00Src_field (l00Src.mk c c2 c3)).bind fun r_ =>
      br (fits ((l ++ ([r_.1] : List Int)).length) 8) (
        some (.inl ((l ++ ([r_.1] : List Int)), (IntKind.wrap .i64 (i + (1 : Int))), r_.2.code, r_.2.at_, r_.2.seed))) (
        none)) (
      some (.inr (l, i, decide (i < n2), c, c2, c3)))
theorem s_l00Src_fields_1_l {n2 : Int} {l : List Int} {i : Int} {c : List UInt8} {c2 : Int} {c3 : Int} {e : ((List Int) × Int × Bool × (List UInt8) × Int × Int)} (h : Loop (s_l00Src_fields_1_s n2) (l, i, c, c2, c3) = some e) : LoopX tab ow (.close [6002, 6003, 6004]) b_s_l00Src_fields_3 ⟨[(0, .ptr 0 0 0 1), (1, I n2), (5, .sl 2000 0 l.length), (6, I i)], [(0, ⟨3, true, [[sl eU8 c, I c2, I c3]]⟩), (2000, ⟨1, false, rws eI l⟩)]⟩ = some ((.exit 0, ⟨[(0, .ptr 0 0 0 1), (1, I n2), (5, .sl 2000 0 e.1.length), (6, I e.2.1), (10, B e.2.2.1)], [(0, ⟨3, true, [[sl eU8 e.2.2.2.1, I e.2.2.2.2.1, I e.2.2.2.2.2]]⟩), (2000, ⟨1, false, rws eI e.1⟩)]⟩)) := by
  refine loop_runG (S := (List Int) × Int × (List UInt8) × Int × Int) (eS := fun s => ⟨[(0, .ptr 0 0 0 1), (1, I n2), (5, .sl 2000 0 s.1.length), (6, I s.2.1)], [(0, ⟨3, true, [[sl eU8 s.2.2.1, I s.2.2.2.1, I s.2.2.2.2]]⟩), (2000, ⟨1, false, rws eI s.1⟩)]⟩) (eE := fun e => (.exit 0, ⟨[(0, .ptr 0 0 0 1), (1, I n2), (5, .sl 2000 0 e.1.length), (6, I e.2.1), (10, B e.2.2.1)], [(0, ⟨3, true, [[sl eU8 e.2.2.2.1, I e.2.2.2.2.1, I e.2.2.2.2.2]]⟩), (2000, ⟨1, false, rws eI e.1⟩)]⟩)) (fun e => ?_) (fun s o h => ?_) h
  · simp [alt]
  · obtain ⟨l, i, c, c2, c3⟩ := s
    simp only [s_l00Src_fields_1_s] at h
    show Rn tab ow _ _ ⟨[(0, .ptr 0 0 0 1), (1, I n2), (5, .sl 2000 0 l.length), (6, I i)], [(0, ⟨3, true, [[sl eU8 c, I c2, I c3]]⟩), (2000, ⟨1, false, rws eI l⟩)]⟩ = _
    simp +decide only [b_s_l00Src_fields_3, go_sem, reduceIte, Nat.reduceAdd]
    rcases brc h with ⟨hb, h⟩ | ⟨hb, h⟩
    · refine br_t hb ?_
      obtain ⟨r_, h1, h⟩ := bd h
      refine call_aft (s_l00Src_field_c h1) ?_
      simp +decide only [go_sem, reduceIte, Nat.reduceAdd]
      obtain ⟨hb, h⟩ := brg h
      refine br_t hb ?_
      obtain rfl := Option.some.inj h
      first | rfl | (simp only [List.length_set, go_sem]; done)
    · refine br_f hb ?_
      obtain rfl := Option.some.inj h
      first | rfl | (simp only [List.length_set, go_sem]; done)
noncomputable def s_l00Src_fields (n : Int) (m : l00Src) : Option ((List Int) × l00Src) :=
  (Loop (s_l00Src_fields_1_s n) (([] : List Int), (0 : Int), m.code, m.at_, m.seed)).bind fun e_ =>
  some (e_.1, (l00Src.mk e_.2.2.2.1 e_.2.2.2.2.1 e_.2.2.2.2.2))
theorem s_l00Src_fields_c {n : Int} {m : l00Src} {r : (List Int) × l00Src} (h : s_l00Src_fields n m = some r) : Call tab ow 95 [.ptr 0 0 0 1, I n] [⟨3, true, [[sl eU8 m.code, I m.at_, I m.seed]]⟩] = some (sl eI r.1, [⟨3, true, [[sl eU8 r.2.code, I r.2.at_, I r.2.seed]]⟩]) := by
  rw [run_s_l00Src_fields]
  unfold s_l00Src_fields at h
  simp +decide only [b_s_l00Src_fields, go_sem, reduceIte, Nat.reduceAdd]
  obtain ⟨e_, h1, h⟩ := bd h
  refine goR_of (s_l00Src_fields_1_l h1) ?_
  simp +decide only [go_sem, reduceIte, Nat.reduceAdd]
  obtain rfl := Option.some.inj h
  first | rfl | (simp only [List.length_set, go_sem]; done)
end
noncomputable def s_NumbersOf (code : (List UInt8)) (n : Int) : Option ((List Int)) :=
  (s_l00Source code).bind fun r_ =>
  (s_l00Src_fields n r_).bind fun r_2 =>
  some r_2.1
theorem s_NumbersOf_c {code : (List UInt8)} {n : Int} {r : (List Int)} (h : s_NumbersOf code n = some r) : Call tab ow 16 [sl eU8 code, I n] [] = some (sl eI r, []) := by
  rw [run_s_NumbersOf]
  unfold s_NumbersOf at h
  simp +decide only [b_s_NumbersOf, go_sem, reduceIte, Nat.reduceAdd]
  obtain ⟨r_, h1, h⟩ := bd h
  refine call_aft (s_l00Source_c h1) ?_
  simp +decide only [go_sem, reduceIte, Nat.reduceAdd]
  obtain ⟨r_2, h1, h⟩ := bd h
  refine call_aft (s_l00Src_fields_c h1) ?_
  simp +decide only [go_sem, reduceIte, Nat.reduceAdd]
  obtain rfl := Option.some.inj h
  first | rfl | (simp only [List.length_set, go_sem]; done)
noncomputable def s_l00Src_ext (m : l00Src) : Option (Ext × l00Src) :=
  (s_l00Src_chance (4 : Int) m).bind fun r_ =>
  br r_.1 (
    (s_l00Src_field r_.2).bind fun r_2 =>
    some ((Ext.mk r_2.1 (0 : Int)), r_2.2)) (
    (s_l00Src_field r_.2).bind fun r_3 =>
    (s_l00Src_field r_3.2).bind fun r_4 =>
    some ((Ext.mk r_3.1 r_4.1), r_4.2))
theorem s_l00Src_ext_c {m : l00Src} {r : Ext × l00Src} (h : s_l00Src_ext m = some r) : Call tab ow 109 [.ptr 0 0 0 1] [⟨3, true, [[sl eU8 m.code, I m.at_, I m.seed]]⟩] = some (.agg [I r.1.A, I r.1.B], [⟨3, true, [[sl eU8 r.2.code, I r.2.at_, I r.2.seed]]⟩]) := by
  rw [run_s_l00Src_ext]
  unfold s_l00Src_ext at h
  simp +decide only [b_s_l00Src_ext, go_sem, reduceIte, Nat.reduceAdd]
  obtain ⟨r_, h1, h⟩ := bd h
  refine call_aft (s_l00Src_chance_c h1) ?_
  simp +decide only [go_sem, reduceIte, Nat.reduceAdd]
  rcases brc h with ⟨hb, h⟩ | ⟨hb, h⟩
  · refine br_t hb ?_
    obtain ⟨r_2, h1, h⟩ := bd h
    refine call_aft (s_l00Src_field_c h1) ?_
    simp +decide only [go_sem, reduceIte, Nat.reduceAdd]
    obtain rfl := Option.some.inj h
    first | rfl | (simp only [List.length_set, go_sem]; done)
  · refine br_f hb ?_
    obtain ⟨r_3, h1, h⟩ := bd h
    refine call_aft (s_l00Src_field_c h1) ?_
    simp +decide only [go_sem, reduceIte, Nat.reduceAdd]
    obtain ⟨r_4, h1, h⟩ := bd h
    refine call_aft (s_l00Src_field_c h1) ?_
    simp +decide only [go_sem, reduceIte, Nat.reduceAdd]
    obtain rfl := Option.some.inj h
    first | rfl | (simp only [List.length_set, go_sem]; done)
section
theorem s_l00Src_exts_k0 : mkR 2000 [] = rws eExt [] := rfl
attribute [local go_sem] s_l00Src_exts_k0
theorem s_l00Src_exts_k1 : mkR 6003 [] = rws eExt [] := rfl
attribute [local go_sem] s_l00Src_exts_k1
noncomputable def s_l00Src_exts_1_s (n2 : Int) : (List Ext) × Int × (List UInt8) × Int × Int → Option (((List Ext) × Int × (List UInt8) × Int × Int) ⊕ (((List Ext) × Int × Bool × (List UInt8) × Int × Int)))
  | (l, i, c, c2, c3) =>
    br (decide (i < n2)) (
      (s_l00Src_ext (l00Src.mk c c2 c3)).bind fun r_ =>
      br (fits ((l ++ ([r_.1] : List Ext)).length) 16) (
        some (.inl ((l ++ ([r_.1] : List Ext)), (IntKind.wrap .i64 (i + (1 : Int))), r_.2.code, r_.2.at_, r_.2.seed))) (
        none)) (
      some (.inr (l, i, decide (i < n2), c, c2, c3)))
theorem s_l00Src_exts_1_l {n2 : Int} {l : List Ext} {i : Int} {c : List UInt8} {c2 : Int} {c3 : Int} {e : ((List Ext) × Int × Bool × (List UInt8) × Int × Int)} (h : Loop (s_l00Src_exts_1_s n2) (l, i, c, c2, c3) = some e) : LoopX tab ow (.close [6002, 6003, 6004]) b_s_l00Src_exts_3 ⟨[(0, .ptr 0 0 0 1), (1, I n2), (5, .sl 2000 0 l.length), (6, I i)], [(0, ⟨3, true, [[sl eU8 c, I c2, I c3]]⟩), (2000, ⟨2, false, rws eExt l⟩)]⟩ = some ((.exit 0, ⟨[(0, .ptr 0 0 0 1), (1, I n2), (5, .sl 2000 0 e.1.length), (6, I e.2.1), (10, B e.2.2.1)], [(0, ⟨3, true, [[sl eU8 e.2.2.2.1, I e.2.2.2.2.1, I e.2.2.2.2.2]]⟩), (2000, ⟨2, false, rws eExt e.1⟩)]⟩)) := by
  refine loop_runG (S := (List Ext) × Int × (List UInt8) × Int × Int) (eS := fun s => ⟨[(0, .ptr 0 0 0 1), (1, I n2), (5, .sl 2000 0 s.1.length), (6, I s.2.1)], [(0, ⟨3, true, [[sl eU8 s.2.2.1, I s.2.2.2.1, I s.2.2.2.2]]⟩), (2000, ⟨2, false, rws eExt s.1⟩)]⟩) (eE := fun e => (.exit 0, ⟨[(0, .ptr 0 0 0 1), (1, I n2), (5, .sl 2000 0 e.1.length), (6, I e.2.1), (10, B e.2.2.1)], [(0, ⟨3, true, [[sl eU8 e.2.2.2.1, I e.2.2.2.2.1, I e.2.2.2.2.2]]⟩), (2000, ⟨2, false, rws eExt e.1⟩)]⟩)) (fun e => ?_) (fun s o h => ?_) h
  · simp [alt]
  · obtain ⟨l, i, c, c2, c3⟩ := s
    simp only [s_l00Src_exts_1_s] at h
    show Rn tab ow _ _ ⟨[(0, .ptr 0 0 0 1), (1, I n2), (5, .sl 2000 0 l.length), (6, I i)], [(0, ⟨3, true, [[sl eU8 c, I c2, I c3]]⟩), (2000, ⟨2, false, rws eExt l⟩)]⟩ = _
    simp +decide only [b_s_l00Src_exts_3, go_sem, reduceIte, Nat.reduceAdd]
    rcases brc h with ⟨hb, h⟩ | ⟨hb, h⟩
    · refine br_t hb ?_
      obtain ⟨r_, h1, h⟩ := bd h
      refine call_aft (s_l00Src_ext_c h1) ?_
      simp +decide only [go_sem, reduceIte, Nat.reduceAdd]
      obtain ⟨hb, h⟩ := brg h
      refine br_t hb ?_
      obtain rfl := Option.some.inj h
      first | rfl | (simp only [List.length_set, go_sem]; done)
    · refine br_f hb ?_
      obtain rfl := Option.some.inj h
      first | rfl | (simp only [List.length_set, go_sem]; done)
noncomputable def s_l00Src_exts (n : Int) (m : l00Src) : Option ((List Ext) × l00Src) :=
  (Loop (s_l00Src_exts_1_s n) (([] : List Ext), (0 : Int), m.code, m.at_, m.seed)).bind fun e_ =>
  some (e_.1, (l00Src.mk e_.2.2.2.1 e_.2.2.2.2.1 e_.2.2.2.2.2))
theorem s_l00Src_exts_c {n : Int} {m : l00Src} {r : (List Ext) × l00Src} (h : s_l00Src_exts n m = some r) : Call tab ow 96 [.ptr 0 0 0 1, I n] [⟨3, true, [[sl eU8 m.code, I m.at_, I m.seed]]⟩] = some (sl eExt r.1, [⟨3, true, [[sl eU8 r.2.code, I r.2.at_, I r.2.seed]]⟩]) := by
  rw [run_s_l00Src_exts]
  unfold s_l00Src_exts at h
  simp +decide only [b_s_l00Src_exts, go_sem, reduceIte, Nat.reduceAdd]
  obtain ⟨e_, h1, h⟩ := bd h
  refine goR_of (s_l00Src_exts_1_l h1) ?_
  simp +decide only [go_sem, reduceIte, Nat.reduceAdd]
  obtain rfl := Option.some.inj h
  first | rfl | (simp only [List.length_set, go_sem]; done)
end
noncomputable def s_ExtsOf (code : (List UInt8)) (n : Int) : Option ((List Ext)) :=
  (s_l00Source code).bind fun r_ =>
  (s_l00Src_exts n r_).bind fun r_2 =>
  some r_2.1
theorem s_ExtsOf_c {code : (List UInt8)} {n : Int} {r : (List Ext)} (h : s_ExtsOf code n = some r) : Call tab ow 17 [sl eU8 code, I n] [] = some (sl eExt r, []) := by
  rw [run_s_ExtsOf]
  unfold s_ExtsOf at h
  simp +decide only [b_s_ExtsOf, go_sem, reduceIte, Nat.reduceAdd]
  obtain ⟨r_, h1, h⟩ := bd h
  refine call_aft (s_l00Source_c h1) ?_
  simp +decide only [go_sem, reduceIte, Nat.reduceAdd]
  obtain ⟨r_2, h1, h⟩ := bd h
  refine call_aft (s_l00Src_exts_c h1) ?_
  simp +decide only [go_sem, reduceIte, Nat.reduceAdd]
  obtain rfl := Option.some.inj h
  first | rfl | (simp only [List.length_set, go_sem]; done)
noncomputable def i_in (n : Int) (low : Int) (high : Int) : Option (Bool) :=
  br (decide (low ≤ n)) (
    some (decide (n ≤ high))) (
    some false)
theorem i_in_c {n : Int} {low : Int} {high : Int} {r : Bool} (h : i_in n low high = some r) : Call tab ow 111 [I n, I low, I high] [] = some (B r, []) := by
  rw [run_i_in]
  unfold i_in at h
  simp +decide only [b_i_in, go_sem, reduceIte, Nat.reduceAdd]
  rcases brc h with ⟨hb, h⟩ | ⟨hb, h⟩
  · refine br_t hb ?_
    obtain rfl := Option.some.inj h
    first | rfl | (simp only [List.length_set, go_sem]; done)
  · refine br_f hb ?_
    obtain rfl := Option.some.inj h
    first | rfl | (simp only [List.length_set, go_sem]; done)
noncomputable def i_System_half (s : System) : Option (Int) :=
  br (decide (0 ≤ (IntKind.wrap .i64 (s.Cols - (1 : Int))))) (
    some (shl64 .i64 (1 : Int) (IntKind.wrap .i64 (s.Cols - (1 : Int))))) (
    none)
theorem i_System_half_c {s : System} {r : Int} (h : i_System_half s = some r) : Call tab ow 103 [.agg [I s.Rows, I s.Cols, I s.Publics, sl eEntry s.A, sl eEntry s.B, sl eEntry s.C]] [] = some (I r, []) := by
  rw [run_i_System_half]
  unfold i_System_half at h
  simp +decide only [b_i_System_half, go_sem, reduceIte, Nat.reduceAdd]
  obtain ⟨hb, h⟩ := brg h
  refine br_t hb ?_
  obtain rfl := Option.some.inj h
  first | rfl | (simp only [List.length_set, go_sem]; done)
noncomputable def i_System_matrices (s : System) : Option (((List Entry) × (List Entry) × (List Entry))) :=
  some (s.A, s.B, s.C)
theorem i_System_matrices_c {s : System} {r : ((List Entry) × (List Entry) × (List Entry))} (h : i_System_matrices s = some r) : Call tab ow 203 [.agg [I s.Rows, I s.Cols, I s.Publics, sl eEntry s.A, sl eEntry s.B, sl eEntry s.C]] [] = some (.agg [sl eEntry r.1, sl eEntry r.2.1, sl eEntry r.2.2], []) := by
  rw [run_i_System_matrices]
  unfold i_System_matrices at h
  simp +decide only [b_i_System_matrices, go_sem, reduceIte, Nat.reduceAdd]
  obtain rfl := Option.some.inj h
  first | rfl | (simp only [List.length_set, go_sem]; done)
noncomputable def cmp_isNaN_int (x : Int) : Option (Bool) :=
  some (x != x)
theorem cmp_isNaN_int_c {x : Int} {r : Bool} (h : cmp_isNaN_int x = some r) : Call tab ow 293 [I x] [] = some (B r, []) := by
  rw [run_cmp_isNaN_int]
  unfold cmp_isNaN_int at h
  simp +decide only [b_cmp_isNaN_int, go_sem, reduceIte, Nat.reduceAdd]
  obtain rfl := Option.some.inj h
  first | rfl | (simp only [List.length_set, go_sem]; done)
noncomputable def cmp_Compare_int (x : Int) (y : Int) : Option (Int) :=
  (cmp_isNaN_int x).bind fun r_ =>
  (cmp_isNaN_int y).bind fun r_2 =>
  br r_ (
    br r_2 (
      some (0 : Int)) (
      some (-1 : Int))) (
    br r_2 (
      some (1 : Int)) (
      br (decide (x < y)) (
        some (-1 : Int)) (
        br (decide (x > y)) (
          some (1 : Int)) (
          some (0 : Int)))))
theorem cmp_Compare_int_c {x : Int} {y : Int} {r : Int} (h : cmp_Compare_int x y = some r) : Call tab ow 279 [I x, I y] [] = some (I r, []) := by
  rw [run_cmp_Compare_int]
  unfold cmp_Compare_int at h
  simp +decide only [b_cmp_Compare_int, go_sem, reduceIte, Nat.reduceAdd]
  obtain ⟨r_, h1, h⟩ := bd h
  refine call_aft (cmp_isNaN_int_c h1) ?_
  simp +decide only [go_sem, reduceIte, Nat.reduceAdd]
  obtain ⟨r_2, h1, h⟩ := bd h
  refine call_aft (cmp_isNaN_int_c h1) ?_
  simp +decide only [go_sem, reduceIte, Nat.reduceAdd]
  rcases brc h with ⟨hb, h⟩ | ⟨hb, h⟩
  · refine br_t hb ?_
    rcases brc h with ⟨hb, h⟩ | ⟨hb, h⟩
    · refine br_t hb ?_
      obtain rfl := Option.some.inj h
      first | rfl | (simp only [List.length_set, go_sem]; done)
    · refine br_f hb ?_
      obtain rfl := Option.some.inj h
      first | rfl | (simp only [List.length_set, go_sem]; done)
  · refine br_f hb ?_
    rcases brc h with ⟨hb, h⟩ | ⟨hb, h⟩
    · refine br_t hb ?_
      obtain rfl := Option.some.inj h
      first | rfl | (simp only [List.length_set, go_sem]; done)
    · refine br_f hb ?_
      rcases brc h with ⟨hb, h⟩ | ⟨hb, h⟩
      · refine br_t hb ?_
        obtain rfl := Option.some.inj h
        first | rfl | (simp only [List.length_set, go_sem]; done)
      · refine br_f hb ?_
        rcases brc h with ⟨hb, h⟩ | ⟨hb, h⟩
        · refine br_t hb ?_
          obtain rfl := Option.some.inj h
          first | rfl | (simp only [List.length_set, go_sem]; done)
        · refine br_f hb ?_
          obtain rfl := Option.some.inj h
          first | rfl | (simp only [List.length_set, go_sem]; done)
noncomputable def cmp_Or_int_1_s (zero : Int) (t : List Int) (t2 : Int) : Int → Option ((Int) ⊕ (Int ⊕ (Int × Bool)))
  | t3 =>
    br (decide (t3 < t2)) (
      (atL t t3).bind fun x =>
      br (x != zero) (
        some (.inr (.inl x))) (
        some (.inl (IntKind.wrap .i64 (t3 + (1 : Int)))))) (
      some (.inr (.inr (t3, decide (t3 < t2)))))
theorem cmp_Or_int_1_l {zero : Int} {t : List Int} {t2 : Int} {t3 : Int} {e : Int ⊕ (Int × Bool)} (h : Loop (cmp_Or_int_1_s zero t t2) t3 = some e) : LoopX tab ow (.close []) b_cmp_Or_int_3 ⟨[(3, I zero), (6, sl eI t), (7, I t2), (8, I t3)], []⟩ = some ((alt (fun e => ((.ret, ⟨[(2, I e)], []⟩) : AExit × St)) (fun e => (.exit 0, ⟨[(3, I zero), (6, sl eI t), (7, I t2), (8, I e.1), (9, B e.2)], []⟩))) e) := by
  refine loop_runG (S := Int) (eS := fun s => ⟨[(3, I zero), (6, sl eI t), (7, I t2), (8, I s)], []⟩) (eE := fun e => (alt (fun e => ((.ret, ⟨[(2, I e)], []⟩) : AExit × St)) (fun e => (.exit 0, ⟨[(3, I zero), (6, sl eI t), (7, I t2), (8, I e.1), (9, B e.2)], []⟩))) e) (fun e => ?_) (fun t3 o h => ?_) h
  · rcases e with e | e <;> simp [alt]
  · skip
    simp only [cmp_Or_int_1_s] at h
    show Rn tab ow _ _ ⟨[(3, I zero), (6, sl eI t), (7, I t2), (8, I t3)], []⟩ = _
    simp +decide only [b_cmp_Or_int_3, go_sem, reduceIte, Nat.reduceAdd]
    rcases brc h with ⟨hb, h⟩ | ⟨hb, h⟩
    · refine br_t hb ?_
      obtain ⟨x, h1, h⟩ := bd h
      refine bind_some h1 ?_
      rcases brc h with ⟨hb, h⟩ | ⟨hb, h⟩
      · refine br_t hb ?_
        obtain rfl := Option.some.inj h
        first | rfl | (simp only [List.length_set, go_sem]; done)
      · refine br_f hb ?_
        obtain rfl := Option.some.inj h
        first | rfl | (simp only [List.length_set, go_sem]; done)
    · refine br_f hb ?_
      obtain rfl := Option.some.inj h
      first | rfl | (simp only [List.length_set, go_sem]; done)
noncomputable def cmp_Or_int (vals : (List Int)) : Option (Int) :=
  (Loop (cmp_Or_int_1_s (0 : Int) vals ((vals.length : Nat) : Int)) (0 : Int)).bind (alt (fun e_2 =>
    some e_2) (fun e_3 =>
    some (0 : Int)))
theorem cmp_Or_int_c {vals : (List Int)} {r : Int} (h : cmp_Or_int vals = some r) : Call tab ow 278 [sl eI vals] [] = some (I r, []) := by
  rw [run_cmp_Or_int]
  unfold cmp_Or_int at h
  simp +decide only [b_cmp_Or_int, go_sem, reduceIte, Nat.reduceAdd]
  obtain ⟨e_, h1, h⟩ := bd h
  refine goR_of (cmp_Or_int_1_l h1) ?_
  rcases e_ with e_2 | e_3
  · simp +decide only [go_sem, reduceIte, Nat.reduceAdd]
    obtain rfl := Option.some.inj h
    first | rfl | (simp only [List.length_set, go_sem]; done)
  · simp +decide only [go_sem, reduceIte, Nat.reduceAdd]
    obtain rfl := Option.some.inj h
    first | rfl | (simp only [List.length_set, go_sem]; done)
section
theorem i_Entry_order_k0 : mkR 2010 [] = rws eI [] := rfl
attribute [local go_sem] i_Entry_order_k0
noncomputable def i_Entry_order (e_ : Entry) (f : Entry) : Option (Int) :=
  (cmp_Compare_int e_.Row f.Row).bind fun r_ =>
  (cmp_Compare_int e_.Col f.Col).bind fun r_2 =>
  (cmp_Or_int ([r_, r_2] : List Int)).bind fun r_3 =>
  some r_3
theorem i_Entry_order_c {e_ : Entry} {f : Entry} {r : Int} (h : i_Entry_order e_ f = some r) : Call tab ow 251 [.agg [I e_.Row, I e_.Col, I e_.Value], .agg [I f.Row, I f.Col, I f.Value]] [] = some (I r, []) := by
  rw [run_i_Entry_order]
  unfold i_Entry_order at h
  simp +decide only [b_i_Entry_order, go_sem, reduceIte, Nat.reduceAdd]
  obtain ⟨r_, h1, h⟩ := bd h
  refine call_aftD (cmp_Compare_int_c h1) ?_
  simp +decide only [go_sem, reduceIte, Nat.reduceAdd]
  obtain ⟨r_2, h1, h⟩ := bd h
  refine call_aftD (cmp_Compare_int_c h1) ?_
  simp +decide only [go_sem, reduceIte, Nat.reduceAdd]
  obtain ⟨r_3, h1, h⟩ := bd h
  refine call_aftD (cmp_Or_int_c h1) ?_
  simp +decide only [go_sem, reduceIte, Nat.reduceAdd]
  obtain rfl := Option.some.inj h
  first | rfl | (simp only [List.length_set, go_sem]; done)
end
noncomputable def i_isMatrix_1_s (list2 : List Entry) (rows2 : Int) (cols2 : Int) (t : List Entry) (t2 : Int) : Int → Option ((Int) ⊕ ((Int × Int × Int) ⊕ (Int × Bool)))
  | t3 =>
    br (decide (t3 < t2)) (
      (atL t t3).bind fun x =>
      (i_in x.Row (0 : Int) (IntKind.wrap .i64 (rows2 - (1 : Int)))).bind fun r_ =>
      br (!r_) (
        some (.inr (.inl (x.Row, x.Col, x.Value)))) (
        (i_in x.Col (0 : Int) (IntKind.wrap .i64 (cols2 - (1 : Int)))).bind fun r_2 =>
        br (!r_2) (
          some (.inr (.inl (x.Row, x.Col, x.Value)))) (
          (i_in x.Value (1 : Int) (2130706432 : Int)).bind fun r_3 =>
          br (!r_3) (
            some (.inr (.inl (x.Row, x.Col, x.Value)))) (
            br (decide (t3 > (0 : Int))) (
              (atL list2 (IntKind.wrap .i64 (t3 - (1 : Int)))).bind fun x2 =>
              (i_Entry_order x2 x).bind fun r_4 =>
              br (decide (r_4 ≥ (0 : Int))) (
                some (.inr (.inl (x.Row, x.Col, x.Value)))) (
                some (.inl (IntKind.wrap .i64 (t3 + (1 : Int)))))) (
              some (.inl (IntKind.wrap .i64 (t3 + (1 : Int))))))))) (
      some (.inr (.inr (t3, decide (t3 < t2)))))
theorem i_isMatrix_1_l {list2 : List Entry} {rows2 : Int} {cols2 : Int} {t : List Entry} {t2 : Int} {t3 : Int} {e : (Int × Int × Int) ⊕ (Int × Bool)} (h : Loop (i_isMatrix_1_s list2 rows2 cols2 t t2) t3 = some e) : LoopX tab ow (.close [4003, 5004, 5011, 5017, 5030]) b_i_isMatrix_2 ⟨[(0, sl eEntry list2), (1, I rows2), (2, I cols2), (9, sl eEntry t), (10, I t2), (11, I t3)], []⟩ = some ((alt (fun e => ((.ret, ⟨[(6, B false)], [(4003, ⟨3, true, [[I e.1, I e.2.1, I e.2.2]]⟩)]⟩) : AExit × St)) (fun e => (.exit 0, ⟨[(0, sl eEntry list2), (1, I rows2), (2, I cols2), (9, sl eEntry t), (10, I t2), (11, I e.1), (12, B e.2)], []⟩))) e) := by
  refine loop_runG (S := Int) (eS := fun s => ⟨[(0, sl eEntry list2), (1, I rows2), (2, I cols2), (9, sl eEntry t), (10, I t2), (11, I s)], []⟩) (eE := fun e => (alt (fun e => ((.ret, ⟨[(6, B false)], [(4003, ⟨3, true, [[I e.1, I e.2.1, I e.2.2]]⟩)]⟩) : AExit × St)) (fun e => (.exit 0, ⟨[(0, sl eEntry list2), (1, I rows2), (2, I cols2), (9, sl eEntry t), (10, I t2), (11, I e.1), (12, B e.2)], []⟩))) e) (fun e => ?_) (fun t3 o h => ?_) h
  · rcases e with e | e <;> simp [alt]
  · skip
    simp only [i_isMatrix_1_s] at h
    show Rn tab ow _ _ ⟨[(0, sl eEntry list2), (1, I rows2), (2, I cols2), (9, sl eEntry t), (10, I t2), (11, I t3)], []⟩ = _
    simp +decide only [b_i_isMatrix_2, go_sem, reduceIte, Nat.reduceAdd]
    rcases brc h with ⟨hb, h⟩ | ⟨hb, h⟩
    · refine br_t hb ?_
      obtain ⟨x, h1, h⟩ := bd h
      refine bind_some h1 ?_
      obtain ⟨r_, h1, h⟩ := bd h
      refine call_aftD (i_in_c h1) ?_
      simp +decide only [go_sem, reduceIte, Nat.reduceAdd]
      rcases brc h with ⟨hb, h⟩ | ⟨hb, h⟩
      · refine br_t hb ?_
        obtain rfl := Option.some.inj h
        first | rfl | (simp only [List.length_set, go_sem]; done)
      · refine br_f hb ?_
        obtain ⟨r_2, h1, h⟩ := bd h
        refine call_aftD (i_in_c h1) ?_
        simp +decide only [go_sem, reduceIte, Nat.reduceAdd]
        rcases brc h with ⟨hb, h⟩ | ⟨hb, h⟩
        · refine br_t hb ?_
          obtain rfl := Option.some.inj h
          first | rfl | (simp only [List.length_set, go_sem]; done)
        · refine br_f hb ?_
          obtain ⟨r_3, h1, h⟩ := bd h
          refine call_aftD (i_in_c h1) ?_
          simp +decide only [go_sem, reduceIte, Nat.reduceAdd]
          rcases brc h with ⟨hb, h⟩ | ⟨hb, h⟩
          · refine br_t hb ?_
            obtain rfl := Option.some.inj h
            first | rfl | (simp only [List.length_set, go_sem]; done)
          · refine br_f hb ?_
            rcases brc h with ⟨hb, h⟩ | ⟨hb, h⟩
            · refine br_t hb ?_
              obtain ⟨x2, h1, h⟩ := bd h
              refine bind_some h1 ?_
              obtain ⟨r_4, h1, h⟩ := bd h
              refine call_aftD (i_Entry_order_c h1) ?_
              simp +decide only [go_sem, reduceIte, Nat.reduceAdd]
              rcases brc h with ⟨hb, h⟩ | ⟨hb, h⟩
              · refine br_t hb ?_
                obtain rfl := Option.some.inj h
                first | rfl | (simp only [List.length_set, go_sem]; done)
              · refine br_f hb ?_
                obtain rfl := Option.some.inj h
                first | rfl | (simp only [List.length_set, go_sem]; done)
            · refine br_f hb ?_
              obtain rfl := Option.some.inj h
              first | rfl | (simp only [List.length_set, go_sem]; done)
    · refine br_f hb ?_
      obtain rfl := Option.some.inj h
      first | rfl | (simp only [List.length_set, go_sem]; done)
noncomputable def i_isMatrix (list : (List Entry)) (rows : Int) (cols : Int) : Option (Bool) :=
  (Loop (i_isMatrix_1_s list rows cols list ((list.length : Nat) : Int)) (0 : Int)).bind (alt (fun e_2 =>
    some false) (fun e_3 =>
    some (decide (((list.length : Nat) : Int) ≤ (200 : Int)))))
theorem i_isMatrix_c {list : (List Entry)} {rows : Int} {cols : Int} {r : Bool} (h : i_isMatrix list rows cols = some r) : Call tab ow 169 [sl eEntry list, I rows, I cols] [] = some (B r, []) := by
  rw [run_i_isMatrix]
  unfold i_isMatrix at h
  simp +decide only [b_i_isMatrix, go_sem, reduceIte, Nat.reduceAdd]
  obtain ⟨e_, h1, h⟩ := bd h
  refine goR_of (i_isMatrix_1_l h1) ?_
  rcases e_ with e_2 | e_3
  · simp +decide only [go_sem, reduceIte, Nat.reduceAdd]
    obtain rfl := Option.some.inj h
    first | rfl | (simp only [List.length_set, go_sem]; done)
  · simp +decide only [go_sem, reduceIte, Nat.reduceAdd]
    obtain rfl := Option.some.inj h
    first | rfl | (simp only [List.length_set, go_sem]; done)
noncomputable def i_SystemOK (s : System) : Option (Bool) :=
  (i_in s.Rows (1 : Int) (5 : Int)).bind fun r_ =>
  br (!r_) (
    some false) (
    (i_in s.Cols (2 : Int) (5 : Int)).bind fun r_2 =>
    br (!r_2) (
      some false) (
      (i_System_half s).bind fun r_3 =>
      (i_in s.Publics (0 : Int) (IntKind.wrap .i64 (r_3 - (1 : Int)))).bind fun r_4 =>
      br (!r_4) (
        some false) (
        (i_System_matrices s).bind fun r_5 =>
        br (decide (0 ≤ s.Rows)) (
          br (decide (0 ≤ s.Cols)) (
            (i_isMatrix r_5.1 (shl64 .i64 (1 : Int) s.Rows) (shl64 .i64 (1 : Int) s.Cols)).bind fun r_6 =>
            br (!r_6) (
              some false) (
              br (decide (0 ≤ s.Rows)) (
                br (decide (0 ≤ s.Cols)) (
                  (i_isMatrix r_5.2.1 (shl64 .i64 (1 : Int) s.Rows) (shl64 .i64 (1 : Int) s.Cols)).bind fun r_7 =>
                  br (!r_7) (
                    some false) (
                    br (decide (0 ≤ s.Rows)) (
                      br (decide (0 ≤ s.Cols)) (
                        (i_isMatrix r_5.2.2 (shl64 .i64 (1 : Int) s.Rows) (shl64 .i64 (1 : Int) s.Cols)).bind fun r_8 =>
                        br (!r_8) (
                          some false) (
                          some true)) (
                        none)) (
                      none))) (
                  none)) (
                none))) (
            none)) (
          none))))
theorem i_SystemOK_c {s : System} {r : Bool} (h : i_SystemOK s = some r) : Call tab ow 97 [.agg [I s.Rows, I s.Cols, I s.Publics, sl eEntry s.A, sl eEntry s.B, sl eEntry s.C]] [] = some (B r, []) := by
  rw [run_i_SystemOK]
  unfold i_SystemOK at h
  simp +decide only [b_i_SystemOK, go_sem, reduceIte, Nat.reduceAdd, Int.reduceAdd, Int.reduceMul, Int.reduceSub]
  obtain ⟨r_, h1, h⟩ := bd h
  refine call_aftD (i_in_c h1) ?_
  simp +decide only [go_sem, reduceIte, Nat.reduceAdd, Int.reduceAdd, Int.reduceMul, Int.reduceSub]
  rcases brc h with ⟨hb, h⟩ | ⟨hb, h⟩
  · refine br_t hb ?_
    obtain rfl := Option.some.inj h
    first | rfl | (simp only [List.length_set, go_sem]; done)
  · refine br_f hb ?_
    obtain ⟨r_2, h1, h⟩ := bd h
    refine call_aftD (i_in_c h1) ?_
    simp +decide only [go_sem, reduceIte, Nat.reduceAdd, Int.reduceAdd, Int.reduceMul, Int.reduceSub]
    rcases brc h with ⟨hb, h⟩ | ⟨hb, h⟩
    · refine br_t hb ?_
      obtain rfl := Option.some.inj h
      first | rfl | (simp only [List.length_set, go_sem]; done)
    · refine br_f hb ?_
      obtain ⟨r_3, h1, h⟩ := bd h
      refine call_aftD (i_System_half_c h1) ?_
      simp +decide only [go_sem, reduceIte, Nat.reduceAdd, Int.reduceAdd, Int.reduceMul, Int.reduceSub]
      obtain ⟨r_4, h1, h⟩ := bd h
      refine call_aftD (i_in_c h1) ?_
      simp +decide only [go_sem, reduceIte, Nat.reduceAdd, Int.reduceAdd, Int.reduceMul, Int.reduceSub]
      rcases brc h with ⟨hb, h⟩ | ⟨hb, h⟩
      · refine br_t hb ?_
        obtain rfl := Option.some.inj h
        first | rfl | (simp only [List.length_set, go_sem]; done)
      · refine br_f hb ?_
        obtain ⟨r_5, h1, h⟩ := bd h
        refine call_aft (i_System_matrices_c h1) ?_
        simp +decide only [go_sem, reduceIte, Nat.reduceAdd, Int.reduceAdd, Int.reduceMul, Int.reduceSub]
        refine unroll_of ?_
        simp +decide only [b_i_SystemOK_4, go_sem, reduceIte, Nat.reduceAdd, Int.reduceAdd, Int.reduceMul, Int.reduceSub]
        obtain ⟨hb, h⟩ := brg h
        refine br_t hb ?_
        obtain ⟨hb, h⟩ := brg h
        refine br_t hb ?_
        obtain ⟨r_6, h1, h⟩ := bd h
        refine call_aftD (i_isMatrix_c h1) ?_
        simp +decide only [go_sem, reduceIte, Nat.reduceAdd, Int.reduceAdd, Int.reduceMul, Int.reduceSub]
        rcases brc h with ⟨hb, h⟩ | ⟨hb, h⟩
        · refine br_t hb ?_
          obtain rfl := Option.some.inj h
          first | rfl | (simp only [List.length_set, go_sem]; done)
        · refine br_f hb ?_
          refine unroll_of ?_
          simp +decide only [b_i_SystemOK_4, go_sem, reduceIte, Nat.reduceAdd, Int.reduceAdd, Int.reduceMul, Int.reduceSub]
          obtain ⟨hb, h⟩ := brg h
          refine br_t hb ?_
          obtain ⟨hb, h⟩ := brg h
          refine br_t hb ?_
          obtain ⟨r_7, h1, h⟩ := bd h
          refine call_aftD (i_isMatrix_c h1) ?_
          simp +decide only [go_sem, reduceIte, Nat.reduceAdd, Int.reduceAdd, Int.reduceMul, Int.reduceSub]
          rcases brc h with ⟨hb, h⟩ | ⟨hb, h⟩
          · refine br_t hb ?_
            obtain rfl := Option.some.inj h
            first | rfl | (simp only [List.length_set, go_sem]; done)
          · refine br_f hb ?_
            refine unroll_of ?_
            simp +decide only [b_i_SystemOK_4, go_sem, reduceIte, Nat.reduceAdd, Int.reduceAdd, Int.reduceMul, Int.reduceSub]
            obtain ⟨hb, h⟩ := brg h
            refine br_t hb ?_
            obtain ⟨hb, h⟩ := brg h
            refine br_t hb ?_
            obtain ⟨r_8, h1, h⟩ := bd h
            refine call_aftD (i_isMatrix_c h1) ?_
            simp +decide only [go_sem, reduceIte, Nat.reduceAdd, Int.reduceAdd, Int.reduceMul, Int.reduceSub]
            rcases brc h with ⟨hb, h⟩ | ⟨hb, h⟩
            · refine br_t hb ?_
              obtain rfl := Option.some.inj h
              first | rfl | (simp only [List.length_set, go_sem]; done)
            · refine br_f hb ?_
              refine unroll_of ?_
              simp +decide only [b_i_SystemOK_4, go_sem, reduceIte, Nat.reduceAdd, Int.reduceAdd, Int.reduceMul, Int.reduceSub]
              obtain rfl := Option.some.inj h
              first | rfl | (simp only [List.length_set, go_sem]; done)
noncomputable def i_FieldOK (a : Int) : Option (Bool) :=
  (i_in a (0 : Int) (2130706432 : Int)).bind fun r_ =>
  some r_
theorem i_FieldOK_c {a : Int} {r : Bool} (h : i_FieldOK a = some r) : Call tab ow 99 [I a] [] = some (B r, []) := by
  rw [run_i_FieldOK]
  unfold i_FieldOK at h
  simp +decide only [b_i_FieldOK, go_sem, reduceIte, Nat.reduceAdd]
  obtain ⟨r_, h1, h⟩ := bd h
  refine call_aft (i_in_c h1) ?_
  simp +decide only [go_sem, reduceIte, Nat.reduceAdd]
  obtain rfl := Option.some.inj h
  first | rfl | (simp only [List.length_set, go_sem]; done)
noncomputable def i_are_int_1_FieldOK (x : Int) : Option (Bool) :=
  (i_FieldOK x).bind fun r_ =>
  some (!r_)
theorem i_are_int_1_FieldOK_c {x : Int} {r : Bool} (h : i_are_int_1_FieldOK x = some r) : Call tab ow 205 [I x, .ptr 0 0 0 1] [⟨1, true, [[.fn 99 []]]⟩] = some (B r, [⟨1, true, [[.fn 99 []]]⟩]) := by
  rw [run_i_are_int_1]
  unfold i_are_int_1_FieldOK at h
  simp +decide only [b_i_are_int_1, go_sem, reduceIte, Nat.reduceAdd]
  obtain ⟨r_, h1, h⟩ := bd h
  refine call_aft (i_FieldOK_c h1) ?_
  simp +decide only [go_sem, reduceIte, Nat.reduceAdd]
  obtain rfl := Option.some.inj h
  first | rfl | (simp only [List.length_set, go_sem]; done)
noncomputable def slices_IndexFunc_Lint_int_are_int_1_FieldOK_1_s (s2 : List Int) (t : Int) : Int → Option ((Int) ⊕ (Int ⊕ (Int × Bool)))
  | t2 =>
    br (decide (t2 < t)) (
      (atL s2 t2).bind fun x =>
      (i_are_int_1_FieldOK x).bind fun r_ =>
      br r_ (
        some (.inr (.inl t2))) (
        some (.inl (IntKind.wrap .i64 (t2 + (1 : Int)))))) (
      some (.inr (.inr (t2, decide (t2 < t)))))
theorem slices_IndexFunc_Lint_int_are_int_1_FieldOK_1_l {s2 : List Int} {t : Int} {t2 : Int} {e : Int ⊕ (Int × Bool)} (h : Loop (slices_IndexFunc_Lint_int_are_int_1_FieldOK_1_s s2 t) t2 = some e) : LoopX tab ow (.close [5005]) b_slices_IndexFunc_Lint_int_2 ⟨[(0, sl eI s2), (1, .fn 205 [.ptr 0 0 0 1]), (7, I t), (8, I t2)], [(0, ⟨1, true, [[.fn 99 []]]⟩)]⟩ = some ((alt (fun e => ((.ret, ⟨[(4, I e)], [(0, ⟨1, true, [[.fn 99 []]]⟩)]⟩) : AExit × St)) (fun e => (.exit 0, ⟨[(0, sl eI s2), (1, .fn 205 [.ptr 0 0 0 1]), (7, I t), (8, I e.1), (9, B e.2)], [(0, ⟨1, true, [[.fn 99 []]]⟩)]⟩))) e) := by
  refine loop_runG (S := Int) (eS := fun s => ⟨[(0, sl eI s2), (1, .fn 205 [.ptr 0 0 0 1]), (7, I t), (8, I s)], [(0, ⟨1, true, [[.fn 99 []]]⟩)]⟩) (eE := fun e => (alt (fun e => ((.ret, ⟨[(4, I e)], [(0, ⟨1, true, [[.fn 99 []]]⟩)]⟩) : AExit × St)) (fun e => (.exit 0, ⟨[(0, sl eI s2), (1, .fn 205 [.ptr 0 0 0 1]), (7, I t), (8, I e.1), (9, B e.2)], [(0, ⟨1, true, [[.fn 99 []]]⟩)]⟩))) e) (fun e => ?_) (fun t2 o h => ?_) h
  · rcases e with e | e <;> simp [alt]
  · skip
    simp only [slices_IndexFunc_Lint_int_are_int_1_FieldOK_1_s] at h
    show Rn tab ow _ _ ⟨[(0, sl eI s2), (1, .fn 205 [.ptr 0 0 0 1]), (7, I t), (8, I t2)], [(0, ⟨1, true, [[.fn 99 []]]⟩)]⟩ = _
    simp +decide only [b_slices_IndexFunc_Lint_int_2, go_sem, reduceIte, Nat.reduceAdd]
    rcases brc h with ⟨hb, h⟩ | ⟨hb, h⟩
    · refine br_t hb ?_
      obtain ⟨x, h1, h⟩ := bd h
      refine bind_some h1 ?_
      obtain ⟨r_, h1, h⟩ := bd h
      refine call_aft (i_are_int_1_FieldOK_c h1) ?_
      simp +decide only [go_sem, reduceIte, Nat.reduceAdd]
      rcases brc h with ⟨hb, h⟩ | ⟨hb, h⟩
      · refine br_t hb ?_
        obtain rfl := Option.some.inj h
        first | rfl | (simp only [List.length_set, go_sem]; done)
      · refine br_f hb ?_
        obtain rfl := Option.some.inj h
        first | rfl | (simp only [List.length_set, go_sem]; done)
    · refine br_f hb ?_
      obtain rfl := Option.some.inj h
      first | rfl | (simp only [List.length_set, go_sem]; done)
noncomputable def slices_IndexFunc_Lint_int_are_int_1_FieldOK (s : (List Int)) : Option (Int) :=
  (Loop (slices_IndexFunc_Lint_int_are_int_1_FieldOK_1_s s ((s.length : Nat) : Int)) (0 : Int)).bind (alt (fun e_2 =>
    some e_2) (fun e_3 =>
    some (-1 : Int)))
theorem slices_IndexFunc_Lint_int_are_int_1_FieldOK_c {s : (List Int)} {r : Int} (h : slices_IndexFunc_Lint_int_are_int_1_FieldOK s = some r) : Call tab ow 265 [sl eI s, .fn 205 [.ptr 0 0 0 1]] [⟨1, true, [[.fn 99 []]]⟩] = some (I r, [⟨1, true, [[.fn 99 []]]⟩]) := by
  rw [run_slices_IndexFunc_Lint_int]
  unfold slices_IndexFunc_Lint_int_are_int_1_FieldOK at h
  simp +decide only [b_slices_IndexFunc_Lint_int, go_sem, reduceIte, Nat.reduceAdd]
  obtain ⟨e_, h1, h⟩ := bd h
  refine goR_of (slices_IndexFunc_Lint_int_are_int_1_FieldOK_1_l h1) ?_
  rcases e_ with e_2 | e_3
  · simp +decide only [go_sem, reduceIte, Nat.reduceAdd]
    obtain rfl := Option.some.inj h
    first | rfl | (simp only [List.length_set, go_sem]; done)
  · simp +decide only [go_sem, reduceIte, Nat.reduceAdd]
    obtain rfl := Option.some.inj h
    first | rfl | (simp only [List.length_set, go_sem]; done)
noncomputable def slices_ContainsFunc_Lint_int_are_int_1_FieldOK (s : (List Int)) : Option (Bool) :=
  (slices_IndexFunc_Lint_int_are_int_1_FieldOK s).bind fun r_ =>
  some (decide (r_ ≥ (0 : Int)))
theorem slices_ContainsFunc_Lint_int_are_int_1_FieldOK_c {s : (List Int)} {r : Bool} (h : slices_ContainsFunc_Lint_int_are_int_1_FieldOK s = some r) : Call tab ow 204 [sl eI s, .fn 205 [.ptr 0 0 0 1]] [⟨1, true, [[.fn 99 []]]⟩] = some (B r, [⟨1, true, [[.fn 99 []]]⟩]) := by
  rw [run_slices_ContainsFunc_Lint_int]
  unfold slices_ContainsFunc_Lint_int_are_int_1_FieldOK at h
  simp +decide only [b_slices_ContainsFunc_Lint_int, go_sem, reduceIte, Nat.reduceAdd]
  obtain ⟨r_, h1, h⟩ := bd h
  refine call_aft (slices_IndexFunc_Lint_int_are_int_1_FieldOK_c h1) ?_
  simp +decide only [go_sem, reduceIte, Nat.reduceAdd]
  obtain rfl := Option.some.inj h
  first | rfl | (simp only [List.length_set, go_sem]; done)
noncomputable def i_are_int_FieldOK (list : (List Int)) : Option (Bool) :=
  (slices_ContainsFunc_Lint_int_are_int_1_FieldOK list).bind fun r_ =>
  some (!r_)
theorem i_are_int_FieldOK_c {list : (List Int)} {r : Bool} (h : i_are_int_FieldOK list = some r) : Call tab ow 98 [.fn 99 [], sl eI list] [] = some (B r, []) := by
  rw [run_i_are_int]
  unfold i_are_int_FieldOK at h
  simp +decide only [b_i_are_int, go_sem, reduceIte, Nat.reduceAdd]
  obtain ⟨r_, h1, h⟩ := bd h
  refine call_aft (slices_ContainsFunc_Lint_int_are_int_1_FieldOK_c h1) ?_
  simp +decide only [go_sem, reduceIte, Nat.reduceAdd]
  obtain rfl := Option.some.inj h
  first | rfl | (simp only [List.length_set, go_sem]; done)
noncomputable def i_ExtOK (a : Ext) : Option (Bool) :=
  (i_FieldOK a.A).bind fun r_ =>
  br r_ (
    (i_FieldOK a.B).bind fun r_2 =>
    some r_2) (
    some false)
theorem i_ExtOK_c {a : Ext} {r : Bool} (h : i_ExtOK a = some r) : Call tab ow 101 [.agg [I a.A, I a.B]] [] = some (B r, []) := by
  rw [run_i_ExtOK]
  unfold i_ExtOK at h
  simp +decide only [b_i_ExtOK, go_sem, reduceIte, Nat.reduceAdd]
  obtain ⟨r_, h1, h⟩ := bd h
  refine call_aft (i_FieldOK_c h1) ?_
  simp +decide only [go_sem, reduceIte, Nat.reduceAdd]
  rcases brc h with ⟨hb, h⟩ | ⟨hb, h⟩
  · refine br_t hb ?_
    obtain ⟨r_2, h1, h⟩ := bd h
    refine call_aft (i_FieldOK_c h1) ?_
    simp +decide only [go_sem, reduceIte, Nat.reduceAdd]
    obtain rfl := Option.some.inj h
    first | rfl | (simp only [List.length_set, go_sem]; done)
  · refine br_f hb ?_
    obtain rfl := Option.some.inj h
    first | rfl | (simp only [List.length_set, go_sem]; done)
end Go.AI.Fn

set_option linter.unusedVariables false
set_option linter.unusedSimpArgs false
set_option maxRecDepth 100000
set_option maxHeartbeats 1000000
namespace Go.AI.Fn
noncomputable def i_are_i_Ext_1_ExtOK (x : Ext) : Option (Bool) :=
  (i_ExtOK x).bind fun r_ =>
  some (!r_)
theorem i_are_i_Ext_1_ExtOK_c {x : Ext} {r : Bool} (h : i_are_i_Ext_1_ExtOK x = some r) : Call tab ow 206 [.agg [I x.A, I x.B], .ptr 0 0 0 1] [⟨1, true, [[.fn 101 []]]⟩] = some (B r, [⟨1, true, [[.fn 101 []]]⟩]) := by
  rw [run_i_are_i_Ext_1]
  unfold i_are_i_Ext_1_ExtOK at h
  simp +decide only [b_i_are_i_Ext_1, go_sem, reduceIte, Nat.reduceAdd]
  obtain ⟨r_, h1, h⟩ := bd h
  refine call_aft (i_ExtOK_c h1) ?_
  simp +decide only [go_sem, reduceIte, Nat.reduceAdd]
  obtain rfl := Option.some.inj h
  first | rfl | (simp only [List.length_set, go_sem]; done)
noncomputable def slices_IndexFunc_Li_Ext_i_Ext_are_i_Ext_1_ExtOK_1_s (s2 : List Ext) (t : Int) : Int → Option ((Int) ⊕ (Int ⊕ (Int × Bool)))
  | t2 =>
    br (decide (t2 < t)) (
      (atL s2 t2).bind fun x =>
      (i_are_i_Ext_1_ExtOK x).bind fun r_ =>
      br r_ (
        some (.inr (.inl t2))) (
        some (.inl (IntKind.wrap .i64 (t2 + (1 : Int)))))) (
      some (.inr (.inr (t2, decide (t2 < t)))))
theorem slices_IndexFunc_Li_Ext_i_Ext_are_i_Ext_1_ExtOK_1_l {s2 : List Ext} {t : Int} {t2 : Int} {e : Int ⊕ (Int × Bool)} (h : Loop (slices_IndexFunc_Li_Ext_i_Ext_are_i_Ext_1_ExtOK_1_s s2 t) t2 = some e) : LoopX tab ow (.close [5005]) b_slices_IndexFunc_Li_Ext_i_Ext_2 ⟨[(0, sl eExt s2), (1, .fn 206 [.ptr 0 0 0 1]), (7, I t), (8, I t2)], [(0, ⟨1, true, [[.fn 101 []]]⟩)]⟩ = some ((alt (fun e => ((.ret, ⟨[(4, I e)], [(0, ⟨1, true, [[.fn 101 []]]⟩)]⟩) : AExit × St)) (fun e => (.exit 0, ⟨[(0, sl eExt s2), (1, .fn 206 [.ptr 0 0 0 1]), (7, I t), (8, I e.1), (9, B e.2)], [(0, ⟨1, true, [[.fn 101 []]]⟩)]⟩))) e) := by
  refine loop_runG (S := Int) (eS := fun s => ⟨[(0, sl eExt s2), (1, .fn 206 [.ptr 0 0 0 1]), (7, I t), (8, I s)], [(0, ⟨1, true, [[.fn 101 []]]⟩)]⟩) (eE := fun e => (alt (fun e => ((.ret, ⟨[(4, I e)], [(0, ⟨1, true, [[.fn 101 []]]⟩)]⟩) : AExit × St)) (fun e => (.exit 0, ⟨[(0, sl eExt s2), (1, .fn 206 [.ptr 0 0 0 1]), (7, I t), (8, I e.1), (9, B e.2)], [(0, ⟨1, true, [[.fn 101 []]]⟩)]⟩))) e) (fun e => ?_) (fun t2 o h => ?_) h
  · rcases e with e | e <;> simp [alt]
  · skip
    simp only [slices_IndexFunc_Li_Ext_i_Ext_are_i_Ext_1_ExtOK_1_s] at h
    show Rn tab ow _ _ ⟨[(0, sl eExt s2), (1, .fn 206 [.ptr 0 0 0 1]), (7, I t), (8, I t2)], [(0, ⟨1, true, [[.fn 101 []]]⟩)]⟩ = _
    simp +decide only [b_slices_IndexFunc_Li_Ext_i_Ext_2, go_sem, reduceIte, Nat.reduceAdd]
    rcases brc h with ⟨hb, h⟩ | ⟨hb, h⟩
    · refine br_t hb ?_
      obtain ⟨x, h1, h⟩ := bd h
      refine bind_some h1 ?_
      obtain ⟨r_, h1, h⟩ := bd h
      refine call_aft (i_are_i_Ext_1_ExtOK_c h1) ?_
      simp +decide only [go_sem, reduceIte, Nat.reduceAdd]
      rcases brc h with ⟨hb, h⟩ | ⟨hb, h⟩
      · refine br_t hb ?_
        obtain rfl := Option.some.inj h
        first | rfl | (simp only [List.length_set, go_sem]; done)
      · refine br_f hb ?_
        obtain rfl := Option.some.inj h
        first | rfl | (simp only [List.length_set, go_sem]; done)
    · refine br_f hb ?_
      obtain rfl := Option.some.inj h
      first | rfl | (simp only [List.length_set, go_sem]; done)
noncomputable def slices_IndexFunc_Li_Ext_i_Ext_are_i_Ext_1_ExtOK (s : (List Ext)) : Option (Int) :=
  (Loop (slices_IndexFunc_Li_Ext_i_Ext_are_i_Ext_1_ExtOK_1_s s ((s.length : Nat) : Int)) (0 : Int)).bind (alt (fun e_2 =>
    some e_2) (fun e_3 =>
    some (-1 : Int)))
theorem slices_IndexFunc_Li_Ext_i_Ext_are_i_Ext_1_ExtOK_c {s : (List Ext)} {r : Int} (h : slices_IndexFunc_Li_Ext_i_Ext_are_i_Ext_1_ExtOK s = some r) : Call tab ow 234 [sl eExt s, .fn 206 [.ptr 0 0 0 1]] [⟨1, true, [[.fn 101 []]]⟩] = some (I r, [⟨1, true, [[.fn 101 []]]⟩]) := by
  rw [run_slices_IndexFunc_Li_Ext_i_Ext]
  unfold slices_IndexFunc_Li_Ext_i_Ext_are_i_Ext_1_ExtOK at h
  simp +decide only [b_slices_IndexFunc_Li_Ext_i_Ext, go_sem, reduceIte, Nat.reduceAdd]
  obtain ⟨e_, h1, h⟩ := bd h
  refine goR_of (slices_IndexFunc_Li_Ext_i_Ext_are_i_Ext_1_ExtOK_1_l h1) ?_
  rcases e_ with e_2 | e_3
  · simp +decide only [go_sem, reduceIte, Nat.reduceAdd]
    obtain rfl := Option.some.inj h
    first | rfl | (simp only [List.length_set, go_sem]; done)
  · simp +decide only [go_sem, reduceIte, Nat.reduceAdd]
    obtain rfl := Option.some.inj h
    first | rfl | (simp only [List.length_set, go_sem]; done)
noncomputable def slices_ContainsFunc_Li_Ext_i_Ext_are_i_Ext_1_ExtOK (s : (List Ext)) : Option (Bool) :=
  (slices_IndexFunc_Li_Ext_i_Ext_are_i_Ext_1_ExtOK s).bind fun r_ =>
  some (decide (r_ ≥ (0 : Int)))
theorem slices_ContainsFunc_Li_Ext_i_Ext_are_i_Ext_1_ExtOK_c {s : (List Ext)} {r : Bool} (h : slices_ContainsFunc_Li_Ext_i_Ext_are_i_Ext_1_ExtOK s = some r) : Call tab ow 144 [sl eExt s, .fn 206 [.ptr 0 0 0 1]] [⟨1, true, [[.fn 101 []]]⟩] = some (B r, [⟨1, true, [[.fn 101 []]]⟩]) := by
  rw [run_slices_ContainsFunc_Li_Ext_i_Ext]
  unfold slices_ContainsFunc_Li_Ext_i_Ext_are_i_Ext_1_ExtOK at h
  simp +decide only [b_slices_ContainsFunc_Li_Ext_i_Ext, go_sem, reduceIte, Nat.reduceAdd]
  obtain ⟨r_, h1, h⟩ := bd h
  refine call_aft (slices_IndexFunc_Li_Ext_i_Ext_are_i_Ext_1_ExtOK_c h1) ?_
  simp +decide only [go_sem, reduceIte, Nat.reduceAdd]
  obtain rfl := Option.some.inj h
  first | rfl | (simp only [List.length_set, go_sem]; done)
noncomputable def i_are_i_Ext_ExtOK (list : (List Ext)) : Option (Bool) :=
  (slices_ContainsFunc_Li_Ext_i_Ext_are_i_Ext_1_ExtOK list).bind fun r_ =>
  some (!r_)
theorem i_are_i_Ext_ExtOK_c {list : (List Ext)} {r : Bool} (h : i_are_i_Ext_ExtOK list = some r) : Call tab ow 100 [.fn 101 [], sl eExt list] [] = some (B r, []) := by
  rw [run_i_are_i_Ext]
  unfold i_are_i_Ext_ExtOK at h
  simp +decide only [b_i_are_i_Ext, go_sem, reduceIte, Nat.reduceAdd]
  obtain ⟨r_, h1, h⟩ := bd h
  refine call_aft (slices_ContainsFunc_Li_Ext_i_Ext_are_i_Ext_1_ExtOK_c h1) ?_
  simp +decide only [go_sem, reduceIte, Nat.reduceAdd]
  obtain rfl := Option.some.inj h
  first | rfl | (simp only [List.length_set, go_sem]; done)
section
theorem i_System_vector_k0 : ∀ k, repR 2003 k [I (0 : Int)] = rws eI (List.replicate k (0 : Int)) := fun _ => repT eI (0 : Int) _ _
attribute [local go_sem] i_System_vector_k0
noncomputable def i_System_vector (s : System) (publics : (List Int)) (privates : (List Int)) : Option ((List Int)) :=
  br (decide (0 ≤ s.Cols)) (
    br (mkOK (shl64 .i64 (1 : Int) s.Cols) (shl64 .i64 (1 : Int) s.Cols) 8) (
      br (decide (0 < (List.replicate ((shl64 .i64 (1 : Int) s.Cols).toNat) (0 : Int)).length)) (
        ((List.replicate ((shl64 .i64 (1 : Int) s.Cols).toNat) (0 : Int))[0]?).bind fun x =>
        br (decide ((1 : Int) ≤ (((List.replicate ((shl64 .i64 (1 : Int) s.Cols).toNat) (0 : Int)).length : Nat) : Int))) (
          br (decide (1 + ((List.replicate ((shl64 .i64 (1 : Int) s.Cols).toNat) (0 : Int)).length - 1) = (List.replicate ((shl64 .i64 (1 : Int) s.Cols).toNat) (0 : Int)).length)) (
            (i_System_half s).bind fun r_ =>
            br (decide (0 ≤ r_) && decide (r_ ≤ (((List.replicate ((shl64 .i64 (1 : Int) s.Cols).toNat) (0 : Int)).length : Nat) : Int))) (
              br (decide (r_.toNat + ((List.replicate ((shl64 .i64 (1 : Int) s.Cols).toNat) (0 : Int)).length - r_.toNat) = (List.replicate ((shl64 .i64 (1 : Int) s.Cols).toNat) (0 : Int)).length)) (
                some (copyL (copyL ((List.replicate ((shl64 .i64 (1 : Int) s.Cols).toNat) (0 : Int)).set 0 (1 : Int)) 1 (min publics.length ((List.replicate ((shl64 .i64 (1 : Int) s.Cols).toNat) (0 : Int)).length - 1)) publics) r_.toNat (min privates.length ((List.replicate ((shl64 .i64 (1 : Int) s.Cols).toNat) (0 : Int)).length - r_.toNat)) privates)) (
                none)) (
              none)) (
            none)) (
          none)) (
        none)) (
      none)) (
    none)
theorem i_System_vector_c {s : System} {publics : (List Int)} {privates : (List Int)} {r : (List Int)} (h : i_System_vector s publics privates = some r) : Call tab ow 104 [.agg [I s.Rows, I s.Cols, I s.Publics, sl eEntry s.A, sl eEntry s.B, sl eEntry s.C], sl eI publics, sl eI privates] [] = some (sl eI r, []) := by
  rw [run_i_System_vector]
  unfold i_System_vector at h
  simp +decide only [b_i_System_vector, go_sem, reduceIte, Nat.reduceAdd]
  obtain ⟨hb, h⟩ := brg h
  refine br_t hb ?_
  obtain ⟨hb, h⟩ := brg h
  refine br_t hb ?_
  obtain ⟨hb, h⟩ := brg h
  refine br_t hb ?_
  obtain ⟨x, h1, h⟩ := bd h
  refine bind_some h1 ?_
  obtain ⟨hb, h⟩ := brg h
  refine br_t hb ?_
  obtain ⟨hb, h⟩ := brg h
  refine br_t hb ?_
  obtain ⟨r_, h1, h⟩ := bd h
  refine call_aft (i_System_half_c h1) ?_
  simp +decide only [go_sem, reduceIte, Nat.reduceAdd]
  obtain ⟨hb, h⟩ := brg h
  refine br_t hb ?_
  obtain ⟨hb, h⟩ := brg h
  refine br_t hb ?_
  obtain rfl := Option.some.inj h
  first | rfl | (simp only [List.length_set, go_sem]; done)
end
section
theorem i_exts_k0 : mkR 2000 [] = rws eExt [] := rfl
attribute [local go_sem] i_exts_k0
theorem i_exts_k1 : mkR 6003 [] = rws eExt [] := rfl
attribute [local go_sem] i_exts_k1
noncomputable def i_exts_1_s (t : List Int) (t2 : Int) : (List Ext) × Int → Option (((List Ext) × Int) ⊕ (((List Ext) × Int × Bool)))
  | (l, t3) =>
    br (decide (t3 < t2)) (
      (atL t t3).bind fun x =>
      br (fits ((l ++ ([(Ext.mk x (0 : Int))] : List Ext)).length) 16) (
        some (.inl ((l ++ ([(Ext.mk x (0 : Int))] : List Ext)), (IntKind.wrap .i64 (t3 + (1 : Int)))))) (
        none)) (
      some (.inr (l, t3, decide (t3 < t2))))
theorem i_exts_1_l {t : List Int} {t2 : Int} {l : List Ext} {t3 : Int} {e : ((List Ext) × Int × Bool)} (h : Loop (i_exts_1_s t t2) (l, t3) = some e) : LoopX tab ow (.close [6003, 6004]) b_i_exts_3 ⟨[(3, .sl 2000 0 l.length), (7, sl eI t), (8, I t2), (9, I t3)], [(2000, ⟨2, false, rws eExt l⟩)]⟩ = some ((.exit 0, ⟨[(3, .sl 2000 0 e.1.length), (7, sl eI t), (8, I t2), (9, I e.2.1), (10, B e.2.2)], [(2000, ⟨2, false, rws eExt e.1⟩)]⟩)) := by
  refine loop_runG (S := (List Ext) × Int) (eS := fun s => ⟨[(3, .sl 2000 0 s.1.length), (7, sl eI t), (8, I t2), (9, I s.2)], [(2000, ⟨2, false, rws eExt s.1⟩)]⟩) (eE := fun e => (.exit 0, ⟨[(3, .sl 2000 0 e.1.length), (7, sl eI t), (8, I t2), (9, I e.2.1), (10, B e.2.2)], [(2000, ⟨2, false, rws eExt e.1⟩)]⟩)) (fun e => ?_) (fun s o h => ?_) h
  · simp [alt]
  · obtain ⟨l, t3⟩ := s
    simp only [i_exts_1_s] at h
    show Rn tab ow _ _ ⟨[(3, .sl 2000 0 l.length), (7, sl eI t), (8, I t2), (9, I t3)], [(2000, ⟨2, false, rws eExt l⟩)]⟩ = _
    simp +decide only [b_i_exts_3, go_sem, reduceIte, Nat.reduceAdd]
    rcases brc h with ⟨hb, h⟩ | ⟨hb, h⟩
    · refine br_t hb ?_
      obtain ⟨x, h1, h⟩ := bd h
      refine bind_some h1 ?_
      obtain ⟨hb, h⟩ := brg h
      refine br_t hb ?_
      obtain rfl := Option.some.inj h
      first | rfl | (simp only [List.length_set, go_sem]; done)
    · refine br_f hb ?_
      obtain rfl := Option.some.inj h
      first | rfl | (simp only [List.length_set, go_sem]; done)
noncomputable def i_exts (list : (List Int)) : Option ((List Ext)) :=
  (Loop (i_exts_1_s list ((list.length : Nat) : Int)) (([] : List Ext), (0 : Int))).bind fun e_ =>
  some e_.1
theorem i_exts_c {list : (List Int)} {r : (List Ext)} (h : i_exts list = some r) : Call tab ow 207 [sl eI list] [] = some (sl eExt r, []) := by
  rw [run_i_exts]
  unfold i_exts at h
  simp +decide only [b_i_exts, go_sem, reduceIte, Nat.reduceAdd]
  obtain ⟨e_, h1, h⟩ := bd h
  refine goR_of (i_exts_1_l h1) ?_
  simp +decide only [go_sem, reduceIte, Nat.reduceAdd]
  obtain rfl := Option.some.inj h
  first | rfl | (simp only [List.length_set, go_sem]; done)
end
noncomputable def i_one : Option (Ext) :=
  some (Ext.mk (1 : Int) (0 : Int))
theorem i_one_c {r : Ext} (h : i_one = some r) : Call tab ow 208 [] [] = some (.agg [I r.A, I r.B], []) := by
  rw [run_i_one]
  unfold i_one at h
  simp +decide only [b_i_one, go_sem, reduceIte, Nat.reduceAdd]
  obtain rfl := Option.some.inj h
  first | rfl | (simp only [List.length_set, go_sem]; done)
noncomputable def i_sub (a : Int) (b : Int) : Option (Int) :=
  some ((IntKind.wrap .i64 ((IntKind.wrap .i64 (a - b)) + (2130706433 : Int))).tmod (2130706433 : Int))
theorem i_sub_c {a : Int} {b : Int} {r : Int} (h : i_sub a b = some r) : Call tab ow 266 [I a, I b] [] = some (I r, []) := by
  rw [run_i_sub]
  unfold i_sub at h
  simp +decide only [b_i_sub, go_sem, reduceIte, Nat.reduceAdd]
  obtain rfl := Option.some.inj h
  first | rfl | (simp only [List.length_set, go_sem]; done)
noncomputable def i_Ext_minus (a : Ext) (b : Ext) : Option (Ext) :=
  (i_sub a.A b.A).bind fun r_ =>
  (i_sub a.B b.B).bind fun r_2 =>
  some (Ext.mk r_ r_2)
theorem i_Ext_minus_c {a : Ext} {b : Ext} {r : Ext} (h : i_Ext_minus a b = some r) : Call tab ow 209 [.agg [I a.A, I a.B], .agg [I b.A, I b.B]] [] = some (.agg [I r.A, I r.B], []) := by
  rw [run_i_Ext_minus]
  unfold i_Ext_minus at h
  simp +decide only [b_i_Ext_minus, go_sem, reduceIte, Nat.reduceAdd]
  obtain ⟨r_, h1, h⟩ := bd h
  refine call_aftD (i_sub_c h1) ?_
  simp +decide only [go_sem, reduceIte, Nat.reduceAdd]
  obtain ⟨r_2, h1, h⟩ := bd h
  refine call_aftD (i_sub_c h1) ?_
  simp +decide only [go_sem, reduceIte, Nat.reduceAdd]
  obtain rfl := Option.some.inj h
  first | rfl | (simp only [List.length_set, go_sem]; done)
noncomputable def i_mul (a : Int) (b : Int) : Option (Int) :=
  some ((IntKind.wrap .i64 (a * b)).tmod (2130706433 : Int))
theorem i_mul_c {a : Int} {b : Int} {r : Int} (h : i_mul a b = some r) : Call tab ow 212 [I a, I b] [] = some (I r, []) := by
  rw [run_i_mul]
  unfold i_mul at h
  simp +decide only [b_i_mul, go_sem, reduceIte, Nat.reduceAdd]
  obtain rfl := Option.some.inj h
  first | rfl | (simp only [List.length_set, go_sem]; done)
noncomputable def i_add (a : Int) (b : Int) : Option (Int) :=
  some ((IntKind.wrap .i64 (a + b)).tmod (2130706433 : Int))
theorem i_add_c {a : Int} {b : Int} {r : Int} (h : i_add a b = some r) : Call tab ow 211 [I a, I b] [] = some (I r, []) := by
  rw [run_i_add]
  unfold i_add at h
  simp +decide only [b_i_add, go_sem, reduceIte, Nat.reduceAdd]
  obtain rfl := Option.some.inj h
  first | rfl | (simp only [List.length_set, go_sem]; done)
noncomputable def i_Ext_times (a : Ext) (b : Ext) : Option (Ext) :=
  (i_mul a.A b.A).bind fun r_ =>
  (i_mul a.B b.B).bind fun r_2 =>
  (i_mul (3 : Int) r_2).bind fun r_3 =>
  (i_add r_ r_3).bind fun r_4 =>
  (i_mul a.A b.B).bind fun r_5 =>
  (i_mul a.B b.A).bind fun r_6 =>
  (i_add r_5 r_6).bind fun r_7 =>
  some (Ext.mk r_4 r_7)
theorem i_Ext_times_c {a : Ext} {b : Ext} {r : Ext} (h : i_Ext_times a b = some r) : Call tab ow 115 [.agg [I a.A, I a.B], .agg [I b.A, I b.B]] [] = some (.agg [I r.A, I r.B], []) := by
  rw [run_i_Ext_times]
  unfold i_Ext_times at h
  simp +decide only [b_i_Ext_times, go_sem, reduceIte, Nat.reduceAdd]
  obtain ⟨r_, h1, h⟩ := bd h
  refine call_aftD (i_mul_c h1) ?_
  simp +decide only [go_sem, reduceIte, Nat.reduceAdd]
  obtain ⟨r_2, h1, h⟩ := bd h
  refine call_aftD (i_mul_c h1) ?_
  simp +decide only [go_sem, reduceIte, Nat.reduceAdd]
  obtain ⟨r_3, h1, h⟩ := bd h
  refine call_aftD (i_mul_c h1) ?_
  simp +decide only [go_sem, reduceIte, Nat.reduceAdd]
  obtain ⟨r_4, h1, h⟩ := bd h
  refine call_aftD (i_add_c h1) ?_
  simp +decide only [go_sem, reduceIte, Nat.reduceAdd]
  obtain ⟨r_5, h1, h⟩ := bd h
  refine call_aftD (i_mul_c h1) ?_
  simp +decide only [go_sem, reduceIte, Nat.reduceAdd]
  obtain ⟨r_6, h1, h⟩ := bd h
  refine call_aftD (i_mul_c h1) ?_
  simp +decide only [go_sem, reduceIte, Nat.reduceAdd]
  obtain ⟨r_7, h1, h⟩ := bd h
  refine call_aftD (i_add_c h1) ?_
  simp +decide only [go_sem, reduceIte, Nat.reduceAdd]
  obtain rfl := Option.some.inj h
  first | rfl | (simp only [List.length_set, go_sem]; done)
section
theorem i_eqTable_k0 : mkR 2001 [] = rws eExt [] := rfl
attribute [local go_sem] i_eqTable_k0
theorem i_eqTable_k1 : mkR 6000 [] = rws eExt [] := rfl
attribute [local go_sem] i_eqTable_k1
theorem i_eqTable_k2 : mkR 6001 [] = rws eExt [] := rfl
attribute [local go_sem] i_eqTable_k2
theorem i_eqTable_k3 : mkR 10006 [] = rws eExt [] := rfl
attribute [local go_sem] i_eqTable_k3
theorem i_eqTable_k4 : mkR 10012 [] = rws eExt [] := rfl
attribute [local go_sem] i_eqTable_k4
noncomputable def i_eqTable_2_s (t4 : List Ext) (t5 : Int) (t6 : Int) (t7 : List Ext) (t8 : Int) (c : Int) (c2 : Int) : (List Ext) × (List Ext) × Int → Option (((List Ext) × (List Ext) × Int) ⊕ (((List Ext) × (List Ext) × Int × Bool)))
  | (l, l2, t9) =>
    br (decide (t9 < t8)) (
      (atL t7 t9).bind fun x2 =>
      (i_one).bind fun r_2 =>
      (i_Ext_minus r_2 (Ext.mk c c2)).bind fun r_3 =>
      (i_Ext_times x2 r_3).bind fun r_4 =>
      br (fits ((l ++ ([r_4] : List Ext)).length) 16) (
        (i_Ext_times x2 (Ext.mk c c2)).bind fun r_5 =>
        br (fits ((l2 ++ ([r_5] : List Ext)).length) 16) (
          some (.inl ((l ++ ([r_4] : List Ext)), (l2 ++ ([r_5] : List Ext)), (IntKind.wrap .i64 (t9 + (1 : Int)))))) (
          none)) (
        none)) (
      some (.inr (l, l2, t9, decide (t9 < t8))))
theorem i_eqTable_2_l {t4 : List Ext} {t5 : Int} {t6 : Int} {t7 : List Ext} {t8 : Int} {c : Int} {c2 : Int} {l : List Ext} {l2 : List Ext} {t9 : Int} {e : ((List Ext) × (List Ext) × Int × Bool)} (h : Loop (i_eqTable_2_s t4 t5 t6 t7 t8 c c2) (l, l2, t9) = some e) : LoopX tab ow (.close [9002, 10002, 10004, 10005, 10006, 10007, 10011, 10012, 10013]) b_i_eqTable_7 ⟨[(5, .ptr 5002 0 0 1), (6, .sl 6000 0 l.length), (7, .sl 6001 0 l2.length), (12, sl eExt t4), (13, I t5), (14, I t6), (20, sl eExt t7), (21, I t8), (22, I t9)], [(5002, ⟨2, true, [[I c, I c2]]⟩), (6000, ⟨2, false, rws eExt l⟩), (6001, ⟨2, false, rws eExt l2⟩)]⟩ = some ((.exit 2, ⟨[(5, .ptr 5002 0 0 1), (6, .sl 6000 0 e.1.length), (7, .sl 6001 0 e.2.1.length), (12, sl eExt t4), (13, I t5), (14, I t6), (20, sl eExt t7), (21, I t8), (22, I e.2.2.1), (23, B e.2.2.2)], [(5002, ⟨2, true, [[I c, I c2]]⟩), (6000, ⟨2, false, rws eExt e.1⟩), (6001, ⟨2, false, rws eExt e.2.1⟩)]⟩)) := by
  refine loop_runG (S := (List Ext) × (List Ext) × Int) (eS := fun s => ⟨[(5, .ptr 5002 0 0 1), (6, .sl 6000 0 s.1.length), (7, .sl 6001 0 s.2.1.length), (12, sl eExt t4), (13, I t5), (14, I t6), (20, sl eExt t7), (21, I t8), (22, I s.2.2)], [(5002, ⟨2, true, [[I c, I c2]]⟩), (6000, ⟨2, false, rws eExt s.1⟩), (6001, ⟨2, false, rws eExt s.2.1⟩)]⟩) (eE := fun e => (.exit 2, ⟨[(5, .ptr 5002 0 0 1), (6, .sl 6000 0 e.1.length), (7, .sl 6001 0 e.2.1.length), (12, sl eExt t4), (13, I t5), (14, I t6), (20, sl eExt t7), (21, I t8), (22, I e.2.2.1), (23, B e.2.2.2)], [(5002, ⟨2, true, [[I c, I c2]]⟩), (6000, ⟨2, false, rws eExt e.1⟩), (6001, ⟨2, false, rws eExt e.2.1⟩)]⟩)) (fun e => ?_) (fun s o h => ?_) h
  · simp [alt]
  · obtain ⟨l, l2, t9⟩ := s
    simp only [i_eqTable_2_s] at h
    show Rn tab ow _ _ ⟨[(5, .ptr 5002 0 0 1), (6, .sl 6000 0 l.length), (7, .sl 6001 0 l2.length), (12, sl eExt t4), (13, I t5), (14, I t6), (20, sl eExt t7), (21, I t8), (22, I t9)], [(5002, ⟨2, true, [[I c, I c2]]⟩), (6000, ⟨2, false, rws eExt l⟩), (6001, ⟨2, false, rws eExt l2⟩)]⟩ = _
    simp +decide only [b_i_eqTable_7, go_sem, reduceIte, Nat.reduceAdd]
    rcases brc h with ⟨hb, h⟩ | ⟨hb, h⟩
    · refine br_t hb ?_
      obtain ⟨x2, h1, h⟩ := bd h
      refine bind_some h1 ?_
      obtain ⟨r_2, h1, h⟩ := bd h
      refine call_aftD (i_one_c h1) ?_
      simp +decide only [go_sem, reduceIte, Nat.reduceAdd]
      obtain ⟨r_3, h1, h⟩ := bd h
      refine call_aftD (i_Ext_minus_c h1) ?_
      simp +decide only [go_sem, reduceIte, Nat.reduceAdd]
      obtain ⟨r_4, h1, h⟩ := bd h
      refine call_aftD (i_Ext_times_c h1) ?_
      simp +decide only [go_sem, reduceIte, Nat.reduceAdd]
      obtain ⟨hb, h⟩ := brg h
      refine br_t hb ?_
      obtain ⟨r_5, h1, h⟩ := bd h
      refine call_aftD (i_Ext_times_c h1) ?_
      simp +decide only [go_sem, reduceIte, Nat.reduceAdd]
      obtain ⟨hb, h⟩ := brg h
      refine br_t hb ?_
      obtain rfl := Option.some.inj h
      first | rfl | (simp only [List.length_set, go_sem]; done)
    · refine br_f hb ?_
      obtain rfl := Option.some.inj h
      first | rfl | (simp only [List.length_set, go_sem]; done)
noncomputable def i_eqTable_1_s (t : List Ext) (t2 : Int) : (List Ext) × Int → Option (((List Ext) × Int) ⊕ (((List Ext) × Int × Bool)))
  | (out, t3) =>
    br (decide (t3 < t2)) (
      (atL t t3).bind fun x =>
      (Loop (i_eqTable_2_s t t2 t3 out ((out.length : Nat) : Int) x.A x.B) (([] : List Ext), ([] : List Ext), (0 : Int))).bind fun e_ =>
      br (fits ((e_.1 ++ e_.2.1).length) 16) (
        some (.inl ((e_.1 ++ e_.2.1), (IntKind.wrap .i64 (t3 + (1 : Int)))))) (
        none)) (
      some (.inr (out, t3, decide (t3 < t2))))
theorem i_eqTable_1_l {t : List Ext} {t2 : Int} {out : List Ext} {t3 : Int} {e : ((List Ext) × Int × Bool)} (h : Loop (i_eqTable_1_s t t2) (out, t3) = some e) : LoopX tab ow (.close [5002, 6000, 6001, 9002, 10002, 10004, 10005, 10006, 10007, 10011, 10012, 10013, 12002, 2001]) b_i_eqTable_3 ⟨[(3, sl eExt out), (12, sl eExt t), (13, I t2), (14, I t3)], []⟩ = some ((.exit 0, ⟨[(3, sl eExt e.1), (12, sl eExt t), (13, I t2), (14, I e.2.1), (15, B e.2.2)], []⟩)) := by
  refine loop_runG (S := (List Ext) × Int) (eS := fun s => ⟨[(3, sl eExt s.1), (12, sl eExt t), (13, I t2), (14, I s.2)], []⟩) (eE := fun e => (.exit 0, ⟨[(3, sl eExt e.1), (12, sl eExt t), (13, I t2), (14, I e.2.1), (15, B e.2.2)], []⟩)) (fun e => ?_) (fun s o h => ?_) h
  · simp [alt]
  · obtain ⟨out, t3⟩ := s
    simp only [i_eqTable_1_s] at h
    show Rn tab ow _ _ ⟨[(3, sl eExt out), (12, sl eExt t), (13, I t2), (14, I t3)], []⟩ = _
    simp +decide only [b_i_eqTable_3, go_sem, reduceIte, Nat.reduceAdd]
    rcases brc h with ⟨hb, h⟩ | ⟨hb, h⟩
    · refine br_t hb ?_
      obtain ⟨x, h1, h⟩ := bd h
      refine bind_some h1 ?_
      obtain ⟨e_, h1, h⟩ := bd h
      refine goR_of (i_eqTable_2_l h1) ?_
      simp +decide only [go_sem, reduceIte, Nat.reduceAdd]
      obtain ⟨hb, h⟩ := brg h
      refine br_t hb ?_
      obtain rfl := Option.some.inj h
      first | rfl | (simp only [List.length_set, go_sem]; done)
    · refine br_f hb ?_
      obtain rfl := Option.some.inj h
      first | rfl | (simp only [List.length_set, go_sem]; done)
noncomputable def i_eqTable (point : (List Ext)) : Option ((List Ext)) :=
  (i_one).bind fun r_ =>
  (Loop (i_eqTable_1_s point ((point.length : Nat) : Int)) (([r_] : List Ext), (0 : Int))).bind fun e_2 =>
  some e_2.1
theorem i_eqTable_c {point : (List Ext)} {r : (List Ext)} (h : i_eqTable point = some r) : Call tab ow 108 [sl eExt point] [] = some (sl eExt r, []) := by
  rw [run_i_eqTable]
  unfold i_eqTable at h
  simp +decide only [b_i_eqTable, go_sem, reduceIte, Nat.reduceAdd]
  obtain ⟨r_, h1, h⟩ := bd h
  refine call_aft (i_one_c h1) ?_
  simp +decide only [go_sem, reduceIte, Nat.reduceAdd]
  obtain ⟨e_2, h1, h⟩ := bd h
  refine goR_of (i_eqTable_1_l h1) ?_
  simp +decide only [go_sem, reduceIte, Nat.reduceAdd]
  obtain rfl := Option.some.inj h
  first | rfl | (simp only [List.length_set, go_sem]; done)
end
noncomputable def i_Ext_plus (a : Ext) (b : Ext) : Option (Ext) :=
  (i_add a.A b.A).bind fun r_ =>
  (i_add a.B b.B).bind fun r_2 =>
  some (Ext.mk r_ r_2)
theorem i_Ext_plus_c {a : Ext} {b : Ext} {r : Ext} (h : i_Ext_plus a b = some r) : Call tab ow 116 [.agg [I a.A, I a.B], .agg [I b.A, I b.B]] [] = some (.agg [I r.A, I r.B], []) := by
  rw [run_i_Ext_plus]
  unfold i_Ext_plus at h
  simp +decide only [b_i_Ext_plus, go_sem, reduceIte, Nat.reduceAdd]
  obtain ⟨r_, h1, h⟩ := bd h
  refine call_aftD (i_add_c h1) ?_
  simp +decide only [go_sem, reduceIte, Nat.reduceAdd]
  obtain ⟨r_2, h1, h⟩ := bd h
  refine call_aftD (i_add_c h1) ?_
  simp +decide only [go_sem, reduceIte, Nat.reduceAdd]
  obtain rfl := Option.some.inj h
  first | rfl | (simp only [List.length_set, go_sem]; done)
noncomputable def i_dot_1_s (b2 : List Ext) (t : List Ext) (t2 : Int) (c : Int) (c2 : Int) : Int × Int × Int → Option ((Int × Int × Int) ⊕ ((Int × Bool × Int × Int)))
  | (t3, c3, c4) =>
    br (decide (t3 < t2)) (
      (atL t t3).bind fun x =>
      (atL b2 t3).bind fun x2 =>
      (i_Ext_times x x2).bind fun r_ =>
      (i_Ext_plus (Ext.mk c3 c4) r_).bind fun r_2 =>
      some (.inl ((IntKind.wrap .i64 (t3 + (1 : Int))), r_2.A, r_2.B))) (
      some (.inr (t3, decide (t3 < t2), c3, c4)))
theorem i_dot_1_l {b2 : List Ext} {t : List Ext} {t2 : Int} {c : Int} {c2 : Int} {t3 : Int} {c3 : Int} {c4 : Int} {e : (Int × Bool × Int × Int)} (h : Loop (i_dot_1_s b2 t t2 c c2) (t3, c3, c4) = some e) : LoopX tab ow (.close [5003, 6006, 6007]) b_i_dot_3 ⟨[(1, sl eExt b2), (4, .ptr 1000 0 0 1), (5, .ptr 2001 0 0 1), (9, sl eExt t), (10, I t2), (11, I t3)], [(1000, ⟨2, true, [[I c, I c2]]⟩), (2001, ⟨2, true, [[I c3, I c4]]⟩)]⟩ = some ((.exit 0, ⟨[(1, sl eExt b2), (4, .ptr 1000 0 0 1), (5, .ptr 2001 0 0 1), (9, sl eExt t), (10, I t2), (11, I e.1), (12, B e.2.1)], [(1000, ⟨2, true, [[I c, I c2]]⟩), (2001, ⟨2, true, [[I e.2.2.1, I e.2.2.2]]⟩)]⟩)) := by
  refine loop_runG (S := Int × Int × Int) (eS := fun s => ⟨[(1, sl eExt b2), (4, .ptr 1000 0 0 1), (5, .ptr 2001 0 0 1), (9, sl eExt t), (10, I t2), (11, I s.1)], [(1000, ⟨2, true, [[I c, I c2]]⟩), (2001, ⟨2, true, [[I s.2.1, I s.2.2]]⟩)]⟩) (eE := fun e => (.exit 0, ⟨[(1, sl eExt b2), (4, .ptr 1000 0 0 1), (5, .ptr 2001 0 0 1), (9, sl eExt t), (10, I t2), (11, I e.1), (12, B e.2.1)], [(1000, ⟨2, true, [[I c, I c2]]⟩), (2001, ⟨2, true, [[I e.2.2.1, I e.2.2.2]]⟩)]⟩)) (fun e => ?_) (fun s o h => ?_) h
  · simp [alt]
  · obtain ⟨t3, c3, c4⟩ := s
    simp only [i_dot_1_s] at h
    show Rn tab ow _ _ ⟨[(1, sl eExt b2), (4, .ptr 1000 0 0 1), (5, .ptr 2001 0 0 1), (9, sl eExt t), (10, I t2), (11, I t3)], [(1000, ⟨2, true, [[I c, I c2]]⟩), (2001, ⟨2, true, [[I c3, I c4]]⟩)]⟩ = _
    simp +decide only [b_i_dot_3, go_sem, reduceIte, Nat.reduceAdd]
    rcases brc h with ⟨hb, h⟩ | ⟨hb, h⟩
    · refine br_t hb ?_
      obtain ⟨x, h1, h⟩ := bd h
      refine bind_some h1 ?_
      obtain ⟨x2, h1, h⟩ := bd h
      refine bind_some h1 ?_
      obtain ⟨r_, h1, h⟩ := bd h
      refine call_aftD (i_Ext_times_c h1) ?_
      simp +decide only [go_sem, reduceIte, Nat.reduceAdd]
      obtain ⟨r_2, h1, h⟩ := bd h
      refine call_aftD (i_Ext_plus_c h1) ?_
      simp +decide only [go_sem, reduceIte, Nat.reduceAdd]
      obtain rfl := Option.some.inj h
      first | rfl | (simp only [List.length_set, go_sem]; done)
    · refine br_f hb ?_
      obtain rfl := Option.some.inj h
      first | rfl | (simp only [List.length_set, go_sem]; done)
noncomputable def i_dot (a : (List Ext)) (b : (List Ext)) : Option (Ext) :=
  (Loop (i_dot_1_s b a ((a.length : Nat) : Int) (0 : Int) (0 : Int)) ((0 : Int), (0 : Int), (0 : Int))).bind fun e_ =>
  some (Ext.mk e_.2.2.1 e_.2.2.2)
theorem i_dot_c {a : (List Ext)} {b : (List Ext)} {r : Ext} (h : i_dot a b = some r) : Call tab ow 107 [sl eExt a, sl eExt b] [] = some (.agg [I r.A, I r.B], []) := by
  rw [run_i_dot]
  unfold i_dot at h
  simp +decide only [b_i_dot, go_sem, reduceIte, Nat.reduceAdd]
  obtain ⟨e_, h1, h⟩ := bd h
  refine goR_of (i_dot_1_l h1) ?_
  simp +decide only [go_sem, reduceIte, Nat.reduceAdd]
  obtain rfl := Option.some.inj h
  first | rfl | (simp only [List.length_set, go_sem]; done)
noncomputable def i_publicAt (s : System) (publics : (List Int)) (point : (List Ext)) : Option (Ext) :=
  (i_System_vector s publics ([] : List Int)).bind fun r_ =>
  (i_System_half s).bind fun r_2 =>
  (subL r_ (0 : Int) r_2).bind fun y =>
  (i_exts y).bind fun r_3 =>
  (i_eqTable point).bind fun r_4 =>
  (i_dot r_3 r_4).bind fun r_5 =>
  some r_5
theorem i_publicAt_c {s : System} {publics : (List Int)} {point : (List Ext)} {r : Ext} (h : i_publicAt s publics point = some r) : Call tab ow 102 [.agg [I s.Rows, I s.Cols, I s.Publics, sl eEntry s.A, sl eEntry s.B, sl eEntry s.C], sl eI publics, sl eExt point] [] = some (.agg [I r.A, I r.B], []) := by
  rw [run_i_publicAt]
  unfold i_publicAt at h
  simp +decide only [b_i_publicAt, go_sem, reduceIte, Nat.reduceAdd]
  obtain ⟨r_, h1, h⟩ := bd h
  refine call_aftD (i_System_vector_c h1) ?_
  simp +decide only [go_sem, reduceIte, Nat.reduceAdd]
  obtain ⟨r_2, h1, h⟩ := bd h
  refine call_aftD (i_System_half_c h1) ?_
  simp +decide only [go_sem, reduceIte, Nat.reduceAdd]
  obtain ⟨y, h1, h⟩ := bd h
  refine bind_some h1 ?_
  obtain ⟨r_3, h1, h⟩ := bd h
  refine call_aftD (i_exts_c h1) ?_
  simp +decide only [go_sem, reduceIte, Nat.reduceAdd]
  obtain ⟨r_4, h1, h⟩ := bd h
  refine call_aftD (i_eqTable_c h1) ?_
  simp +decide only [go_sem, reduceIte, Nat.reduceAdd]
  obtain ⟨r_5, h1, h⟩ := bd h
  refine call_aftD (i_dot_c h1) ?_
  simp +decide only [go_sem, reduceIte, Nat.reduceAdd]
  obtain rfl := Option.some.inj h
  first | rfl | (simp only [List.length_set, go_sem]; done)
noncomputable def i_PublicAt (s : System) (publics : (List Int)) (point : (List Ext)) : Option (Ext × Int) :=
  br (decide (((publics.length : Nat) : Int) > (4096 : Int))) (
    some ((Ext.mk (0 : Int) (0 : Int)), (2 : Int))) (
    br (decide (((point.length : Nat) : Int) > (4096 : Int))) (
      some ((Ext.mk (0 : Int) (0 : Int)), (2 : Int))) (
      (i_SystemOK s).bind fun r_ =>
      br (!r_) (
        some ((Ext.mk (0 : Int) (0 : Int)), (1 : Int))) (
        (i_are_int_FieldOK publics).bind fun r_2 =>
        br (!r_2) (
          some ((Ext.mk (0 : Int) (0 : Int)), (1 : Int))) (
          (i_are_i_Ext_ExtOK point).bind fun r_3 =>
          br (!r_3) (
            some ((Ext.mk (0 : Int) (0 : Int)), (1 : Int))) (
            br (((publics.length : Nat) : Int) != s.Publics) (
              some ((Ext.mk (0 : Int) (0 : Int)), (8 : Int))) (
              br (((point.length : Nat) : Int) != (IntKind.wrap .i64 (s.Cols - (1 : Int)))) (
                some ((Ext.mk (0 : Int) (0 : Int)), (8 : Int))) (
                (i_publicAt s publics point).bind fun r_4 =>
                some (r_4, (0 : Int)))))))))
theorem i_PublicAt_c {s : System} {publics : (List Int)} {point : (List Ext)} {r : Ext × Int} (h : i_PublicAt s publics point = some r) : Call tab ow 18 [.agg [I s.Rows, I s.Cols, I s.Publics, sl eEntry s.A, sl eEntry s.B, sl eEntry s.C], sl eI publics, sl eExt point] [] = some (.tup [.agg [I r.1.A, I r.1.B], I r.2], []) := by
  rw [run_i_PublicAt]
  unfold i_PublicAt at h
  simp +decide only [b_i_PublicAt, go_sem, reduceIte, Nat.reduceAdd]
  rcases brc h with ⟨hb, h⟩ | ⟨hb, h⟩
  · refine br_t hb ?_
    obtain rfl := Option.some.inj h
    first | rfl | (simp only [List.length_set, go_sem]; done)
  · refine br_f hb ?_
    rcases brc h with ⟨hb, h⟩ | ⟨hb, h⟩
    · refine br_t hb ?_
      obtain rfl := Option.some.inj h
      first | rfl | (simp only [List.length_set, go_sem]; done)
    · refine br_f hb ?_
      obtain ⟨r_, h1, h⟩ := bd h
      refine call_aft (i_SystemOK_c h1) ?_
      simp +decide only [go_sem, reduceIte, Nat.reduceAdd]
      rcases brc h with ⟨hb, h⟩ | ⟨hb, h⟩
      · refine br_t hb ?_
        obtain rfl := Option.some.inj h
        first | rfl | (simp only [List.length_set, go_sem]; done)
      · refine br_f hb ?_
        obtain ⟨r_2, h1, h⟩ := bd h
        refine call_aft (i_are_int_FieldOK_c h1) ?_
        simp +decide only [go_sem, reduceIte, Nat.reduceAdd]
        rcases brc h with ⟨hb, h⟩ | ⟨hb, h⟩
        · refine br_t hb ?_
          obtain rfl := Option.some.inj h
          first | rfl | (simp only [List.length_set, go_sem]; done)
        · refine br_f hb ?_
          obtain ⟨r_3, h1, h⟩ := bd h
          refine call_aft (i_are_i_Ext_ExtOK_c h1) ?_
          simp +decide only [go_sem, reduceIte, Nat.reduceAdd]
          rcases brc h with ⟨hb, h⟩ | ⟨hb, h⟩
          · refine br_t hb ?_
            obtain rfl := Option.some.inj h
            first | rfl | (simp only [List.length_set, go_sem]; done)
          · refine br_f hb ?_
            rcases brc h with ⟨hb, h⟩ | ⟨hb, h⟩
            · refine br_t hb ?_
              obtain rfl := Option.some.inj h
              first | rfl | (simp only [List.length_set, go_sem]; done)
            · refine br_f hb ?_
              rcases brc h with ⟨hb, h⟩ | ⟨hb, h⟩
              · refine br_t hb ?_
                obtain rfl := Option.some.inj h
                first | rfl | (simp only [List.length_set, go_sem]; done)
              · refine br_f hb ?_
                obtain ⟨r_4, h1, h⟩ := bd h
                refine call_aft (i_publicAt_c h1) ?_
                simp +decide only [go_sem, reduceIte, Nat.reduceAdd]
                obtain rfl := Option.some.inj h
                first | rfl | (simp only [List.length_set, go_sem]; done)
noncomputable def i_VectorOf (s : System) (publics : (List Int)) (privates : (List Int)) : Option ((List Int) × Int) :=
  br (decide (((publics.length : Nat) : Int) > (4096 : Int))) (
    some (([] : List Int), (2 : Int))) (
    br (decide (((privates.length : Nat) : Int) > (4096 : Int))) (
      some (([] : List Int), (2 : Int))) (
      (i_SystemOK s).bind fun r_ =>
      br (!r_) (
        some (([] : List Int), (1 : Int))) (
        (i_are_int_FieldOK publics).bind fun r_2 =>
        br (!r_2) (
          some (([] : List Int), (1 : Int))) (
          (i_are_int_FieldOK privates).bind fun r_3 =>
          br (!r_3) (
            some (([] : List Int), (1 : Int))) (
            br (((publics.length : Nat) : Int) != s.Publics) (
              some (([] : List Int), (8 : Int))) (
              (i_System_half s).bind fun r_4 =>
              br (decide (((privates.length : Nat) : Int) > r_4)) (
                some (([] : List Int), (8 : Int))) (
                (i_System_vector s publics privates).bind fun r_5 =>
                some (r_5, (0 : Int)))))))))
theorem i_VectorOf_c {s : System} {publics : (List Int)} {privates : (List Int)} {r : (List Int) × Int} (h : i_VectorOf s publics privates = some r) : Call tab ow 19 [.agg [I s.Rows, I s.Cols, I s.Publics, sl eEntry s.A, sl eEntry s.B, sl eEntry s.C], sl eI publics, sl eI privates] [] = some (.tup [sl eI r.1, I r.2], []) := by
  rw [run_i_VectorOf]
  unfold i_VectorOf at h
  simp +decide only [b_i_VectorOf, go_sem, reduceIte, Nat.reduceAdd]
  rcases brc h with ⟨hb, h⟩ | ⟨hb, h⟩
  · refine br_t hb ?_
    obtain rfl := Option.some.inj h
    first | rfl | (simp only [List.length_set, go_sem]; done)
  · refine br_f hb ?_
    rcases brc h with ⟨hb, h⟩ | ⟨hb, h⟩
    · refine br_t hb ?_
      obtain rfl := Option.some.inj h
      first | rfl | (simp only [List.length_set, go_sem]; done)
    · refine br_f hb ?_
      obtain ⟨r_, h1, h⟩ := bd h
      refine call_aft (i_SystemOK_c h1) ?_
      simp +decide only [go_sem, reduceIte, Nat.reduceAdd]
      rcases brc h with ⟨hb, h⟩ | ⟨hb, h⟩
      · refine br_t hb ?_
        obtain rfl := Option.some.inj h
        first | rfl | (simp only [List.length_set, go_sem]; done)
      · refine br_f hb ?_
        obtain ⟨r_2, h1, h⟩ := bd h
        refine call_aft (i_are_int_FieldOK_c h1) ?_
        simp +decide only [go_sem, reduceIte, Nat.reduceAdd]
        rcases brc h with ⟨hb, h⟩ | ⟨hb, h⟩
        · refine br_t hb ?_
          obtain rfl := Option.some.inj h
          first | rfl | (simp only [List.length_set, go_sem]; done)
        · refine br_f hb ?_
          obtain ⟨r_3, h1, h⟩ := bd h
          refine call_aft (i_are_int_FieldOK_c h1) ?_
          simp +decide only [go_sem, reduceIte, Nat.reduceAdd]
          rcases brc h with ⟨hb, h⟩ | ⟨hb, h⟩
          · refine br_t hb ?_
            obtain rfl := Option.some.inj h
            first | rfl | (simp only [List.length_set, go_sem]; done)
          · refine br_f hb ?_
            rcases brc h with ⟨hb, h⟩ | ⟨hb, h⟩
            · refine br_t hb ?_
              obtain rfl := Option.some.inj h
              first | rfl | (simp only [List.length_set, go_sem]; done)
            · refine br_f hb ?_
              obtain ⟨r_4, h1, h⟩ := bd h
              refine call_aft (i_System_half_c h1) ?_
              simp +decide only [go_sem, reduceIte, Nat.reduceAdd]
              rcases brc h with ⟨hb, h⟩ | ⟨hb, h⟩
              · refine br_t hb ?_
                obtain rfl := Option.some.inj h
                first | rfl | (simp only [List.length_set, go_sem]; done)
              · refine br_f hb ?_
                obtain ⟨r_5, h1, h⟩ := bd h
                refine call_aft (i_System_vector_c h1) ?_
                simp +decide only [go_sem, reduceIte, Nat.reduceAdd]
                obtain rfl := Option.some.inj h
                first | rfl | (simp only [List.length_set, go_sem]; done)
noncomputable def i_isPower (n : Int) (most : Int) : Option (Bool) :=
  (i_in n (1 : Int) most).bind fun r_ =>
  br r_ (
    some ((and64 .i64 n (IntKind.wrap .i64 (n - (1 : Int)))) == (0 : Int))) (
    some false)
theorem i_isPower_c {n : Int} {most : Int} {r : Bool} (h : i_isPower n most = some r) : Call tab ow 117 [I n, I most] [] = some (B r, []) := by
  rw [run_i_isPower]
  unfold i_isPower at h
  simp +decide only [b_i_isPower, go_sem, reduceIte, Nat.reduceAdd]
  obtain ⟨r_, h1, h⟩ := bd h
  refine call_aft (i_in_c h1) ?_
  simp +decide only [go_sem, reduceIte, Nat.reduceAdd]
  rcases brc h with ⟨hb, h⟩ | ⟨hb, h⟩
  · refine br_t hb ?_
    obtain rfl := Option.some.inj h
    first | rfl | (simp only [List.length_set, go_sem]; done)
  · refine br_f hb ?_
    obtain rfl := Option.some.inj h
    first | rfl | (simp only [List.length_set, go_sem]; done)
noncomputable def i_TableOK (list : (List Ext)) : Option (Bool) :=
  (i_isPower ((list.length : Nat) : Int) (64 : Int)).bind fun r_ =>
  br r_ (
    (i_are_i_Ext_ExtOK list).bind fun r_2 =>
    some r_2) (
    some false)
theorem i_TableOK_c {list : (List Ext)} {r : Bool} (h : i_TableOK list = some r) : Call tab ow 105 [sl eExt list] [] = some (B r, []) := by
  rw [run_i_TableOK]
  unfold i_TableOK at h
  simp +decide only [b_i_TableOK, go_sem, reduceIte, Nat.reduceAdd]
  obtain ⟨r_, h1, h⟩ := bd h
  refine call_aft (i_isPower_c h1) ?_
  simp +decide only [go_sem, reduceIte, Nat.reduceAdd]
  rcases brc h with ⟨hb, h⟩ | ⟨hb, h⟩
  · refine br_t hb ?_
    obtain ⟨r_2, h1, h⟩ := bd h
    refine call_aft (i_are_i_Ext_ExtOK_c h1) ?_
    simp +decide only [go_sem, reduceIte, Nat.reduceAdd]
    obtain rfl := Option.some.inj h
    first | rfl | (simp only [List.length_set, go_sem]; done)
  · refine br_f hb ?_
    obtain rfl := Option.some.inj h
    first | rfl | (simp only [List.length_set, go_sem]; done)
noncomputable def i_isPoint (list : (List Ext)) : Option (Bool) :=
  br (decide (((list.length : Nat) : Int) ≤ (6 : Int))) (
    (i_are_i_Ext_ExtOK list).bind fun r_ =>
    some r_) (
    some false)
theorem i_isPoint_c {list : (List Ext)} {r : Bool} (h : i_isPoint list = some r) : Call tab ow 106 [sl eExt list] [] = some (B r, []) := by
  rw [run_i_isPoint]
  unfold i_isPoint at h
  simp +decide only [b_i_isPoint, go_sem, reduceIte, Nat.reduceAdd]
  rcases brc h with ⟨hb, h⟩ | ⟨hb, h⟩
  · refine br_t hb ?_
    obtain ⟨r_, h1, h⟩ := bd h
    refine call_aft (i_are_i_Ext_ExtOK_c h1) ?_
    simp +decide only [go_sem, reduceIte, Nat.reduceAdd]
    obtain rfl := Option.some.inj h
    first | rfl | (simp only [List.length_set, go_sem]; done)
  · refine br_f hb ?_
    obtain rfl := Option.some.inj h
    first | rfl | (simp only [List.length_set, go_sem]; done)
noncomputable def i_TableAt (table : (List Ext)) (point : (List Ext)) : Option (Ext × Int) :=
  br (decide (((table.length : Nat) : Int) > (4096 : Int))) (
    some ((Ext.mk (0 : Int) (0 : Int)), (2 : Int))) (
    br (decide (((point.length : Nat) : Int) > (4096 : Int))) (
      some ((Ext.mk (0 : Int) (0 : Int)), (2 : Int))) (
      (i_TableOK table).bind fun r_ =>
      br (!r_) (
        some ((Ext.mk (0 : Int) (0 : Int)), (1 : Int))) (
        (i_isPoint point).bind fun r_2 =>
        br (!r_2) (
          some ((Ext.mk (0 : Int) (0 : Int)), (1 : Int))) (
          br (decide (0 ≤ ((point.length : Nat) : Int))) (
            br (((table.length : Nat) : Int) != (shl64 .i64 (1 : Int) ((point.length : Nat) : Int))) (
              some ((Ext.mk (0 : Int) (0 : Int)), (8 : Int))) (
              (i_eqTable point).bind fun r_3 =>
              (i_dot table r_3).bind fun r_4 =>
              some (r_4, (0 : Int)))) (
            none)))))
theorem i_TableAt_c {table : (List Ext)} {point : (List Ext)} {r : Ext × Int} (h : i_TableAt table point = some r) : Call tab ow 20 [sl eExt table, sl eExt point] [] = some (.tup [.agg [I r.1.A, I r.1.B], I r.2], []) := by
  rw [run_i_TableAt]
  unfold i_TableAt at h
  simp +decide only [b_i_TableAt, go_sem, reduceIte, Nat.reduceAdd]
  rcases brc h with ⟨hb, h⟩ | ⟨hb, h⟩
  · refine br_t hb ?_
    obtain rfl := Option.some.inj h
    first | rfl | (simp only [List.length_set, go_sem]; done)
  · refine br_f hb ?_
    rcases brc h with ⟨hb, h⟩ | ⟨hb, h⟩
    · refine br_t hb ?_
      obtain rfl := Option.some.inj h
      first | rfl | (simp only [List.length_set, go_sem]; done)
    · refine br_f hb ?_
      obtain ⟨r_, h1, h⟩ := bd h
      refine call_aft (i_TableOK_c h1) ?_
      simp +decide only [go_sem, reduceIte, Nat.reduceAdd]
      rcases brc h with ⟨hb, h⟩ | ⟨hb, h⟩
      · refine br_t hb ?_
        obtain rfl := Option.some.inj h
        first | rfl | (simp only [List.length_set, go_sem]; done)
      · refine br_f hb ?_
        obtain ⟨r_2, h1, h⟩ := bd h
        refine call_aft (i_isPoint_c h1) ?_
        simp +decide only [go_sem, reduceIte, Nat.reduceAdd]
        rcases brc h with ⟨hb, h⟩ | ⟨hb, h⟩
        · refine br_t hb ?_
          obtain rfl := Option.some.inj h
          first | rfl | (simp only [List.length_set, go_sem]; done)
        · refine br_f hb ?_
          obtain ⟨hb, h⟩ := brg h
          refine br_t hb ?_
          rcases brc h with ⟨hb, h⟩ | ⟨hb, h⟩
          · refine br_t hb ?_
            obtain rfl := Option.some.inj h
            first | rfl | (simp only [List.length_set, go_sem]; done)
          · refine br_f hb ?_
            obtain ⟨r_3, h1, h⟩ := bd h
            refine call_aft (i_eqTable_c h1) ?_
            simp +decide only [go_sem, reduceIte, Nat.reduceAdd]
            obtain ⟨r_4, h1, h⟩ := bd h
            refine call_aft (i_dot_c h1) ?_
            simp +decide only [go_sem, reduceIte, Nat.reduceAdd]
            obtain rfl := Option.some.inj h
            first | rfl | (simp only [List.length_set, go_sem]; done)
section
theorem w_FnPublic_k0 : mkR 8002 [] = rws eI [] := rfl
attribute [local go_sem] w_FnPublic_k0
theorem w_FnPublic_k1 : mkR 11000 [] = rws eExt [] := rfl
attribute [local go_sem] w_FnPublic_k1
theorem w_FnPublic_k2 : mkR 15006 [] = rws eExt [] := rfl
attribute [local go_sem] w_FnPublic_k2
noncomputable def w_FnPublic_1_s (t : List Ext) (t2 : List Int) (c : Int) (c2 : Int) (c3 : Int) (c4 : List Entry) (c5 : List Entry) (c6 : List Entry) (c7 : Int) (c8 : Int) : (List Ext) × Int → Option (((List Ext) × Int) ⊕ (((List Ext) × Int × Bool)))
  | (l, t3) =>
    br (decide (t3 < (IntKind.wrap .i64 (((t2.length : Nat) : Int).tdiv (2 : Int))))) (
      (atL t2 t3).bind fun x =>
      br (fits ((l ++ ([(Ext.mk x (0 : Int))] : List Ext)).length) 16) (
        some (.inl ((l ++ ([(Ext.mk x (0 : Int))] : List Ext)), (IntKind.wrap .i64 (t3 + (1 : Int)))))) (
        none)) (
      some (.inr (l, t3, decide (t3 < (IntKind.wrap .i64 (((t2.length : Nat) : Int).tdiv (2 : Int)))))))
theorem w_FnPublic_1_l {t : List Ext} {t2 : List Int} {c : Int} {c2 : Int} {c3 : Int} {c4 : List Entry} {c5 : List Entry} {c6 : List Entry} {c7 : Int} {c8 : Int} {l : List Ext} {t3 : Int} {e : ((List Ext) × Int × Bool)} (h : Loop (w_FnPublic_1_s t t2 c c2 c3 c4 c5 c6 c7 c8) (l, t3) = some e) : LoopX tab ow (.close [15006, 15007]) b_w_FnPublic_12 ⟨[(7, sl eExt t), (8, .ptr 7007 0 0 1), (10, sl eI t2), (12, .sl 11000 0 l.length), (13, I t3)], [(4002, ⟨6, true, [[I c, I c2, I c3, sl eEntry c4, sl eEntry c5, sl eEntry c6]]⟩), (7007, ⟨2, true, [[I c7, I c8]]⟩), (8002, dead), (11000, ⟨2, false, rws eExt l⟩)]⟩ = some ((.exit 0, ⟨[(7, sl eExt t), (8, .ptr 7007 0 0 1), (10, sl eI t2), (12, .sl 11000 0 e.1.length), (13, I e.2.1), (69, B e.2.2)], [(4002, ⟨6, true, [[I c, I c2, I c3, sl eEntry c4, sl eEntry c5, sl eEntry c6]]⟩), (7007, ⟨2, true, [[I c7, I c8]]⟩), (8002, dead), (11000, ⟨2, false, rws eExt e.1⟩)]⟩)) := by
  refine loop_runG (S := (List Ext) × Int) (eS := fun s => ⟨[(7, sl eExt t), (8, .ptr 7007 0 0 1), (10, sl eI t2), (12, .sl 11000 0 s.1.length), (13, I s.2)], [(4002, ⟨6, true, [[I c, I c2, I c3, sl eEntry c4, sl eEntry c5, sl eEntry c6]]⟩), (7007, ⟨2, true, [[I c7, I c8]]⟩), (8002, dead), (11000, ⟨2, false, rws eExt s.1⟩)]⟩) (eE := fun e => (.exit 0, ⟨[(7, sl eExt t), (8, .ptr 7007 0 0 1), (10, sl eI t2), (12, .sl 11000 0 e.1.length), (13, I e.2.1), (69, B e.2.2)], [(4002, ⟨6, true, [[I c, I c2, I c3, sl eEntry c4, sl eEntry c5, sl eEntry c6]]⟩), (7007, ⟨2, true, [[I c7, I c8]]⟩), (8002, dead), (11000, ⟨2, false, rws eExt e.1⟩)]⟩)) (fun e => ?_) (fun s o h => ?_) h
  · simp [alt]
  · obtain ⟨l, t3⟩ := s
    simp only [w_FnPublic_1_s] at h
    show Rn tab ow _ _ ⟨[(7, sl eExt t), (8, .ptr 7007 0 0 1), (10, sl eI t2), (12, .sl 11000 0 l.length), (13, I t3)], [(4002, ⟨6, true, [[I c, I c2, I c3, sl eEntry c4, sl eEntry c5, sl eEntry c6]]⟩), (7007, ⟨2, true, [[I c7, I c8]]⟩), (8002, dead), (11000, ⟨2, false, rws eExt l⟩)]⟩ = _
    simp +decide only [b_w_FnPublic_12, go_sem, reduceIte, Nat.reduceAdd]
    rcases brc h with ⟨hb, h⟩ | ⟨hb, h⟩
    · refine br_t hb ?_
      obtain ⟨x, h1, h⟩ := bd h
      refine bind_some h1 ?_
      obtain ⟨hb, h⟩ := brg h
      refine br_t hb ?_
      obtain rfl := Option.some.inj h
      first | rfl | (simp only [List.length_set, go_sem]; done)
    · refine br_f hb ?_
      obtain rfl := Option.some.inj h
      first | rfl | (simp only [List.length_set, go_sem]; done)
noncomputable def w_FnPublic (ListtoArray : (List UInt8)) (a : (List UInt8)) : Option (Bool) :=
  br (decide (((ListtoArray.length : Nat) : Int) > (1048576 : Int))) (
    some true) (
    br (decide (((a.length : Nat) : Int) > (1048576 : Int))) (
      some true) (
      (s_SystemDrawn ListtoArray).bind fun r_ =>
      (s_NumbersOf a r_.Publics).bind fun r_2 =>
      (s_ExtsOf a (IntKind.wrap .i64 (r_.Cols - (1 : Int)))).bind fun r_3 =>
      (i_PublicAt r_ r_2 r_3).bind fun r_4 =>
      (i_VectorOf r_ r_2 ([] : List Int)).bind fun r_5 =>
      br (r_4.2 != (0 : Int)) (
        some false) (
        br (r_5.2 != (0 : Int)) (
          some false) (
          br (decide (0 ≤ (IntKind.wrap .u64 r_.Cols))) (
            br (((r_5.1.length : Nat) : Int) != (shl64 .i64 (1 : Int) (IntKind.wrap .u64 r_.Cols))) (
              some false) (
              (Loop (w_FnPublic_1_s r_3 r_5.1 r_.Rows r_.Cols r_.Publics r_.A r_.B r_.C r_4.1.A r_4.1.B) (([] : List Ext), (0 : Int))).bind fun e_ =>
              (i_TableAt e_.1 r_3).bind fun r_6 =>
              br (r_6.2 == (0 : Int)) (
                br (r_4.1.A == r_6.1.A) (
                  br (r_4.1.B == r_6.1.B) (
                    some true) (
                    some false)) (
                  some false)) (
                some false))) (
            none)))))
theorem w_FnPublic_c {ListtoArray : (List UInt8)} {a : (List UInt8)} {r : Bool} (h : w_FnPublic ListtoArray a = some r) : Call tab ow 3 [sl eU8 ListtoArray, sl eU8 a] [] = some (B r, []) := by
  rw [run_w_FnPublic]
  unfold w_FnPublic at h
  simp +decide only [b_w_FnPublic, go_sem, reduceIte, Nat.reduceAdd]
  rcases brc h with ⟨hb, h⟩ | ⟨hb, h⟩
  · refine br_t hb ?_
    obtain rfl := Option.some.inj h
    first | rfl | (simp only [List.length_set, go_sem]; done)
  · refine br_f hb ?_
    rcases brc h with ⟨hb, h⟩ | ⟨hb, h⟩
    · refine br_t hb ?_
      obtain rfl := Option.some.inj h
      first | rfl | (simp only [List.length_set, go_sem]; done)
    · refine br_f hb ?_
      obtain ⟨r_, h1, h⟩ := bd h
      refine call_aft (s_SystemDrawn_c h1) ?_
      simp +decide only [go_sem, reduceIte, Nat.reduceAdd]
      obtain ⟨r_2, h1, h⟩ := bd h
      refine call_aft (s_NumbersOf_c h1) ?_
      simp +decide only [go_sem, reduceIte, Nat.reduceAdd]
      obtain ⟨r_3, h1, h⟩ := bd h
      refine call_aft (s_ExtsOf_c h1) ?_
      simp +decide only [go_sem, reduceIte, Nat.reduceAdd]
      obtain ⟨r_4, h1, h⟩ := bd h
      refine call_aft (i_PublicAt_c h1) ?_
      simp +decide only [go_sem, reduceIte, Nat.reduceAdd]
      obtain ⟨r_5, h1, h⟩ := bd h
      refine call_aft (i_VectorOf_c h1) ?_
      simp +decide only [go_sem, reduceIte, Nat.reduceAdd]
      rcases brc h with ⟨hb, h⟩ | ⟨hb, h⟩
      · refine br_t hb ?_
        obtain rfl := Option.some.inj h
        first | rfl | (simp only [List.length_set, go_sem]; done)
      · refine br_f hb ?_
        rcases brc h with ⟨hb, h⟩ | ⟨hb, h⟩
        · refine br_t hb ?_
          obtain rfl := Option.some.inj h
          first | rfl | (simp only [List.length_set, go_sem]; done)
        · refine br_f hb ?_
          obtain ⟨hb, h⟩ := brg h
          refine br_t hb ?_
          rcases brc h with ⟨hb, h⟩ | ⟨hb, h⟩
          · refine br_t hb ?_
            obtain rfl := Option.some.inj h
            first | rfl | (simp only [List.length_set, go_sem]; done)
          · refine br_f hb ?_
            obtain ⟨e_, h1, h⟩ := bd h
            refine goR_of (w_FnPublic_1_l h1) ?_
            simp +decide only [go_sem, reduceIte, Nat.reduceAdd]
            obtain ⟨r_6, h1, h⟩ := bd h
            refine call_aft (i_TableAt_c h1) ?_
            simp +decide only [go_sem, reduceIte, Nat.reduceAdd]
            rcases brc h with ⟨hb, h⟩ | ⟨hb, h⟩
            · refine br_t hb ?_
              rcases brc h with ⟨hb, h⟩ | ⟨hb, h⟩
              · refine br_t hb ?_
                rcases brc h with ⟨hb, h⟩ | ⟨hb, h⟩
                · refine br_t hb ?_
                  obtain rfl := Option.some.inj h
                  first | rfl | (simp only [List.length_set, go_sem]; done)
                · refine br_f hb ?_
                  obtain rfl := Option.some.inj h
                  first | rfl | (simp only [List.length_set, go_sem]; done)
              · refine br_f hb ?_
                obtain rfl := Option.some.inj h
                first | rfl | (simp only [List.length_set, go_sem]; done)
            · refine br_f hb ?_
              obtain rfl := Option.some.inj h
              first | rfl | (simp only [List.length_set, go_sem]; done)
end
end Go.AI.Fn

