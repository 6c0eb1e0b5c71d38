/- Walks through the program, with open values. -/
import Derived.Test.YthjmakpfalhadaaStr
set_option linter.unusedVariables false
set_option linter.unusedSimpArgs false
set_option maxRecDepth 100000
set_option maxHeartbeats 1000000
namespace Go.AI.Fn
noncomputable def w_at (more : (List UInt8)) (i : Int) (n : Int) : Option (Int) :=
  br (decide (n ≤ (1 : Int))) (
    some (0 : Int)) (
    br (((more.length : Nat) : Int) == (0 : Int)) (
      br (decide (n ≠ 0)) (
        some ((IntKind.wrap .i64 (i * (7 : Int))).tmod n)) (
        none)) (
      br (decide (((more.length : Nat) : Int) ≠ 0)) (
        (atL more (i.tmod ((more.length : Nat) : Int))).bind fun x =>
        br (decide (((more.length : Nat) : Int) ≠ 0)) (
          (atL more ((IntKind.wrap .i64 (i + (1 : Int))).tmod ((more.length : Nat) : Int))).bind fun x2 =>
          br (decide (((more.length : Nat) : Int) ≠ 0)) (
            br (decide (n ≠ 0)) (
              some ((IntKind.wrap .i64 ((IntKind.wrap .i64 ((IntKind.wrap .i64 ((IntKind.wrap .i64 (x.toNat : Int)) * (31 : Int))) + (IntKind.wrap .i64 (x2.toNat : Int)))) + (IntKind.wrap .i64 (i.tdiv ((more.length : Nat) : Int))))).tmod n)) (
              none)) (
            none)) (
          none)) (
        none)))
theorem w_at_c {more : (List UInt8)} {i : Int} {n : Int} {r : Int} (h : w_at more i n = some r) : Call tab ow 21 [sl eU8 more, I i, I n] [] = some (I r, []) := by
  rw [run_w_at]
  unfold w_at at h
  simp +decide only [b_w_at, go_sem, reduceIte, Nat.reduceAdd]
  rcases brc h with ⟨hb, h⟩ | ⟨hb, h⟩
  · refine br_t hb ?_
    obtain rfl := Option.some.inj h
    first | rfl | (simp only [List.length_set, go_sem]; done)
  · refine br_f hb ?_
    rcases brc h with ⟨hb, h⟩ | ⟨hb, h⟩
    · refine br_t hb ?_
      obtain ⟨hb, h⟩ := brg h
      refine br_t hb ?_
      obtain rfl := Option.some.inj h
      first | rfl | (simp only [List.length_set, go_sem]; done)
    · refine br_f hb ?_
      obtain ⟨hb, h⟩ := brg h
      refine br_t hb ?_
      obtain ⟨x, h1, h⟩ := bd h
      refine bind_some h1 ?_
      obtain ⟨hb, h⟩ := brg h
      refine br_t hb ?_
      obtain ⟨x2, h1, h⟩ := bd h
      refine bind_some h1 ?_
      obtain ⟨hb, h⟩ := brg h
      refine br_t hb ?_
      obtain ⟨hb, h⟩ := brg h
      refine br_t hb ?_
      obtain rfl := Option.some.inj h
      first | rfl | (simp only [List.length_set, go_sem]; done)
noncomputable def s_l00Source (code : (List UInt8)) : Option (l00Src) :=
  some (l00Src.mk code (0 : Int) (((code.length : Nat) : Int).tmod (1000 : Int)))
theorem s_l00Source_c {code : (List UInt8)} {r : l00Src} (h : s_l00Source code = some r) : Call tab ow 93 [sl eU8 code] [] = some (.ptr 0 0 0 1, [⟨3, true, [[sl eU8 r.code, I r.at_, I r.seed]]⟩]) := by
  rw [run_s_l00Source]
  unfold s_l00Source at h
  simp +decide only [b_s_l00Source, go_sem, reduceIte, Nat.reduceAdd]
  obtain rfl := Option.some.inj h
  first | rfl | (simp only [List.length_set, go_sem]; done)
noncomputable def s_l00Src_byte (m : l00Src) : Option (Int × l00Src) :=
  br (decide ((IntKind.wrap .i64 (m.at_ + (1 : Int))) ≤ ((m.code.length : Nat) : Int))) (
    (atL m.code (IntKind.wrap .i64 ((IntKind.wrap .i64 (m.at_ + (1 : Int))) - (1 : Int)))).bind fun x =>
    (atL m.code (IntKind.wrap .i64 ((IntKind.wrap .i64 (m.at_ + (1 : Int))) - (1 : Int)))).bind fun x2 =>
    some ((IntKind.wrap .i64 (x2.toNat : Int)), (l00Src.mk m.code (IntKind.wrap .i64 (m.at_ + (1 : Int))) ((IntKind.wrap .i64 ((IntKind.wrap .i64 ((IntKind.wrap .i64 (m.seed * (31 : Int))) + (IntKind.wrap .i64 (x.toNat : Int)))) + (7 : Int))).tmod (2147483648 : Int))))) (
    br (decide ((IntKind.wrap .i64 (m.at_ + (1 : Int))) > (3000 : Int))) (
      some ((0 : Int), (l00Src.mk m.code (IntKind.wrap .i64 (m.at_ + (1 : Int))) m.seed))) (
      some (((IntKind.wrap .i64 (((IntKind.wrap .i64 ((IntKind.wrap .i64 (m.seed * (1103515245 : Int))) + (12345 : Int))).tmod (2147483648 : Int)).tdiv (65536 : Int))).tmod (256 : Int)), (l00Src.mk m.code (IntKind.wrap .i64 (m.at_ + (1 : Int))) ((IntKind.wrap .i64 ((IntKind.wrap .i64 (m.seed * (1103515245 : Int))) + (12345 : Int))).tmod (2147483648 : Int))))))
theorem s_l00Src_byte_c {m : l00Src} {r : Int × l00Src} (h : s_l00Src_byte m = some r) : Call tab ow 264 [.ptr 0 0 0 1] [⟨3, true, [[sl eU8 m.code, I m.at_, I m.seed]]⟩] = some (I r.1, [⟨3, true, [[sl eU8 r.2.code, I r.2.at_, I r.2.seed]]⟩]) := by
  rw [run_s_l00Src_byte]
  unfold s_l00Src_byte at h
  simp +decide only [b_s_l00Src_byte, go_sem, reduceIte, Nat.reduceAdd]
  rcases brc h with ⟨hb, h⟩ | ⟨hb, h⟩
  · refine br_t hb ?_
    obtain ⟨x, h1, h⟩ := bd h
    refine bind_some h1 ?_
    obtain ⟨x2, h1, h⟩ := bd h
    refine bind_some h1 ?_
    obtain rfl := Option.some.inj h
    first | rfl | (simp only [List.length_set, go_sem]; done)
  · refine br_f hb ?_
    rcases brc h with ⟨hb, h⟩ | ⟨hb, h⟩
    · refine br_t hb ?_
      obtain rfl := Option.some.inj h
      first | rfl | (simp only [List.length_set, go_sem]; done)
    · refine br_f hb ?_
      obtain rfl := Option.some.inj h
      first | rfl | (simp only [List.length_set, go_sem]; done)
noncomputable def s_l00Src_next (n : Int) (m : l00Src) : Option (Int × l00Src) :=
  br (decide (n ≤ (1 : Int))) (
    some ((0 : Int), m)) (
    br (decide (n ≤ (256 : Int))) (
      (s_l00Src_byte m).bind fun r_ =>
      br (decide (n ≠ 0)) (
        some ((r_.1.tmod n), r_.2)) (
        none)) (
      (s_l00Src_byte m).bind fun r_2 =>
      (s_l00Src_byte r_2.2).bind fun r_3 =>
      (s_l00Src_byte r_3.2).bind fun r_4 =>
      br (decide (n ≠ 0)) (
        some (((IntKind.wrap .i64 ((IntKind.wrap .i64 ((IntKind.wrap .i64 (r_2.1 * (65536 : Int))) + (IntKind.wrap .i64 (r_3.1 * (256 : Int))))) + r_4.1)).tmod n), r_4.2)) (
        none)))
theorem s_l00Src_next_c {n : Int} {m : l00Src} {r : Int × l00Src} (h : s_l00Src_next n m = some r) : Call tab ow 200 [.ptr 0 0 0 1, I n] [⟨3, true, [[sl eU8 m.code, I m.at_, I m.seed]]⟩] = some (I r.1, [⟨3, true, [[sl eU8 r.2.code, I r.2.at_, I r.2.seed]]⟩]) := by
  rw [run_s_l00Src_next]
  unfold s_l00Src_next at h
  simp +decide only [b_s_l00Src_next, go_sem, reduceIte, Nat.reduceAdd]
  rcases brc h with ⟨hb, h⟩ | ⟨hb, h⟩
  · refine br_t hb ?_
    obtain rfl := Option.some.inj h
    first | rfl | (simp only [List.length_set, go_sem]; done)
  · refine br_f hb ?_
    rcases brc h with ⟨hb, h⟩ | ⟨hb, h⟩
    · refine br_t hb ?_
      obtain ⟨r_, h1, h⟩ := bd h
      refine call_aft (s_l00Src_byte_c h1) ?_
      simp +decide only [go_sem, reduceIte, Nat.reduceAdd]
      obtain ⟨hb, h⟩ := brg h
      refine br_t hb ?_
      obtain rfl := Option.some.inj h
      first | rfl | (simp only [List.length_set, go_sem]; done)
    · refine br_f hb ?_
      obtain ⟨r_2, h1, h⟩ := bd h
      refine call_aft (s_l00Src_byte_c h1) ?_
      simp +decide only [go_sem, reduceIte, Nat.reduceAdd]
      obtain ⟨r_3, h1, h⟩ := bd h
      refine call_aft (s_l00Src_byte_c h1) ?_
      simp +decide only [go_sem, reduceIte, Nat.reduceAdd]
      obtain ⟨r_4, h1, h⟩ := bd h
      refine call_aft (s_l00Src_byte_c h1) ?_
      simp +decide only [go_sem, reduceIte, Nat.reduceAdd]
      obtain ⟨hb, h⟩ := brg h
      refine br_t hb ?_
      obtain rfl := Option.some.inj h
      first | rfl | (simp only [List.length_set, go_sem]; done)
noncomputable def s_l00Src_chance (n : Int) (m : l00Src) : Option (Bool × l00Src) :=
  (s_l00Src_next n m).bind fun r_ =>
  some ((r_.1 == (IntKind.wrap .i64 (n - (1 : Int)))), r_.2)
theorem s_l00Src_chance_c {n : Int} {m : l00Src} {r : Bool × l00Src} (h : s_l00Src_chance n m = some r) : Call tab ow 210 [.ptr 0 0 0 1, I n] [⟨3, true, [[sl eU8 m.code, I m.at_, I m.seed]]⟩] = some (B r.1, [⟨3, true, [[sl eU8 r.2.code, I r.2.at_, I r.2.seed]]⟩]) := by
  rw [run_s_l00Src_chance]
  unfold s_l00Src_chance at h
  simp +decide only [b_s_l00Src_chance, go_sem, reduceIte, Nat.reduceAdd]
  obtain ⟨r_, h1, h⟩ := bd h
  refine call_aft (s_l00Src_next_c h1) ?_
  simp +decide only [go_sem, reduceIte, Nat.reduceAdd]
  obtain rfl := Option.some.inj h
  first | rfl | (simp only [List.length_set, go_sem]; done)
noncomputable def s_l00Src_field_1_s : Int × Int × (List UInt8) × Int × Int → Option ((Int × Int × (List UInt8) × Int × Int) ⊕ ((Int × Int × Bool × (List UInt8) × Int × Int)))
  | (n, i, c, c2, c3) =>
    br (decide (i < (5 : Int))) (
      (s_l00Src_next (256 : Int) (l00Src.mk c c2 c3)).bind fun r_4 =>
      some (.inl (((IntKind.wrap .i64 ((IntKind.wrap .i64 (n * (256 : Int))) + r_4.1)).tmod (2130706433 : Int)), (IntKind.wrap .i64 (i + (1 : Int))), r_4.2.code, r_4.2.at_, r_4.2.seed))) (
      some (.inr (n, i, decide (i < (5 : Int)), c, c2, c3)))
theorem s_l00Src_field_1_l {n : Int} {i : Int} {c : List UInt8} {c2 : Int} {c3 : Int} {e : (Int × Int × Bool × (List UInt8) × Int × Int)} (h : Loop (s_l00Src_field_1_s) (n, i, c, c2, c3) = some e) : LoopX tab ow (.close [11003]) b_s_l00Src_field_8 ⟨[(0, .ptr 0 0 0 1), (3, I n), (4, I i)], [(0, ⟨3, true, [[sl eU8 c, I c2, I c3]]⟩)]⟩ = some ((.exit 1, ⟨[(0, .ptr 0 0 0 1), (3, I e.1), (4, I e.2.1), (17, B e.2.2.1)], [(0, ⟨3, true, [[sl eU8 e.2.2.2.1, I e.2.2.2.2.1, I e.2.2.2.2.2]]⟩)]⟩)) := by
  refine loop_runG (S := Int × Int × (List UInt8) × Int × Int) (eS := fun s => ⟨[(0, .ptr 0 0 0 1), (3, I s.1), (4, I s.2.1)], [(0, ⟨3, true, [[sl eU8 s.2.2.1, I s.2.2.2.1, I s.2.2.2.2]]⟩)]⟩) (eE := fun e => (.exit 1, ⟨[(0, .ptr 0 0 0 1), (3, I e.1), (4, I e.2.1), (17, B e.2.2.1)], [(0, ⟨3, true, [[sl eU8 e.2.2.2.1, I e.2.2.2.2.1, I e.2.2.2.2.2]]⟩)]⟩)) (fun e => ?_) (fun s o h => ?_) h
  · simp [alt]
  · obtain ⟨n, i, c, c2, c3⟩ := s
    simp only [s_l00Src_field_1_s] at h
    show Rn tab ow _ _ ⟨[(0, .ptr 0 0 0 1), (3, I n), (4, I i)], [(0, ⟨3, true, [[sl eU8 c, I c2, I c3]]⟩)]⟩ = _
    simp +decide only [b_s_l00Src_field_8, go_sem, reduceIte, Nat.reduceAdd]
    rcases brc h with ⟨hb, h⟩ | ⟨hb, h⟩
    · refine br_t hb ?_
      obtain ⟨r_4, h1, h⟩ := bd h
      refine call_aft (s_l00Src_next_c h1) ?_
      simp +decide only [go_sem, reduceIte, Nat.reduceAdd]
      obtain rfl := Option.some.inj h
      first | rfl | (simp only [List.length_set, go_sem]; done)
    · refine br_f hb ?_
      obtain rfl := Option.some.inj h
      first | rfl | (simp only [List.length_set, go_sem]; done)
noncomputable def s_l00Src_field (m : l00Src) : Option (Int × l00Src) :=
  (s_l00Src_next (5 : Int) m).bind fun r_ =>
  br (r_.1 == (0 : Int)) (
    (s_l00Src_next (4 : Int) r_.2).bind fun r_2 =>
    some (r_2.1, r_2.2)) (
    br (r_.1 == (1 : Int)) (
      (s_l00Src_next (3 : Int) r_.2).bind fun r_3 =>
      some ((IntKind.wrap .i64 ((2130706432 : Int) - r_3.1)), r_3.2)) (
      (Loop (s_l00Src_field_1_s) ((0 : Int), (0 : Int), r_.2.code, r_.2.at_, r_.2.seed)).bind fun e_ =>
      some (e_.1, (l00Src.mk e_.2.2.2.1 e_.2.2.2.2.1 e_.2.2.2.2.2))))
theorem s_l00Src_field_c {m : l00Src} {r : Int × l00Src} (h : s_l00Src_field m = some r) : Call tab ow 202 [.ptr 0 0 0 1] [⟨3, true, [[sl eU8 m.code, I m.at_, I m.seed]]⟩] = some (I r.1, [⟨3, true, [[sl eU8 r.2.code, I r.2.at_, I r.2.seed]]⟩]) := by
  rw [run_s_l00Src_field]
  unfold s_l00Src_field at h
  simp +decide only [b_s_l00Src_field, go_sem, reduceIte, Nat.reduceAdd]
  obtain ⟨r_, h1, h⟩ := bd h
  refine call_aft (s_l00Src_next_c h1) ?_
  simp +decide only [go_sem, reduceIte, Nat.reduceAdd]
  rcases brc h with ⟨hb, h⟩ | ⟨hb, h⟩
  · refine br_t hb ?_
    obtain ⟨r_2, h1, h⟩ := bd h
    refine call_aft (s_l00Src_next_c h1) ?_
    simp +decide only [go_sem, reduceIte, Nat.reduceAdd]
    obtain rfl := Option.some.inj h
    first | rfl | (simp only [List.length_set, go_sem]; done)
  · refine br_f hb ?_
    rcases brc h with ⟨hb, h⟩ | ⟨hb, h⟩
    · refine br_t hb ?_
      obtain ⟨r_3, h1, h⟩ := bd h
      refine call_aft (s_l00Src_next_c h1) ?_
      simp +decide only [go_sem, reduceIte, Nat.reduceAdd]
      obtain rfl := Option.some.inj h
      first | rfl | (simp only [List.length_set, go_sem]; done)
    · refine br_f hb ?_
      obtain ⟨e_, h1, h⟩ := bd h
      refine goR_of (s_l00Src_field_1_l h1) ?_
      simp +decide only [go_sem, reduceIte, Nat.reduceAdd]
      obtain rfl := Option.some.inj h
      first | rfl | (simp only [List.length_set, go_sem]; done)
noncomputable def s_l00Src_ext (m : l00Src) : Option (Ext × l00Src) :=
  (s_l00Src_chance (4 : Int) m).bind fun r_ =>
  br r_.1 (
    (s_l00Src_field r_.2).bind fun r_2 =>
    some ((Ext.mk r_2.1 (0 : Int)), r_2.2)) (
    (s_l00Src_field r_.2).bind fun r_3 =>
    (s_l00Src_field r_3.2).bind fun r_4 =>
    some ((Ext.mk r_3.1 r_4.1), r_4.2))
theorem s_l00Src_ext_c {m : l00Src} {r : Ext × l00Src} (h : s_l00Src_ext m = some r) : Call tab ow 109 [.ptr 0 0 0 1] [⟨3, true, [[sl eU8 m.code, I m.at_, I m.seed]]⟩] = some (.agg [I r.1.A, I r.1.B], [⟨3, true, [[sl eU8 r.2.code, I r.2.at_, I r.2.seed]]⟩]) := by
  rw [run_s_l00Src_ext]
  unfold s_l00Src_ext at h
  simp +decide only [b_s_l00Src_ext, go_sem, reduceIte, Nat.reduceAdd]
  obtain ⟨r_, h1, h⟩ := bd h
  refine call_aft (s_l00Src_chance_c h1) ?_
  simp +decide only [go_sem, reduceIte, Nat.reduceAdd]
  rcases brc h with ⟨hb, h⟩ | ⟨hb, h⟩
  · refine br_t hb ?_
    obtain ⟨r_2, h1, h⟩ := bd h
    refine call_aft (s_l00Src_field_c h1) ?_
    simp +decide only [go_sem, reduceIte, Nat.reduceAdd]
    obtain rfl := Option.some.inj h
    first | rfl | (simp only [List.length_set, go_sem]; done)
  · refine br_f hb ?_
    obtain ⟨r_3, h1, h⟩ := bd h
    refine call_aft (s_l00Src_field_c h1) ?_
    simp +decide only [go_sem, reduceIte, Nat.reduceAdd]
    obtain ⟨r_4, h1, h⟩ := bd h
    refine call_aft (s_l00Src_field_c h1) ?_
    simp +decide only [go_sem, reduceIte, Nat.reduceAdd]
    obtain rfl := Option.some.inj h
    first | rfl | (simp only [List.length_set, go_sem]; done)
section
theorem s_l00Src_exts_k0 : mkR 2000 [] = rws eExt [] := rfl
attribute [local go_sem] s_l00Src_exts_k0
theorem s_l00Src_exts_k1 : mkR 6003 [] = rws eExt [] := rfl
attribute [local go_sem] s_l00Src_exts_k1
noncomputable def s_l00Src_exts_1_s (n2 : Int) : (List Ext) × Int × (List UInt8) × Int × Int → Option (((List Ext) × Int × (List UInt8) × Int × Int) ⊕ (((List Ext) × Int × Bool × (List UInt8) × Int × Int)))
  | (l, i, c, c2, c3) =>
    br (decide (i < n2)) (
      (s_l00Src_ext (l00Src.mk c c2 c3)).bind fun r_ =>
      br (fits ((l ++ ([r_.1] : List Ext)).length) 16) (
        some (.inl ((l ++ ([r_.1] : List Ext)), (IntKind.wrap .i64 (i + (1 : Int))), r_.2.code, r_.2.at_, r_.2.seed))) (
        none)) (
      some (.inr (l, i, decide (i < n2), c, c2, c3)))
theorem s_l00Src_exts_1_l {n2 : Int} {l : List Ext} {i : Int} {c : List UInt8} {c2 : Int} {c3 : Int} {e : ((List Ext) × Int × Bool × (List UInt8) × Int × Int)} (h : Loop (s_l00Src_exts_1_s n2) (l, i, c, c2, c3) = some e) : LoopX tab ow (.close [6002, 6003, 6004]) b_s_l00Src_exts_3 ⟨[(0, .ptr 0 0 0 1), (1, I n2), (5, .sl 2000 0 l.length), (6, I i)], [(0, ⟨3, true, [[sl eU8 c, I c2, I c3]]⟩), (2000, ⟨2, false, rws eExt l⟩)]⟩ = some ((.exit 0, ⟨[(0, .ptr 0 0 0 1), (1, I n2), (5, .sl 2000 0 e.1.length), (6, I e.2.1), (10, B e.2.2.1)], [(0, ⟨3, true, [[sl eU8 e.2.2.2.1, I e.2.2.2.2.1, I e.2.2.2.2.2]]⟩), (2000, ⟨2, false, rws eExt e.1⟩)]⟩)) := by
  refine loop_runG (S := (List Ext) × Int × (List UInt8) × Int × Int) (eS := fun s => ⟨[(0, .ptr 0 0 0 1), (1, I n2), (5, .sl 2000 0 s.1.length), (6, I s.2.1)], [(0, ⟨3, true, [[sl eU8 s.2.2.1, I s.2.2.2.1, I s.2.2.2.2]]⟩), (2000, ⟨2, false, rws eExt s.1⟩)]⟩) (eE := fun e => (.exit 0, ⟨[(0, .ptr 0 0 0 1), (1, I n2), (5, .sl 2000 0 e.1.length), (6, I e.2.1), (10, B e.2.2.1)], [(0, ⟨3, true, [[sl eU8 e.2.2.2.1, I e.2.2.2.2.1, I e.2.2.2.2.2]]⟩), (2000, ⟨2, false, rws eExt e.1⟩)]⟩)) (fun e => ?_) (fun s o h => ?_) h
  · simp [alt]
  · obtain ⟨l, i, c, c2, c3⟩ := s
    simp only [s_l00Src_exts_1_s] at h
    show Rn tab ow _ _ ⟨[(0, .ptr 0 0 0 1), (1, I n2), (5, .sl 2000 0 l.length), (6, I i)], [(0, ⟨3, true, [[sl eU8 c, I c2, I c3]]⟩), (2000, ⟨2, false, rws eExt l⟩)]⟩ = _
    simp +decide only [b_s_l00Src_exts_3, go_sem, reduceIte, Nat.reduceAdd]
    rcases brc h with ⟨hb, h⟩ | ⟨hb, h⟩
    · refine br_t hb ?_
      obtain ⟨r_, h1, h⟩ := bd h
      refine call_aft (s_l00Src_ext_c h1) ?_
      simp +decide only [go_sem, reduceIte, Nat.reduceAdd]
      obtain ⟨hb, h⟩ := brg h
      refine br_t hb ?_
      obtain rfl := Option.some.inj h
      first | rfl | (simp only [List.length_set, go_sem]; done)
    · refine br_f hb ?_
      obtain rfl := Option.some.inj h
      first | rfl | (simp only [List.length_set, go_sem]; done)
noncomputable def s_l00Src_exts (n : Int) (m : l00Src) : Option ((List Ext) × l00Src) :=
  (Loop (s_l00Src_exts_1_s n) (([] : List Ext), (0 : Int), m.code, m.at_, m.seed)).bind fun e_ =>
  some (e_.1, (l00Src.mk e_.2.2.2.1 e_.2.2.2.2.1 e_.2.2.2.2.2))
theorem s_l00Src_exts_c {n : Int} {m : l00Src} {r : (List Ext) × l00Src} (h : s_l00Src_exts n m = some r) : Call tab ow 96 [.ptr 0 0 0 1, I n] [⟨3, true, [[sl eU8 m.code, I m.at_, I m.seed]]⟩] = some (sl eExt r.1, [⟨3, true, [[sl eU8 r.2.code, I r.2.at_, I r.2.seed]]⟩]) := by
  rw [run_s_l00Src_exts]
  unfold s_l00Src_exts at h
  simp +decide only [b_s_l00Src_exts, go_sem, reduceIte, Nat.reduceAdd]
  obtain ⟨e_, h1, h⟩ := bd h
  refine goR_of (s_l00Src_exts_1_l h1) ?_
  simp +decide only [go_sem, reduceIte, Nat.reduceAdd]
  obtain rfl := Option.some.inj h
  first | rfl | (simp only [List.length_set, go_sem]; done)
end
noncomputable def s_ExtsOf (code : (List UInt8)) (n : Int) : Option ((List Ext)) :=
  (s_l00Source code).bind fun r_ =>
  (s_l00Src_exts n r_).bind fun r_2 =>
  some r_2.1
theorem s_ExtsOf_c {code : (List UInt8)} {n : Int} {r : (List Ext)} (h : s_ExtsOf code n = some r) : Call tab ow 17 [sl eU8 code, I n] [] = some (sl eExt r, []) := by
  rw [run_s_ExtsOf]
  unfold s_ExtsOf at h
  simp +decide only [b_s_ExtsOf, go_sem, reduceIte, Nat.reduceAdd]
  obtain ⟨r_, h1, h⟩ := bd h
  refine call_aft (s_l00Source_c h1) ?_
  simp +decide only [go_sem, reduceIte, Nat.reduceAdd]
  obtain ⟨r_2, h1, h⟩ := bd h
  refine call_aft (s_l00Src_exts_c h1) ?_
  simp +decide only [go_sem, reduceIte, Nat.reduceAdd]
  obtain rfl := Option.some.inj h
  first | rfl | (simp only [List.length_set, go_sem]; done)
noncomputable def i_in (n : Int) (low : Int) (high : Int) : Option (Bool) :=
  br (decide (low ≤ n)) (
    some (decide (n ≤ high))) (
    some false)
theorem i_in_c {n : Int} {low : Int} {high : Int} {r : Bool} (h : i_in n low high = some r) : Call tab ow 111 [I n, I low, I high] [] = some (B r, []) := by
  rw [run_i_in]
  unfold i_in at h
  simp +decide only [b_i_in, go_sem, reduceIte, Nat.reduceAdd]
  rcases brc h with ⟨hb, h⟩ | ⟨hb, h⟩
  · refine br_t hb ?_
    obtain rfl := Option.some.inj h
    first | rfl | (simp only [List.length_set, go_sem]; done)
  · refine br_f hb ?_
    obtain rfl := Option.some.inj h
    first | rfl | (simp only [List.length_set, go_sem]; done)
noncomputable def i_FieldOK (a : Int) : Option (Bool) :=
  (i_in a (0 : Int) (2130706432 : Int)).bind fun r_ =>
  some r_
theorem i_FieldOK_c {a : Int} {r : Bool} (h : i_FieldOK a = some r) : Call tab ow 99 [I a] [] = some (B r, []) := by
  rw [run_i_FieldOK]
  unfold i_FieldOK at h
  simp +decide only [b_i_FieldOK, go_sem, reduceIte, Nat.reduceAdd]
  obtain ⟨r_, h1, h⟩ := bd h
  refine call_aft (i_in_c h1) ?_
  simp +decide only [go_sem, reduceIte, Nat.reduceAdd]
  obtain rfl := Option.some.inj h
  first | rfl | (simp only [List.length_set, go_sem]; done)
noncomputable def i_ExtOK (a : Ext) : Option (Bool) :=
  (i_FieldOK a.A).bind fun r_ =>
  br r_ (
    (i_FieldOK a.B).bind fun r_2 =>
    some r_2) (
    some false)
theorem i_ExtOK_c {a : Ext} {r : Bool} (h : i_ExtOK a = some r) : Call tab ow 101 [.agg [I a.A, I a.B]] [] = some (B r, []) := by
  rw [run_i_ExtOK]
  unfold i_ExtOK at h
  simp +decide only [b_i_ExtOK, go_sem, reduceIte, Nat.reduceAdd]
  obtain ⟨r_, h1, h⟩ := bd h
  refine call_aft (i_FieldOK_c h1) ?_
  simp +decide only [go_sem, reduceIte, Nat.reduceAdd]
  rcases brc h with ⟨hb, h⟩ | ⟨hb, h⟩
  · refine br_t hb ?_
    obtain ⟨r_2, h1, h⟩ := bd h
    refine call_aft (i_FieldOK_c h1) ?_
    simp +decide only [go_sem, reduceIte, Nat.reduceAdd]
    obtain rfl := Option.some.inj h
    first | rfl | (simp only [List.length_set, go_sem]; done)
  · refine br_f hb ?_
    obtain rfl := Option.some.inj h
    first | rfl | (simp only [List.length_set, go_sem]; done)
noncomputable def i_are_i_Ext_1 (x : Ext) : Option (Bool) :=
  (i_ExtOK x).bind fun r_ =>
  some (!r_)
theorem i_are_i_Ext_1_c {x : Ext} {r : Bool} (h : i_are_i_Ext_1 x = some r) : Call tab ow 206 [.agg [I x.A, I x.B], .ptr 0 0 0 1] [⟨1, true, [[.fn 101 []]]⟩] = some (B r, [⟨1, true, [[.fn 101 []]]⟩]) := by
  rw [run_i_are_i_Ext_1]
  unfold i_are_i_Ext_1 at h
  simp +decide only [b_i_are_i_Ext_1, go_sem, reduceIte, Nat.reduceAdd]
  obtain ⟨r_, h1, h⟩ := bd h
  refine call_aft (i_ExtOK_c h1) ?_
  simp +decide only [go_sem, reduceIte, Nat.reduceAdd]
  obtain rfl := Option.some.inj h
  first | rfl | (simp only [List.length_set, go_sem]; done)
noncomputable def slices_IndexFunc_Li_Ext_i_Ext_1_s (s2 : List Ext) (t : Int) : Int → Option ((Int) ⊕ (Int ⊕ (Int × Bool)))
  | t2 =>
    br (decide (t2 < t)) (
      (atL s2 t2).bind fun x =>
      (i_are_i_Ext_1 x).bind fun r_ =>
      br r_ (
        some (.inr (.inl t2))) (
        some (.inl (IntKind.wrap .i64 (t2 + (1 : Int)))))) (
      some (.inr (.inr (t2, decide (t2 < t)))))
theorem slices_IndexFunc_Li_Ext_i_Ext_1_l {s2 : List Ext} {t : Int} {t2 : Int} {e : Int ⊕ (Int × Bool)} (h : Loop (slices_IndexFunc_Li_Ext_i_Ext_1_s s2 t) t2 = some e) : LoopX tab ow (.close [5005]) b_slices_IndexFunc_Li_Ext_i_Ext_2 ⟨[(0, sl eExt s2), (1, .fn 206 [.ptr 0 0 0 1]), (7, I t), (8, I t2)], [(0, ⟨1, true, [[.fn 101 []]]⟩)]⟩ = some ((alt (fun e => ((.ret, ⟨[(4, I e)], [(0, ⟨1, true, [[.fn 101 []]]⟩)]⟩) : AExit × St)) (fun e => (.exit 0, ⟨[(0, sl eExt s2), (1, .fn 206 [.ptr 0 0 0 1]), (7, I t), (8, I e.1), (9, B e.2)], [(0, ⟨1, true, [[.fn 101 []]]⟩)]⟩))) e) := by
  refine loop_runG (S := Int) (eS := fun s => ⟨[(0, sl eExt s2), (1, .fn 206 [.ptr 0 0 0 1]), (7, I t), (8, I s)], [(0, ⟨1, true, [[.fn 101 []]]⟩)]⟩) (eE := fun e => (alt (fun e => ((.ret, ⟨[(4, I e)], [(0, ⟨1, true, [[.fn 101 []]]⟩)]⟩) : AExit × St)) (fun e => (.exit 0, ⟨[(0, sl eExt s2), (1, .fn 206 [.ptr 0 0 0 1]), (7, I t), (8, I e.1), (9, B e.2)], [(0, ⟨1, true, [[.fn 101 []]]⟩)]⟩))) e) (fun e => ?_) (fun t2 o h => ?_) h
  · rcases e with e | e <;> simp [alt]
  · skip
    simp only [slices_IndexFunc_Li_Ext_i_Ext_1_s] at h
    show Rn tab ow _ _ ⟨[(0, sl eExt s2), (1, .fn 206 [.ptr 0 0 0 1]), (7, I t), (8, I t2)], [(0, ⟨1, true, [[.fn 101 []]]⟩)]⟩ = _
    simp +decide only [b_slices_IndexFunc_Li_Ext_i_Ext_2, go_sem, reduceIte, Nat.reduceAdd]
    rcases brc h with ⟨hb, h⟩ | ⟨hb, h⟩
    · refine br_t hb ?_
      obtain ⟨x, h1, h⟩ := bd h
      refine bind_some h1 ?_
      obtain ⟨r_, h1, h⟩ := bd h
      refine call_aft (i_are_i_Ext_1_c h1) ?_
      simp +decide only [go_sem, reduceIte, Nat.reduceAdd]
      rcases brc h with ⟨hb, h⟩ | ⟨hb, h⟩
      · refine br_t hb ?_
        obtain rfl := Option.some.inj h
        first | rfl | (simp only [List.length_set, go_sem]; done)
      · refine br_f hb ?_
        obtain rfl := Option.some.inj h
        first | rfl | (simp only [List.length_set, go_sem]; done)
    · refine br_f hb ?_
      obtain rfl := Option.some.inj h
      first | rfl | (simp only [List.length_set, go_sem]; done)
noncomputable def slices_IndexFunc_Li_Ext_i_Ext (s : (List Ext)) : Option (Int) :=
  (Loop (slices_IndexFunc_Li_Ext_i_Ext_1_s s ((s.length : Nat) : Int)) (0 : Int)).bind (alt (fun e_2 =>
    some e_2) (fun e_3 =>
    some (-1 : Int)))
theorem slices_IndexFunc_Li_Ext_i_Ext_c {s : (List Ext)} {r : Int} (h : slices_IndexFunc_Li_Ext_i_Ext s = some r) : Call tab ow 234 [sl eExt s, .fn 206 [.ptr 0 0 0 1]] [⟨1, true, [[.fn 101 []]]⟩] = some (I r, [⟨1, true, [[.fn 101 []]]⟩]) := by
  rw [run_slices_IndexFunc_Li_Ext_i_Ext]
  unfold slices_IndexFunc_Li_Ext_i_Ext at h
  simp +decide only [b_slices_IndexFunc_Li_Ext_i_Ext, go_sem, reduceIte, Nat.reduceAdd]
  obtain ⟨e_, h1, h⟩ := bd h
  refine goR_of (slices_IndexFunc_Li_Ext_i_Ext_1_l h1) ?_
  rcases e_ with e_2 | e_3
  · simp +decide only [go_sem, reduceIte, Nat.reduceAdd]
    obtain rfl := Option.some.inj h
    first | rfl | (simp only [List.length_set, go_sem]; done)
  · simp +decide only [go_sem, reduceIte, Nat.reduceAdd]
    obtain rfl := Option.some.inj h
    first | rfl | (simp only [List.length_set, go_sem]; done)
noncomputable def slices_ContainsFunc_Li_Ext_i_Ext (s : (List Ext)) : Option (Bool) :=
  (slices_IndexFunc_Li_Ext_i_Ext s).bind fun r_ =>
  some (decide (r_ ≥ (0 : Int)))
theorem slices_ContainsFunc_Li_Ext_i_Ext_c {s : (List Ext)} {r : Bool} (h : slices_ContainsFunc_Li_Ext_i_Ext s = some r) : Call tab ow 144 [sl eExt s, .fn 206 [.ptr 0 0 0 1]] [⟨1, true, [[.fn 101 []]]⟩] = some (B r, [⟨1, true, [[.fn 101 []]]⟩]) := by
  rw [run_slices_ContainsFunc_Li_Ext_i_Ext]
  unfold slices_ContainsFunc_Li_Ext_i_Ext at h
  simp +decide only [b_slices_ContainsFunc_Li_Ext_i_Ext, go_sem, reduceIte, Nat.reduceAdd]
  obtain ⟨r_, h1, h⟩ := bd h
  refine call_aft (slices_IndexFunc_Li_Ext_i_Ext_c h1) ?_
  simp +decide only [go_sem, reduceIte, Nat.reduceAdd]
  obtain rfl := Option.some.inj h
  first | rfl | (simp only [List.length_set, go_sem]; done)
noncomputable def i_are_i_Ext (list : (List Ext)) : Option (Bool) :=
  (slices_ContainsFunc_Li_Ext_i_Ext list).bind fun r_ =>
  some (!r_)
theorem i_are_i_Ext_c {list : (List Ext)} {r : Bool} (h : i_are_i_Ext list = some r) : Call tab ow 100 [.fn 101 [], sl eExt list] [] = some (B r, []) := by
  rw [run_i_are_i_Ext]
  unfold i_are_i_Ext at h
  simp +decide only [b_i_are_i_Ext, go_sem, reduceIte, Nat.reduceAdd]
  obtain ⟨r_, h1, h⟩ := bd h
  refine call_aft (slices_ContainsFunc_Li_Ext_i_Ext_c h1) ?_
  simp +decide only [go_sem, reduceIte, Nat.reduceAdd]
  obtain rfl := Option.some.inj h
  first | rfl | (simp only [List.length_set, go_sem]; done)
section
theorem i_four_k0 : mkR 2012 [] = rws eU8 [] := rfl
attribute [local go_sem] i_four_k0
noncomputable def i_four (n : Int) (l : List UInt8) : Option ((List UInt8)) :=
  br (fits ((l ++ ([(UInt8.ofInt (shr64 .i64 n (24 : Int))), (UInt8.ofInt (shr64 .i64 n (16 : Int))), (UInt8.ofInt (shr64 .i64 n (8 : Int))), (UInt8.ofInt n)] : List UInt8)).length) 1) (
    some (l ++ ([(UInt8.ofInt (shr64 .i64 n (24 : Int))), (UInt8.ofInt (shr64 .i64 n (16 : Int))), (UInt8.ofInt (shr64 .i64 n (8 : Int))), (UInt8.ofInt n)] : List UInt8))) (
    none)
theorem i_four_c {n : Int} {l : List UInt8} {r : (List UInt8)} (h : i_four n l = some r) : Call tab ow 215 [.sl 0 0 l.length, I n] [⟨1, false, rws eU8 l⟩] = some (.sl 0 0 r.length, [⟨1, false, rws eU8 r⟩]) := by
  rw [run_i_four]
  unfold i_four at h
  simp +decide only [b_i_four, go_sem, reduceIte, Nat.reduceAdd]
  obtain ⟨hb, h⟩ := brg h
  refine br_t hb ?_
  obtain rfl := Option.some.inj h
  first | rfl | (simp only [List.length_set, go_sem]; done)
end
section
theorem i_extBytes_k0 : mkR 2000 [] = rws eU8 [] := rfl
attribute [local go_sem] i_extBytes_k0
noncomputable def i_extBytes_1_s (t : List Ext) (t2 : Int) : (List UInt8) × Int → Option (((List UInt8) × Int) ⊕ (((List UInt8) × Int × Bool)))
  | (l, t3) =>
    br (decide (t3 < t2)) (
      (atL t t3).bind fun x =>
      (i_four x.A l).bind fun r_ =>
      (i_four x.B r_).bind fun r_2 =>
      some (.inl (r_2, (IntKind.wrap .i64 (t3 + (1 : Int)))))) (
      some (.inr (l, t3, decide (t3 < t2))))
theorem i_extBytes_1_l {t : List Ext} {t2 : Int} {l : List UInt8} {t3 : Int} {e : ((List UInt8) × Int × Bool)} (h : Loop (i_extBytes_1_s t t2) (l, t3) = some e) : LoopX tab ow (.close [5002, 6003, 6006]) b_i_extBytes_3 ⟨[(3, .sl 2000 0 l.length), (7, sl eExt t), (8, I t2), (9, I t3)], [(2000, ⟨1, false, rws eU8 l⟩)]⟩ = some ((.exit 0, ⟨[(3, .sl 2000 0 e.1.length), (7, sl eExt t), (8, I t2), (9, I e.2.1), (10, B e.2.2)], [(2000, ⟨1, false, rws eU8 e.1⟩)]⟩)) := by
  refine loop_runG (S := (List UInt8) × Int) (eS := fun s => ⟨[(3, .sl 2000 0 s.1.length), (7, sl eExt t), (8, I t2), (9, I s.2)], [(2000, ⟨1, false, rws eU8 s.1⟩)]⟩) (eE := fun e => (.exit 0, ⟨[(3, .sl 2000 0 e.1.length), (7, sl eExt t), (8, I t2), (9, I e.2.1), (10, B e.2.2)], [(2000, ⟨1, false, rws eU8 e.1⟩)]⟩)) (fun e => ?_) (fun s o h => ?_) h
  · simp [alt]
  · obtain ⟨l, t3⟩ := s
    simp only [i_extBytes_1_s] at h
    show Rn tab ow _ _ ⟨[(3, .sl 2000 0 l.length), (7, sl eExt t), (8, I t2), (9, I t3)], [(2000, ⟨1, false, rws eU8 l⟩)]⟩ = _
    simp +decide only [b_i_extBytes_3, go_sem, reduceIte, Nat.reduceAdd]
    rcases brc h with ⟨hb, h⟩ | ⟨hb, h⟩
    · refine br_t hb ?_
      obtain ⟨x, h1, h⟩ := bd h
      refine bind_some h1 ?_
      obtain ⟨r_, h1, h⟩ := bd h
      refine call_aftD (i_four_c h1) ?_
      simp +decide only [go_sem, reduceIte, Nat.reduceAdd]
      obtain ⟨r_2, h1, h⟩ := bd h
      refine call_aftD (i_four_c h1) ?_
      simp +decide only [go_sem, reduceIte, Nat.reduceAdd]
      obtain rfl := Option.some.inj h
      first | rfl | (simp only [List.length_set, go_sem]; done)
    · refine br_f hb ?_
      obtain rfl := Option.some.inj h
      first | rfl | (simp only [List.length_set, go_sem]; done)
noncomputable def i_extBytes (list : (List Ext)) : Option ((List UInt8)) :=
  (Loop (i_extBytes_1_s list ((list.length : Nat) : Int)) (([] : List UInt8), (0 : Int))).bind fun e_ =>
  some e_.1
theorem i_extBytes_c {list : (List Ext)} {r : (List UInt8)} (h : i_extBytes list = some r) : Call tab ow 119 [sl eExt list] [] = some (sl eU8 r, []) := by
  rw [run_i_extBytes]
  unfold i_extBytes at h
  simp +decide only [b_i_extBytes, go_sem, reduceIte, Nat.reduceAdd]
  obtain ⟨e_, h1, h⟩ := bd h
  refine goR_of (i_extBytes_1_l h1) ?_
  simp +decide only [go_sem, reduceIte, Nat.reduceAdd]
  obtain rfl := Option.some.inj h
  first | rfl | (simp only [List.length_set, go_sem]; done)
end
noncomputable def i_ExtBytes (list : (List Ext)) : Option ((List UInt8) × Int) :=
  br (decide (((list.length : Nat) : Int) > (4096 : Int))) (
    some (([] : List UInt8), (2 : Int))) (
    (i_are_i_Ext list).bind fun r_ =>
    br (!r_) (
      some (([] : List UInt8), (1 : Int))) (
      (i_extBytes list).bind fun r_2 =>
      some (r_2, (0 : Int))))
theorem i_ExtBytes_c {list : (List Ext)} {r : (List UInt8) × Int} (h : i_ExtBytes list = some r) : Call tab ow 29 [sl eExt list] [] = some (.tup [sl eU8 r.1, I r.2], []) := by
  rw [run_i_ExtBytes]
  unfold i_ExtBytes at h
  simp +decide only [b_i_ExtBytes, go_sem, reduceIte, Nat.reduceAdd]
  rcases brc h with ⟨hb, h⟩ | ⟨hb, h⟩
  · refine br_t hb ?_
    obtain rfl := Option.some.inj h
    first | rfl | (simp only [List.length_set, go_sem]; done)
  · refine br_f hb ?_
    obtain ⟨r_, h1, h⟩ := bd h
    refine call_aft (i_are_i_Ext_c h1) ?_
    simp +decide only [go_sem, reduceIte, Nat.reduceAdd]
    rcases brc h with ⟨hb, h⟩ | ⟨hb, h⟩
    · refine br_t hb ?_
      obtain rfl := Option.some.inj h
      first | rfl | (simp only [List.length_set, go_sem]; done)
    · refine br_f hb ?_
      obtain ⟨r_2, h1, h⟩ := bd h
      refine call_aft (i_extBytes_c h1) ?_
      simp +decide only [go_sem, reduceIte, Nat.reduceAdd]
      obtain rfl := Option.some.inj h
      first | rfl | (simp only [List.length_set, go_sem]; done)
noncomputable def s_l01In (n : Int) (low : Int) (high : Int) : Option (Bool) :=
  br (decide (low ≤ n)) (
    some (decide (n ≤ high))) (
    some false)
theorem s_l01In_c {n : Int} {low : Int} {high : Int} {r : Bool} (h : s_l01In n low high = some r) : Call tab ow 140 [I n, I low, I high] [] = some (B r, []) := by
  rw [run_s_l01In]
  unfold s_l01In at h
  simp +decide only [b_s_l01In, go_sem, reduceIte, Nat.reduceAdd]
  rcases brc h with ⟨hb, h⟩ | ⟨hb, h⟩
  · refine br_t hb ?_
    obtain rfl := Option.some.inj h
    first | rfl | (simp only [List.length_set, go_sem]; done)
  · refine br_f hb ?_
    obtain rfl := Option.some.inj h
    first | rfl | (simp only [List.length_set, go_sem]; done)
noncomputable def s_FieldOK (a : Int) : Option (Bool) :=
  (s_l01In a (0 : Int) (2130706432 : Int)).bind fun r_ =>
  some r_
theorem s_FieldOK_c {a : Int} {r : Bool} (h : s_FieldOK a = some r) : Call tab ow 238 [I a] [] = some (B r, []) := by
  rw [run_s_FieldOK]
  unfold s_FieldOK at h
  simp +decide only [b_s_FieldOK, go_sem, reduceIte, Nat.reduceAdd]
  obtain ⟨r_, h1, h⟩ := bd h
  refine call_aft (s_l01In_c h1) ?_
  simp +decide only [go_sem, reduceIte, Nat.reduceAdd]
  obtain rfl := Option.some.inj h
  first | rfl | (simp only [List.length_set, go_sem]; done)
noncomputable def s_ExtOK (a : Ext) : Option (Bool) :=
  (s_FieldOK a.A).bind fun r_ =>
  br r_ (
    (s_FieldOK a.B).bind fun r_2 =>
    some r_2) (
    some false)
theorem s_ExtOK_c {a : Ext} {r : Bool} (h : s_ExtOK a = some r) : Call tab ow 216 [.agg [I a.A, I a.B]] [] = some (B r, []) := by
  rw [run_s_ExtOK]
  unfold s_ExtOK at h
  simp +decide only [b_s_ExtOK, go_sem, reduceIte, Nat.reduceAdd]
  obtain ⟨r_, h1, h⟩ := bd h
  refine call_aft (s_FieldOK_c h1) ?_
  simp +decide only [go_sem, reduceIte, Nat.reduceAdd]
  rcases brc h with ⟨hb, h⟩ | ⟨hb, h⟩
  · refine br_t hb ?_
    obtain ⟨r_2, h1, h⟩ := bd h
    refine call_aft (s_FieldOK_c h1) ?_
    simp +decide only [go_sem, reduceIte, Nat.reduceAdd]
    obtain rfl := Option.some.inj h
    first | rfl | (simp only [List.length_set, go_sem]; done)
  · refine br_f hb ?_
    obtain rfl := Option.some.inj h
    first | rfl | (simp only [List.length_set, go_sem]; done)
noncomputable def s_l02List_1_s (list2 : List Ext) : Int → Option ((Int) ⊕ (Unit ⊕ (Int × Bool)))
  | i =>
    br (decide (i < ((list2.length : Nat) : Int))) (
      (atL list2 i).bind fun x =>
      (s_ExtOK x).bind fun r_ =>
      br (!r_) (
        some (.inr (.inl ()))) (
        some (.inl (IntKind.wrap .i64 (i + (1 : Int)))))) (
      some (.inr (.inr (i, decide (i < ((list2.length : Nat) : Int))))))
theorem s_l02List_1_l {list2 : List Ext} {i : Int} {e : Unit ⊕ (Int × Bool)} (h : Loop (s_l02List_1_s list2) i = some e) : LoopX tab ow (.close [5004]) b_s_l02List_2 ⟨[(0, sl eExt list2), (3, I i)], []⟩ = some ((alt (fun e => ((.ret, ⟨[(2, B false)], []⟩) : AExit × St)) (fun e => (.exit 0, ⟨[(0, sl eExt list2), (3, I e.1), (7, B e.2)], []⟩))) e) := by
  refine loop_runG (S := Int) (eS := fun s => ⟨[(0, sl eExt list2), (3, I s)], []⟩) (eE := fun e => (alt (fun e => ((.ret, ⟨[(2, B false)], []⟩) : AExit × St)) (fun e => (.exit 0, ⟨[(0, sl eExt list2), (3, I e.1), (7, B e.2)], []⟩))) e) (fun e => ?_) (fun i o h => ?_) h
  · rcases e with e | e <;> simp [alt]
  · skip
    simp only [s_l02List_1_s] at h
    show Rn tab ow _ _ ⟨[(0, sl eExt list2), (3, I i)], []⟩ = _
    simp +decide only [b_s_l02List_2, go_sem, reduceIte, Nat.reduceAdd]
    rcases brc h with ⟨hb, h⟩ | ⟨hb, h⟩
    · refine br_t hb ?_
      obtain ⟨x, h1, h⟩ := bd h
      refine bind_some h1 ?_
      obtain ⟨r_, h1, h⟩ := bd h
      refine call_aft (s_ExtOK_c h1) ?_
      simp +decide only [go_sem, reduceIte, Nat.reduceAdd]
      rcases brc h with ⟨hb, h⟩ | ⟨hb, h⟩
      · refine br_t hb ?_
        obtain rfl := Option.some.inj h
        first | rfl | (simp only [List.length_set, go_sem]; done)
      · refine br_f hb ?_
        obtain rfl := Option.some.inj h
        first | rfl | (simp only [List.length_set, go_sem]; done)
    · refine br_f hb ?_
      obtain rfl := Option.some.inj h
      first | rfl | (simp only [List.length_set, go_sem]; done)
noncomputable def s_l02List (list : (List Ext)) : Option (Bool) :=
  (Loop (s_l02List_1_s list) (0 : Int)).bind (alt (fun e_2 =>
    some false) (fun e_3 =>
    some true))
theorem s_l02List_c {list : (List Ext)} {r : Bool} (h : s_l02List list = some r) : Call tab ow 120 [sl eExt list] [] = some (B r, []) := by
  rw [run_s_l02List]
  unfold s_l02List at h
  simp +decide only [b_s_l02List, go_sem, reduceIte, Nat.reduceAdd]
  obtain ⟨e_, h1, h⟩ := bd h
  refine goR_of (s_l02List_1_l h1) ?_
  rcases e_ with e_2 | e_3
  · simp +decide only [go_sem, reduceIte, Nat.reduceAdd]
    obtain rfl := Option.some.inj h
    first | rfl | (simp only [List.length_set, go_sem]; done)
  · simp +decide only [go_sem, reduceIte, Nat.reduceAdd]
    obtain rfl := Option.some.inj h
    first | rfl | (simp only [List.length_set, go_sem]; done)
section
theorem s_l02Number_k0 : mkR 2000 [] = rws eU8 [] := rfl
attribute [local go_sem] s_l02Number_k0
theorem s_l02Number_k1 : mkR 6007 [] = rws eU8 [] := rfl
attribute [local go_sem] s_l02Number_k1
noncomputable def s_l02Number_1_s (n2 : Int) : (List UInt8) × Int → Option (((List UInt8) × Int) ⊕ (((List UInt8) × Int × Bool)))
  | (l, i) =>
    br (decide (i ≥ (0 : Int))) (
      br (decide (0 ≤ (IntKind.wrap .u64 (IntKind.wrap .i64 ((8 : Int) * i))))) (
        br (fits ((l ++ ([(UInt8.ofInt (shr64 .i64 n2 (IntKind.wrap .u64 (IntKind.wrap .i64 ((8 : Int) * i)))))] : List UInt8)).length) 1) (
          some (.inl ((l ++ ([(UInt8.ofInt (shr64 .i64 n2 (IntKind.wrap .u64 (IntKind.wrap .i64 ((8 : Int) * i)))))] : List UInt8)), (IntKind.wrap .i64 (i - (1 : Int)))))) (
          none)) (
        none)) (
      some (.inr (l, i, decide (i ≥ (0 : Int)))))
theorem s_l02Number_1_l {n2 : Int} {l : List UInt8} {i : Int} {e : ((List UInt8) × Int × Bool)} (h : Loop (s_l02Number_1_s n2) (l, i) = some e) : LoopX tab ow (.close [6007, 6008]) b_s_l02Number_3 ⟨[(0, I n2), (5, .sl 2000 0 l.length), (6, I i)], [(2000, ⟨1, false, rws eU8 l⟩)]⟩ = some ((.exit 0, ⟨[(0, I n2), (5, .sl 2000 0 e.1.length), (6, I e.2.1), (11, B e.2.2)], [(2000, ⟨1, false, rws eU8 e.1⟩)]⟩)) := by
  refine loop_runG (S := (List UInt8) × Int) (eS := fun s => ⟨[(0, I n2), (5, .sl 2000 0 s.1.length), (6, I s.2)], [(2000, ⟨1, false, rws eU8 s.1⟩)]⟩) (eE := fun e => (.exit 0, ⟨[(0, I n2), (5, .sl 2000 0 e.1.length), (6, I e.2.1), (11, B e.2.2)], [(2000, ⟨1, false, rws eU8 e.1⟩)]⟩)) (fun e => ?_) (fun s o h => ?_) h
  · simp [alt]
  · obtain ⟨l, i⟩ := s
    simp only [s_l02Number_1_s] at h
    show Rn tab ow _ _ ⟨[(0, I n2), (5, .sl 2000 0 l.length), (6, I i)], [(2000, ⟨1, false, rws eU8 l⟩)]⟩ = _
    simp +decide only [b_s_l02Number_3, go_sem, reduceIte, Nat.reduceAdd]
    rcases brc h with ⟨hb, h⟩ | ⟨hb, h⟩
    · refine br_t hb ?_
      obtain ⟨hb, h⟩ := brg h
      refine br_t hb ?_
      obtain ⟨hb, h⟩ := brg h
      refine br_t hb ?_
      obtain rfl := Option.some.inj h
      first | rfl | (simp only [List.length_set, go_sem]; done)
    · refine br_f hb ?_
      obtain rfl := Option.some.inj h
      first | rfl | (simp only [List.length_set, go_sem]; done)
noncomputable def s_l02Number (n : Int) (size : Int) : Option ((List UInt8)) :=
  (Loop (s_l02Number_1_s n) (([] : List UInt8), (IntKind.wrap .i64 (size - (1 : Int))))).bind fun e_ =>
  some e_.1
theorem s_l02Number_c {n : Int} {size : Int} {r : (List UInt8)} (h : s_l02Number n size = some r) : Call tab ow 217 [I n, I size] [] = some (sl eU8 r, []) := by
  rw [run_s_l02Number]
  unfold s_l02Number at h
  simp +decide only [b_s_l02Number, go_sem, reduceIte, Nat.reduceAdd]
  obtain ⟨e_, h1, h⟩ := bd h
  refine goR_of (s_l02Number_1_l h1) ?_
  simp +decide only [go_sem, reduceIte, Nat.reduceAdd]
  obtain rfl := Option.some.inj h
  first | rfl | (simp only [List.length_set, go_sem]; done)
end
section
theorem s_l02Bytes_k0 : mkR 2000 [] = rws eU8 [] := rfl
attribute [local go_sem] s_l02Bytes_k0
noncomputable def s_l02Bytes_1_s (list2 : List Ext) : (List UInt8) × Int → Option (((List UInt8) × Int) ⊕ (((List UInt8) × Int × Bool)))
  | (l, i) =>
    br (decide (i < ((list2.length : Nat) : Int))) (
      (atL list2 i).bind fun x =>
      (s_l02Number x.A (4 : Int)).bind fun r_ =>
      br (fits ((l ++ r_).length) 1) (
        (atL list2 i).bind fun x2 =>
        (s_l02Number x2.B (4 : Int)).bind fun r_2 =>
        br (fits (((l ++ r_) ++ r_2).length) 1) (
          some (.inl (((l ++ r_) ++ r_2), (IntKind.wrap .i64 (i + (1 : Int)))))) (
          none)) (
        none)) (
      some (.inr (l, i, decide (i < ((list2.length : Nat) : Int)))))
theorem s_l02Bytes_1_l {list2 : List Ext} {l : List UInt8} {i : Int} {e : ((List UInt8) × Int × Bool)} (h : Loop (s_l02Bytes_1_s list2) (l, i) = some e) : LoopX tab ow (.close [6006, 6007, 6013, 6014]) b_s_l02Bytes_3 ⟨[(0, sl eExt list2), (3, .sl 2000 0 l.length), (4, I i)], [(2000, ⟨1, false, rws eU8 l⟩)]⟩ = some ((.exit 0, ⟨[(0, sl eExt list2), (3, .sl 2000 0 e.1.length), (4, I e.2.1), (9, B e.2.2)], [(2000, ⟨1, false, rws eU8 e.1⟩)]⟩)) := by
  refine loop_runG (S := (List UInt8) × Int) (eS := fun s => ⟨[(0, sl eExt list2), (3, .sl 2000 0 s.1.length), (4, I s.2)], [(2000, ⟨1, false, rws eU8 s.1⟩)]⟩) (eE := fun e => (.exit 0, ⟨[(0, sl eExt list2), (3, .sl 2000 0 e.1.length), (4, I e.2.1), (9, B e.2.2)], [(2000, ⟨1, false, rws eU8 e.1⟩)]⟩)) (fun e => ?_) (fun s o h => ?_) h
  · simp [alt]
  · obtain ⟨l, i⟩ := s
    simp only [s_l02Bytes_1_s] at h
    show Rn tab ow _ _ ⟨[(0, sl eExt list2), (3, .sl 2000 0 l.length), (4, I i)], [(2000, ⟨1, false, rws eU8 l⟩)]⟩ = _
    simp +decide only [b_s_l02Bytes_3, go_sem, reduceIte, Nat.reduceAdd]
    rcases brc h with ⟨hb, h⟩ | ⟨hb, h⟩
    · refine br_t hb ?_
      obtain ⟨x, h1, h⟩ := bd h
      refine bind_some h1 ?_
      obtain ⟨r_, h1, h⟩ := bd h
      refine call_aftD (s_l02Number_c h1) ?_
      simp +decide only [go_sem, reduceIte, Nat.reduceAdd]
      obtain ⟨hb, h⟩ := brg h
      refine br_t hb ?_
      obtain ⟨x2, h1, h⟩ := bd h
      refine bind_some h1 ?_
      obtain ⟨r_2, h1, h⟩ := bd h
      refine call_aftD (s_l02Number_c h1) ?_
      simp +decide only [go_sem, reduceIte, Nat.reduceAdd]
      obtain ⟨hb, h⟩ := brg h
      refine br_t hb ?_
      obtain rfl := Option.some.inj h
      first | rfl | (simp only [List.length_set, go_sem]; done)
    · refine br_f hb ?_
      obtain rfl := Option.some.inj h
      first | rfl | (simp only [List.length_set, go_sem]; done)
noncomputable def s_l02Bytes (list : (List Ext)) : Option ((List UInt8)) :=
  (Loop (s_l02Bytes_1_s list) (([] : List UInt8), (0 : Int))).bind fun e_ =>
  some e_.1
theorem s_l02Bytes_c {list : (List Ext)} {r : (List UInt8)} (h : s_l02Bytes list = some r) : Call tab ow 121 [sl eExt list] [] = some (sl eU8 r, []) := by
  rw [run_s_l02Bytes]
  unfold s_l02Bytes at h
  simp +decide only [b_s_l02Bytes, go_sem, reduceIte, Nat.reduceAdd]
  obtain ⟨e_, h1, h⟩ := bd h
  refine goR_of (s_l02Bytes_1_l h1) ?_
  simp +decide only [go_sem, reduceIte, Nat.reduceAdd]
  obtain rfl := Option.some.inj h
  first | rfl | (simp only [List.length_set, go_sem]; done)
end
section
theorem s_ExtBytes_k0 : mkR 3000 [] = rws eU8 [] := rfl
attribute [local go_sem] s_ExtBytes_k0
theorem s_ExtBytes_k1 : mkR 5000 [] = rws eU8 [] := rfl
attribute [local go_sem] s_ExtBytes_k1
noncomputable def s_ExtBytes (list : (List Ext)) : Option ((List UInt8) × Int) :=
  br (decide (((list.length : Nat) : Int) > (4096 : Int))) (
    some (([] : List UInt8), (2 : Int))) (
    (s_l02List list).bind fun r_ =>
    br (!r_) (
      some (([] : List UInt8), (1 : Int))) (
      (s_l02Bytes list).bind fun r_2 =>
      some (r_2, (0 : Int))))
theorem s_ExtBytes_c {list : (List Ext)} {r : (List UInt8) × Int} (h : s_ExtBytes list = some r) : Call tab ow 30 [sl eExt list] [] = some (.tup [sl eU8 r.1, I r.2], []) := by
  rw [run_s_ExtBytes]
  unfold s_ExtBytes at h
  simp +decide only [b_s_ExtBytes, go_sem, reduceIte, Nat.reduceAdd]
  rcases brc h with ⟨hb, h⟩ | ⟨hb, h⟩
  · refine br_t hb ?_
    obtain rfl := Option.some.inj h
    first | rfl | (simp only [List.length_set, go_sem]; done)
  · refine br_f hb ?_
    obtain ⟨r_, h1, h⟩ := bd h
    refine call_aft (s_l02List_c h1) ?_
    simp +decide only [go_sem, reduceIte, Nat.reduceAdd]
    rcases brc h with ⟨hb, h⟩ | ⟨hb, h⟩
    · refine br_t hb ?_
      obtain rfl := Option.some.inj h
      first | rfl | (simp only [List.length_set, go_sem]; done)
    · refine br_f hb ?_
      obtain ⟨r_2, h1, h⟩ := bd h
      refine call_aft (s_l02Bytes_c h1) ?_
      simp +decide only [go_sem, reduceIte, Nat.reduceAdd]
      obtain rfl := Option.some.inj h
      first | rfl | (simp only [List.length_set, go_sem]; done)
end
noncomputable def i_number_1_s (t : List UInt8) (t2 : Int) : Int × Int → Option ((Int × Int) ⊕ ((Int × Int × Bool)))
  | (n, t3) =>
    br (decide (t3 < t2)) (
      (atL t t3).bind fun x =>
      some (.inl ((or64 .i64 (shl64 .i64 n (8 : Int)) (IntKind.wrap .i64 (x.toNat : Int))), (IntKind.wrap .i64 (t3 + (1 : Int)))))) (
      some (.inr (n, t3, decide (t3 < t2))))
theorem i_number_1_l {t : List UInt8} {t2 : Int} {n : Int} {t3 : Int} {e : (Int × Int × Bool)} (h : Loop (i_number_1_s t t2) (n, t3) = some e) : LoopX tab ow (.close []) b_i_number_3 ⟨[(3, I n), (6, sl eU8 t), (7, I t2), (8, I t3)], []⟩ = some ((.exit 0, ⟨[(3, I e.1), (6, sl eU8 t), (7, I t2), (8, I e.2.1), (9, B e.2.2)], []⟩)) := by
  refine loop_runG (S := Int × Int) (eS := fun s => ⟨[(3, I s.1), (6, sl eU8 t), (7, I t2), (8, I s.2)], []⟩) (eE := fun e => (.exit 0, ⟨[(3, I e.1), (6, sl eU8 t), (7, I t2), (8, I e.2.1), (9, B e.2.2)], []⟩)) (fun e => ?_) (fun s o h => ?_) h
  · simp [alt]
  · obtain ⟨n, t3⟩ := s
    simp only [i_number_1_s] at h
    show Rn tab ow _ _ ⟨[(3, I n), (6, sl eU8 t), (7, I t2), (8, I t3)], []⟩ = _
    simp +decide only [b_i_number_3, go_sem, reduceIte, Nat.reduceAdd]
    rcases brc h with ⟨hb, h⟩ | ⟨hb, h⟩
    · refine br_t hb ?_
      obtain ⟨x, h1, h⟩ := bd h
      refine bind_some h1 ?_
      obtain rfl := Option.some.inj h
      first | rfl | (simp only [List.length_set, go_sem]; done)
    · refine br_f hb ?_
      obtain rfl := Option.some.inj h
      first | rfl | (simp only [List.length_set, go_sem]; done)
noncomputable def i_number (b : (List UInt8)) : Option (Int) :=
  (Loop (i_number_1_s b ((b.length : Nat) : Int)) ((0 : Int), (0 : Int))).bind fun e_ =>
  some e_.1
theorem i_number_c {b : (List UInt8)} {r : Int} (h : i_number b = some r) : Call tab ow 218 [sl eU8 b] [] = some (I r, []) := by
  rw [run_i_number]
  unfold i_number at h
  simp +decide only [b_i_number, go_sem, reduceIte, Nat.reduceAdd]
  obtain ⟨e_, h1, h⟩ := bd h
  refine goR_of (i_number_1_l h1) ?_
  simp +decide only [go_sem, reduceIte, Nat.reduceAdd]
  obtain rfl := Option.some.inj h
  first | rfl | (simp only [List.length_set, go_sem]; done)
section
theorem i_readExts_k0 : mkR 2000 [] = rws eExt [] := rfl
attribute [local go_sem] i_readExts_k0
theorem i_readExts_k1 : mkR 6015 [] = rws eExt [] := rfl
attribute [local go_sem] i_readExts_k1
noncomputable def i_readExts_1_s (b2 : List UInt8) : (List Ext) × Int → Option (((List Ext) × Int) ⊕ (((List Ext) × Int × Bool)))
  | (l, i) =>
    br (decide ((IntKind.wrap .i64 (i + (8 : Int))) ≤ ((b2.length : Nat) : Int))) (
      (subL b2 i (IntKind.wrap .i64 (i + (4 : Int)))).bind fun y =>
      (i_number y).bind fun r_ =>
      (subL b2 (IntKind.wrap .i64 (i + (4 : Int))) (IntKind.wrap .i64 (i + (8 : Int)))).bind fun y2 =>
      (i_number y2).bind fun r_2 =>
      br (fits ((l ++ ([(Ext.mk r_ r_2)] : List Ext)).length) 16) (
        some (.inl ((l ++ ([(Ext.mk r_ r_2)] : List Ext)), (IntKind.wrap .i64 (i + (8 : Int)))))) (
        none)) (
      some (.inr (l, i, decide ((IntKind.wrap .i64 (i + (8 : Int))) ≤ ((b2.length : Nat) : Int)))))
theorem i_readExts_1_l {b2 : List UInt8} {l : List Ext} {i : Int} {e : ((List Ext) × Int × Bool)} (h : Loop (i_readExts_1_s b2) (l, i) = some e) : LoopX tab ow (.close [6006, 6013, 6015, 6016]) b_i_readExts_3 ⟨[(0, sl eU8 b2), (4, .sl 2000 0 l.length), (5, I i)], [(2000, ⟨2, false, rws eExt l⟩)]⟩ = some ((.exit 0, ⟨[(0, sl eU8 b2), (4, .sl 2000 0 e.1.length), (5, I e.2.1), (11, B e.2.2)], [(2000, ⟨2, false, rws eExt e.1⟩)]⟩)) := by
  refine loop_runG (S := (List Ext) × Int) (eS := fun s => ⟨[(0, sl eU8 b2), (4, .sl 2000 0 s.1.length), (5, I s.2)], [(2000, ⟨2, false, rws eExt s.1⟩)]⟩) (eE := fun e => (.exit 0, ⟨[(0, sl eU8 b2), (4, .sl 2000 0 e.1.length), (5, I e.2.1), (11, B e.2.2)], [(2000, ⟨2, false, rws eExt e.1⟩)]⟩)) (fun e => ?_) (fun s o h => ?_) h
  · simp [alt]
  · obtain ⟨l, i⟩ := s
    simp only [i_readExts_1_s] at h
    show Rn tab ow _ _ ⟨[(0, sl eU8 b2), (4, .sl 2000 0 l.length), (5, I i)], [(2000, ⟨2, false, rws eExt l⟩)]⟩ = _
    simp +decide only [b_i_readExts_3, go_sem, reduceIte, Nat.reduceAdd]
    rcases brc h with ⟨hb, h⟩ | ⟨hb, h⟩
    · refine br_t hb ?_
      obtain ⟨y, h1, h⟩ := bd h
      refine bind_some h1 ?_
      obtain ⟨r_, h1, h⟩ := bd h
      refine call_aftD (i_number_c h1) ?_
      simp +decide only [go_sem, reduceIte, Nat.reduceAdd]
      obtain ⟨y2, h1, h⟩ := bd h
      refine bind_some h1 ?_
      obtain ⟨r_2, h1, h⟩ := bd h
      refine call_aftD (i_number_c h1) ?_
      simp +decide only [go_sem, reduceIte, Nat.reduceAdd]
      obtain ⟨hb, h⟩ := brg h
      refine br_t hb ?_
      obtain rfl := Option.some.inj h
      first | rfl | (simp only [List.length_set, go_sem]; done)
    · refine br_f hb ?_
      obtain rfl := Option.some.inj h
      first | rfl | (simp only [List.length_set, go_sem]; done)
noncomputable def i_readExts (b : (List UInt8)) : Option ((List Ext) × Bool) :=
  (Loop (i_readExts_1_s b) (([] : List Ext), (0 : Int))).bind fun e_ =>
  br ((((b.length : Nat) : Int).tmod (8 : Int)) == (0 : Int)) (
    (i_are_i_Ext e_.1).bind fun r_3 =>
    some (e_.1, r_3)) (
    some (e_.1, false))
theorem i_readExts_c {b : (List UInt8)} {r : (List Ext) × Bool} (h : i_readExts b = some r) : Call tab ow 122 [sl eU8 b] [] = some (.tup [sl eExt r.1, B r.2], []) := by
  rw [run_i_readExts]
  unfold i_readExts at h
  simp +decide only [b_i_readExts, go_sem, reduceIte, Nat.reduceAdd]
  obtain ⟨e_, h1, h⟩ := bd h
  refine goR_of (i_readExts_1_l h1) ?_
  simp +decide only [go_sem, reduceIte, Nat.reduceAdd]
  rcases brc h with ⟨hb, h⟩ | ⟨hb, h⟩
  · refine br_t hb ?_
    obtain ⟨r_3, h1, h⟩ := bd h
    refine call_aft (i_are_i_Ext_c h1) ?_
    simp +decide only [go_sem, reduceIte, Nat.reduceAdd]
    obtain rfl := Option.some.inj h
    first | rfl | (simp only [List.length_set, go_sem]; done)
  · refine br_f hb ?_
    obtain rfl := Option.some.inj h
    first | rfl | (simp only [List.length_set, go_sem]; done)
end
noncomputable def i_ReadExts (b : (List UInt8)) : Option ((List Ext) × Int) :=
  br (decide (((b.length : Nat) : Int) > (65536 : Int))) (
    some (([] : List Ext), (2 : Int))) (
    (i_readExts b).bind fun r_ =>
    br (!r_.2) (
      some (([] : List Ext), (3 : Int))) (
      br (decide (((r_.1.length : Nat) : Int) > (4096 : Int))) (
        some (([] : List Ext), (6 : Int))) (
        some (r_.1, (0 : Int)))))
theorem i_ReadExts_c {b : (List UInt8)} {r : (List Ext) × Int} (h : i_ReadExts b = some r) : Call tab ow 31 [sl eU8 b] [] = some (.tup [sl eExt r.1, I r.2], []) := by
  rw [run_i_ReadExts]
  unfold i_ReadExts at h
  simp +decide only [b_i_ReadExts, go_sem, reduceIte, Nat.reduceAdd]
  rcases brc h with ⟨hb, h⟩ | ⟨hb, h⟩
  · refine br_t hb ?_
    obtain rfl := Option.some.inj h
    first | rfl | (simp only [List.length_set, go_sem]; done)
  · refine br_f hb ?_
    obtain ⟨r_, h1, h⟩ := bd h
    refine call_aft (i_readExts_c h1) ?_
    simp +decide only [go_sem, reduceIte, Nat.reduceAdd]
    rcases brc h with ⟨hb, h⟩ | ⟨hb, h⟩
    · refine br_t hb ?_
      obtain rfl := Option.some.inj h
      first | rfl | (simp only [List.length_set, go_sem]; done)
    · refine br_f hb ?_
      rcases brc h with ⟨hb, h⟩ | ⟨hb, h⟩
      · refine br_t hb ?_
        obtain rfl := Option.some.inj h
        first | rfl | (simp only [List.length_set, go_sem]; done)
      · refine br_f hb ?_
        obtain rfl := Option.some.inj h
        first | rfl | (simp only [List.length_set, go_sem]; done)
noncomputable def w_sameExts_1_s (a2 : List Ext) (b2 : List Ext) : Int → Option ((Int) ⊕ (Unit ⊕ (Int × Bool)))
  | i =>
    br (decide (i < ((a2.length : Nat) : Int))) (
      (atL a2 i).bind fun x =>
      (atL b2 i).bind fun x2 =>
      br (x.A == x2.A) (
        br (x.B == x2.B) (
          some (.inl (IntKind.wrap .i64 (i + (1 : Int))))) (
          some (.inr (.inl ())))) (
        some (.inr (.inl ())))) (
      some (.inr (.inr (i, decide (i < ((a2.length : Nat) : Int))))))
theorem w_sameExts_1_l {a2 : List Ext} {b2 : List Ext} {i : Int} {e : Unit ⊕ (Int × Bool)} (h : Loop (w_sameExts_1_s a2 b2) i = some e) : LoopX tab ow (.close []) b_w_sameExts_4 ⟨[(0, sl eExt a2), (1, sl eExt b2), (5, I i)], []⟩ = some ((alt (fun e => ((.ret, ⟨[(4, B false)], []⟩) : AExit × St)) (fun e => (.exit 0, ⟨[(0, sl eExt a2), (1, sl eExt b2), (5, I e.1), (14, B e.2)], []⟩))) e) := by
  refine loop_runG (S := Int) (eS := fun s => ⟨[(0, sl eExt a2), (1, sl eExt b2), (5, I s)], []⟩) (eE := fun e => (alt (fun e => ((.ret, ⟨[(4, B false)], []⟩) : AExit × St)) (fun e => (.exit 0, ⟨[(0, sl eExt a2), (1, sl eExt b2), (5, I e.1), (14, B e.2)], []⟩))) e) (fun e => ?_) (fun i o h => ?_) h
  · rcases e with e | e <;> simp [alt]
  · skip
    simp only [w_sameExts_1_s] at h
    show Rn tab ow _ _ ⟨[(0, sl eExt a2), (1, sl eExt b2), (5, I i)], []⟩ = _
    simp +decide only [b_w_sameExts_4, go_sem, reduceIte, Nat.reduceAdd]
    rcases brc h with ⟨hb, h⟩ | ⟨hb, h⟩
    · refine br_t hb ?_
      obtain ⟨x, h1, h⟩ := bd h
      refine bind_some h1 ?_
      obtain ⟨x2, h1, h⟩ := bd h
      refine bind_some h1 ?_
      rcases brc h with ⟨hb, h⟩ | ⟨hb, h⟩
      · refine br_t hb ?_
        rcases brc h with ⟨hb, h⟩ | ⟨hb, h⟩
        · refine br_t hb ?_
          obtain rfl := Option.some.inj h
          first | rfl | (simp only [List.length_set, go_sem]; done)
        · refine br_f hb ?_
          obtain rfl := Option.some.inj h
          first | rfl | (simp only [List.length_set, go_sem]; done)
      · refine br_f hb ?_
        obtain rfl := Option.some.inj h
        first | rfl | (simp only [List.length_set, go_sem]; done)
    · refine br_f hb ?_
      obtain rfl := Option.some.inj h
      first | rfl | (simp only [List.length_set, go_sem]; done)
noncomputable def w_sameExts (a : (List Ext)) (b : (List Ext)) : Option (Bool) :=
  br (((a.length : Nat) : Int) != ((b.length : Nat) : Int)) (
    some false) (
    (Loop (w_sameExts_1_s a b) (0 : Int)).bind (alt (fun e_2 =>
      some false) (fun e_3 =>
      some true)))
theorem w_sameExts_c {a : (List Ext)} {b : (List Ext)} {r : Bool} (h : w_sameExts a b = some r) : Call tab ow 27 [sl eExt a, sl eExt b] [] = some (B r, []) := by
  rw [run_w_sameExts]
  unfold w_sameExts at h
  simp +decide only [b_w_sameExts, go_sem, reduceIte, Nat.reduceAdd]
  rcases brc h with ⟨hb, h⟩ | ⟨hb, h⟩
  · refine br_t hb ?_
    obtain rfl := Option.some.inj h
    first | rfl | (simp only [List.length_set, go_sem]; done)
  · refine br_f hb ?_
    obtain ⟨e_, h1, h⟩ := bd h
    refine goR_of (w_sameExts_1_l h1) ?_
    rcases e_ with e_2 | e_3
    · simp +decide only [go_sem, reduceIte, Nat.reduceAdd]
      obtain rfl := Option.some.inj h
      first | rfl | (simp only [List.length_set, go_sem]; done)
    · simp +decide only [go_sem, reduceIte, Nat.reduceAdd]
      obtain rfl := Option.some.inj h
      first | rfl | (simp only [List.length_set, go_sem]; done)
noncomputable def i_areLists (a : (List Ext)) (b : (List Ext)) : Option (Int) :=
  br (decide (((a.length : Nat) : Int) > (4096 : Int))) (
    some (2 : Int)) (
    br (decide (((b.length : Nat) : Int) > (4096 : Int))) (
      some (2 : Int)) (
      (i_are_i_Ext a).bind fun r_ =>
      br (!r_) (
        some (1 : Int)) (
        (i_are_i_Ext b).bind fun r_2 =>
        br (!r_2) (
          some (1 : Int)) (
          some (0 : Int)))))
theorem i_areLists_c {a : (List Ext)} {b : (List Ext)} {r : Int} (h : i_areLists a b = some r) : Call tab ow 123 [sl eExt a, sl eExt b] [] = some (I r, []) := by
  rw [run_i_areLists]
  unfold i_areLists at h
  simp +decide only [b_i_areLists, go_sem, reduceIte, Nat.reduceAdd]
  rcases brc h with ⟨hb, h⟩ | ⟨hb, h⟩
  · refine br_t hb ?_
    obtain rfl := Option.some.inj h
    first | rfl | (simp only [List.length_set, go_sem]; done)
  · refine br_f hb ?_
    rcases brc h with ⟨hb, h⟩ | ⟨hb, h⟩
    · refine br_t hb ?_
      obtain rfl := Option.some.inj h
      first | rfl | (simp only [List.length_set, go_sem]; done)
    · refine br_f hb ?_
      obtain ⟨r_, h1, h⟩ := bd h
      refine call_aft (i_are_i_Ext_c h1) ?_
      simp +decide only [go_sem, reduceIte, Nat.reduceAdd]
      rcases brc h with ⟨hb, h⟩ | ⟨hb, h⟩
      · refine br_t hb ?_
        obtain rfl := Option.some.inj h
        first | rfl | (simp only [List.length_set, go_sem]; done)
      · refine br_f hb ?_
        obtain ⟨r_2, h1, h⟩ := bd h
        refine call_aft (i_are_i_Ext_c h1) ?_
        simp +decide only [go_sem, reduceIte, Nat.reduceAdd]
        rcases brc h with ⟨hb, h⟩ | ⟨hb, h⟩
        · refine br_t hb ?_
          obtain rfl := Option.some.inj h
          first | rfl | (simp only [List.length_set, go_sem]; done)
        · refine br_f hb ?_
          obtain rfl := Option.some.inj h
          first | rfl | (simp only [List.length_set, go_sem]; done)
noncomputable def i_mul (a : Int) (b : Int) : Option (Int) :=
  some ((IntKind.wrap .i64 (a * b)).tmod (2130706433 : Int))
theorem i_mul_c {a : Int} {b : Int} {r : Int} (h : i_mul a b = some r) : Call tab ow 212 [I a, I b] [] = some (I r, []) := by
  rw [run_i_mul]
  unfold i_mul at h
  simp +decide only [b_i_mul, go_sem, reduceIte, Nat.reduceAdd]
  obtain rfl := Option.some.inj h
  first | rfl | (simp only [List.length_set, go_sem]; done)
noncomputable def i_add (a : Int) (b : Int) : Option (Int) :=
  some ((IntKind.wrap .i64 (a + b)).tmod (2130706433 : Int))
theorem i_add_c {a : Int} {b : Int} {r : Int} (h : i_add a b = some r) : Call tab ow 211 [I a, I b] [] = some (I r, []) := by
  rw [run_i_add]
  unfold i_add at h
  simp +decide only [b_i_add, go_sem, reduceIte, Nat.reduceAdd]
  obtain rfl := Option.some.inj h
  first | rfl | (simp only [List.length_set, go_sem]; done)
end Go.AI.Fn
