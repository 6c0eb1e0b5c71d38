/- Walks through the program, with open values. -/
import Derived.Test.YtmhgflhndmcdmaaGreatStr
import Derived.Test.YtmhgflhndmcdmaaGreatTb2
set_option linter.unusedVariables false
set_option linter.unusedSimpArgs false
set_option maxRecDepth 100000
set_option maxHeartbeats 1000000
namespace Go.AI.Fn
noncomputable def s_l00Source (code : (List UInt8)) : Option (l00Src) :=
  some (l00Src.mk code (0 : Int) (((code.length : Nat) : Int).tmod (1000 : Int)))
theorem s_l00Source_c {code r} (h : s_l00Source code = some r) : Call tab ow 59 [sl eU8 code] [] = some (.ptr 0 0 0 1, [⟨3, true, [[sl eU8 r.code, I r.at_, I r.seed]]⟩]) := by
  rw [Call_run (af := a_s_l00Source) rfl]
  unfold s_l00Source at h
  simp +decide only [a_s_l00Source, b_s_l00Source, go_sem, reduceIte, Nat.reduceAdd]
  all_goals exact go
noncomputable def s_l00Src_byte (m : l00Src) : Option (Int × l00Src) :=
  br (decide ((IntKind.wrap .i64 (m.at_ + (1 : Int))) ≤ ((m.code.length : Nat) : Int))) (
    (atL m.code (IntKind.wrap .i64 ((IntKind.wrap .i64 (m.at_ + (1 : Int))) - (1 : Int)))).bind fun x =>
    (atL m.code (IntKind.wrap .i64 ((IntKind.wrap .i64 (m.at_ + (1 : Int))) - (1 : Int)))).bind fun x2 =>
    some ((IntKind.wrap .i64 (x2.toNat : Int)), (l00Src.mk m.code (IntKind.wrap .i64 (m.at_ + (1 : Int))) ((IntKind.wrap .i64 ((IntKind.wrap .i64 ((IntKind.wrap .i64 (m.seed * (31 : Int))) + (IntKind.wrap .i64 (x.toNat : Int)))) + (7 : Int))).tmod (2147483648 : Int))))) (
    br (decide ((IntKind.wrap .i64 (m.at_ + (1 : Int))) > (3000 : Int))) (
      some ((0 : Int), (l00Src.mk m.code (IntKind.wrap .i64 (m.at_ + (1 : Int))) m.seed))) (
      some (((IntKind.wrap .i64 (((IntKind.wrap .i64 ((IntKind.wrap .i64 (m.seed * (1103515245 : Int))) + (12345 : Int))).tmod (2147483648 : Int)).tdiv (65536 : Int))).tmod (256 : Int)), (l00Src.mk m.code (IntKind.wrap .i64 (m.at_ + (1 : Int))) ((IntKind.wrap .i64 ((IntKind.wrap .i64 (m.seed * (1103515245 : Int))) + (12345 : Int))).tmod (2147483648 : Int))))))
theorem s_l00Src_byte_c {m r} (h : s_l00Src_byte m = some r) : Call tab ow 239 [.ptr 0 0 0 1] [⟨3, true, [[sl eU8 m.code, I m.at_, I m.seed]]⟩] = some (I r.1, [⟨3, true, [[sl eU8 r.2.code, I r.2.at_, I r.2.seed]]⟩]) := by
  rw [Call_run (af := a_s_l00Src_byte) rfl]
  unfold s_l00Src_byte at h
  simp +decide only [a_s_l00Src_byte, b_s_l00Src_byte, go_sem, reduceIte, Nat.reduceAdd]
  all_goals exact go
noncomputable def s_l00Src_next (n : Int) (m : l00Src) : Option (Int × l00Src) :=
  br (decide (n ≤ (1 : Int))) (
    some ((0 : Int), m)) (
    br (decide (n ≤ (256 : Int))) (
      (s_l00Src_byte m).bind fun r_ =>
      br (decide (n ≠ 0)) (
        some ((r_.1.tmod n), r_.2)) (
        none)) (
      (s_l00Src_byte m).bind fun r_2 =>
      (s_l00Src_byte r_2.2).bind fun r_3 =>
      (s_l00Src_byte r_3.2).bind fun r_4 =>
      br (decide (n ≠ 0)) (
        some (((IntKind.wrap .i64 ((IntKind.wrap .i64 ((IntKind.wrap .i64 (r_2.1 * (65536 : Int))) + (IntKind.wrap .i64 (r_3.1 * (256 : Int))))) + r_4.1)).tmod n), r_4.2)) (
        none)))
theorem s_l00Src_next_c {n m r} (h : s_l00Src_next n m = some r) : Call tab ow 149 [.ptr 0 0 0 1, I n] [⟨3, true, [[sl eU8 m.code, I m.at_, I m.seed]]⟩] = some (I r.1, [⟨3, true, [[sl eU8 r.2.code, I r.2.at_, I r.2.seed]]⟩]) := by
  rw [Call_run (af := a_s_l00Src_next) rfl]
  unfold s_l00Src_next at h
  simp +decide only [a_s_l00Src_next, b_s_l00Src_next, go_sem, reduceIte, Nat.reduceAdd]
  have d1 := @s_l00Src_byte_c
  all_goals exact go
noncomputable def s_l00Src_chance (n : Int) (m : l00Src) : Option (Bool × l00Src) :=
  (s_l00Src_next n m).bind fun r_ =>
  some ((r_.1 == (IntKind.wrap .i64 (n - (1 : Int)))), r_.2)
theorem s_l00Src_chance_c {n m r} (h : s_l00Src_chance n m = some r) : Call tab ow 154 [.ptr 0 0 0 1, I n] [⟨3, true, [[sl eU8 m.code, I m.at_, I m.seed]]⟩] = some (B r.1, [⟨3, true, [[sl eU8 r.2.code, I r.2.at_, I r.2.seed]]⟩]) := by
  rw [Call_run (af := a_s_l00Src_chance) rfl]
  unfold s_l00Src_chance at h
  simp +decide only [a_s_l00Src_chance, b_s_l00Src_chance, go_sem, reduceIte, Nat.reduceAdd]
  have d1 := @s_l00Src_next_c
  all_goals exact go
noncomputable def s_l00Src_field_1_s : Int × Int × (List UInt8) × Int × Int → Option ((Int × Int × (List UInt8) × Int × Int) ⊕ ((Int × Int × Bool × (List UInt8) × Int × Int)))
  | (n, i, c, c2, c3) =>
    br (decide (i < (5 : Int))) (
      (s_l00Src_next (256 : Int) (l00Src.mk c c2 c3)).bind fun r_4 =>
      some (.inl (((IntKind.wrap .i64 ((IntKind.wrap .i64 (n * (256 : Int))) + r_4.1)).tmod (2130706433 : Int)), (IntKind.wrap .i64 (i + (1 : Int))), r_4.2.code, r_4.2.at_, r_4.2.seed))) (
      some (.inr (n, i, decide (i < (5 : Int)), c, c2, c3)))
@[reducible] def s_l00Src_field_1_S (s : Int × Int × (List UInt8) × Int × Int) : St := ⟨[(0, .ptr 0 0 0 1), (3, I s.1), (4, I s.2.1)], [(0, ⟨3, true, [[sl eU8 s.2.2.1, I s.2.2.2.1, I s.2.2.2.2]]⟩)]⟩
@[reducible] def s_l00Src_field_1_E : (Int × Int × Bool × (List UInt8) × Int × Int) → AExit × St := fun e => (.exit 1, ⟨[(0, .ptr 0 0 0 1), (3, I e.1), (4, I e.2.1), (17, B e.2.2.1)], [(0, ⟨3, true, [[sl eU8 e.2.2.2.1, I e.2.2.2.2.1, I e.2.2.2.2.2]]⟩)]⟩)
theorem s_l00Src_field_1_l { s e} (h : Loop (s_l00Src_field_1_s) s = some e) : LoopX tab ow (.close [11003]) b_s_l00Src_field_8 (s_l00Src_field_1_S s) = some (s_l00Src_field_1_E e) := by
  refine lrG (fun s o h => ?_) h
  obtain ⟨_, _, _, _, _⟩ := s
  simp only [s_l00Src_field_1_s] at h
  simp +decide only [s_l00Src_field_1_S, s_l00Src_field_1_E, b_s_l00Src_field_8, go_sem, reduceIte, Nat.reduceAdd]
  have d1 := @s_l00Src_next_c
  all_goals exact go
noncomputable def s_l00Src_field (m : l00Src) : Option (Int × l00Src) :=
  (s_l00Src_next (5 : Int) m).bind fun r_ =>
  br (r_.1 == (0 : Int)) (
    (s_l00Src_next (4 : Int) r_.2).bind fun r_2 =>
    some (r_2.1, r_2.2)) (
    br (r_.1 == (1 : Int)) (
      (s_l00Src_next (3 : Int) r_.2).bind fun r_3 =>
      some ((IntKind.wrap .i64 ((2130706432 : Int) - r_3.1)), r_3.2)) (
      (Loop (s_l00Src_field_1_s) ((0 : Int), (0 : Int), r_.2.code, r_.2.at_, r_.2.seed)).bind fun e_ =>
      some (e_.1, (l00Src.mk e_.2.2.2.1 e_.2.2.2.2.1 e_.2.2.2.2.2))))
theorem s_l00Src_field_c {m r} (h : s_l00Src_field m = some r) : Call tab ow 151 [.ptr 0 0 0 1] [⟨3, true, [[sl eU8 m.code, I m.at_, I m.seed]]⟩] = some (I r.1, [⟨3, true, [[sl eU8 r.2.code, I r.2.at_, I r.2.seed]]⟩]) := by
  rw [Call_run (af := a_s_l00Src_field) rfl]
  unfold s_l00Src_field at h
  simp +decide only [a_s_l00Src_field, b_s_l00Src_field, go_sem, reduceIte, Nat.reduceAdd]
  have d1 := @s_l00Src_next_c
  have d2 := @s_l00Src_field_1_l
  all_goals exact go
section
theorem s_l00Src_entries_k0 : mkR 2000 [] = rws eEntry [] := rfl
attribute [local go_sem] s_l00Src_entries_k0
theorem s_l00Src_entries_k1 : mkR 10007 [] = rws eEntry [] := rfl
attribute [local go_sem] s_l00Src_entries_k1
noncomputable def s_l00Src_entries_2_s (rows3 : Int) (cols3 : Int) (r_2 : Int) : (List Entry) × Int × (List UInt8) × Int × Int → Option (((List Entry) × Int × (List UInt8) × Int × Int) ⊕ (((List Entry) × Int × Bool × (List UInt8) × Int × Int)))
  | (l2, c4, c5, c6, c7) =>
    br (decide (0 ≤ (IntKind.wrap .u64 cols3))) (
      br (decide (c4 < (shl64 .i64 (1 : Int) (IntKind.wrap .u64 cols3)))) (
        (s_l00Src_chance (4 : Int) (l00Src.mk c5 c6 c7)).bind fun r_3 =>
        br r_3.1 (
          (s_l00Src_field r_3.2).bind fun r_4 =>
          br (fits ((l2 ++ ([(Entry.mk r_2 c4 (mx (1 : Int) r_4.1))] : List Entry)).length) 24) (
            some (.inl ((l2 ++ ([(Entry.mk r_2 c4 (mx (1 : Int) r_4.1))] : List Entry)), (IntKind.wrap .i64 (c4 + (1 : Int))), r_4.2.code, r_4.2.at_, r_4.2.seed))) (
            none)) (
          some (.inl (l2, (IntKind.wrap .i64 (c4 + (1 : Int))), r_3.2.code, r_3.2.at_, r_3.2.seed)))) (
        some (.inr (l2, c4, decide (c4 < (shl64 .i64 (1 : Int) (IntKind.wrap .u64 cols3))), c5, c6, c7)))) (
      none)
@[reducible] def s_l00Src_entries_2_S (rows3 : Int) (cols3 : Int) (r_2 : Int) (s : (List Entry) × Int × (List UInt8) × Int × Int) : St := ⟨[(0, .ptr 0 0 0 1), (1, I rows3), (2, I cols3), (7, .sl 2000 0 s.1.length), (8, I r_2), (9, I s.2.1)], [(0, ⟨3, true, [[sl eU8 s.2.2.1, I s.2.2.2.1, I s.2.2.2.2]]⟩), (2000, ⟨3, false, rws eEntry s.1⟩)]⟩
@[reducible] def s_l00Src_entries_2_E (rows3 : Int) (cols3 : Int) (r_2 : Int) : ((List Entry) × Int × Bool × (List UInt8) × Int × Int) → AExit × St := fun e => (.exit 2, ⟨[(0, .ptr 0 0 0 1), (1, I rows3), (2, I cols3), (7, .sl 2000 0 e.1.length), (8, I r_2), (9, I e.2.1), (22, B e.2.2.1)], [(0, ⟨3, true, [[sl eU8 e.2.2.2.1, I e.2.2.2.2.1, I e.2.2.2.2.2]]⟩), (2000, ⟨3, false, rws eEntry e.1⟩)]⟩)
theorem s_l00Src_entries_2_l {rows3 cols3 r_2 s e} (h : Loop (s_l00Src_entries_2_s rows3 cols3 r_2) s = some e) : LoopX tab ow (.close [9001,10004,10007,10008]) b_s_l00Src_entries_6 (s_l00Src_entries_2_S rows3 cols3 r_2 s) = some (s_l00Src_entries_2_E rows3 cols3 r_2 e) := by
  refine lrG (fun s o h => ?_) h
  obtain ⟨_, _, _, _, _⟩ := s
  simp only [s_l00Src_entries_2_s] at h
  simp +decide only [s_l00Src_entries_2_S, s_l00Src_entries_2_E, b_s_l00Src_entries_6, go_sem, reduceIte, Nat.reduceAdd]
  have d1 := @s_l00Src_chance_c
  have d2 := @s_l00Src_field_c
  all_goals exact go
noncomputable def s_l00Src_entries_1_s (rows2 : Int) (cols2 : Int) : (List Entry) × Int × (List UInt8) × Int × Int → Option (((List Entry) × Int × (List UInt8) × Int × Int) ⊕ (((List Entry) × Int × Bool × (List UInt8) × Int × Int)))
  | (l, r_, c, c2, c3) =>
    br (decide (0 ≤ (IntKind.wrap .u64 rows2))) (
      br (decide (r_ < (shl64 .i64 (1 : Int) (IntKind.wrap .u64 rows2)))) (
        (Loop (s_l00Src_entries_2_s rows2 cols2 r_) (l, (0 : Int), c, c2, c3)).bind fun e_ =>
        some (.inl (e_.1, (IntKind.wrap .i64 (r_ + (1 : Int))), e_.2.2.2.1, e_.2.2.2.2.1, e_.2.2.2.2.2))) (
        some (.inr (l, r_, decide (r_ < (shl64 .i64 (1 : Int) (IntKind.wrap .u64 rows2))), c, c2, c3)))) (
      none)
@[reducible] def s_l00Src_entries_1_S (rows2 : Int) (cols2 : Int) (s : (List Entry) × Int × (List UInt8) × Int × Int) : St := ⟨[(0, .ptr 0 0 0 1), (1, I rows2), (2, I cols2), (7, .sl 2000 0 s.1.length), (8, I s.2.1)], [(0, ⟨3, true, [[sl eU8 s.2.2.1, I s.2.2.2.1, I s.2.2.2.2]]⟩), (2000, ⟨3, false, rws eEntry s.1⟩)]⟩
@[reducible] def s_l00Src_entries_1_E (rows2 : Int) (cols2 : Int) : ((List Entry) × Int × Bool × (List UInt8) × Int × Int) → AExit × St := fun e => (.exit 0, ⟨[(0, .ptr 0 0 0 1), (1, I rows2), (2, I cols2), (7, .sl 2000 0 e.1.length), (8, I e.2.1), (15, B e.2.2.1)], [(0, ⟨3, true, [[sl eU8 e.2.2.2.1, I e.2.2.2.2.1, I e.2.2.2.2.2]]⟩), (2000, ⟨3, false, rws eEntry e.1⟩)]⟩)
theorem s_l00Src_entries_1_l {rows2 cols2 s e} (h : Loop (s_l00Src_entries_1_s rows2 cols2) s = some e) : LoopX tab ow (.close [9001,10004,10007,10008]) b_s_l00Src_entries_3 (s_l00Src_entries_1_S rows2 cols2 s) = some (s_l00Src_entries_1_E rows2 cols2 e) := by
  refine lrG (fun s o h => ?_) h
  obtain ⟨_, _, _, _, _⟩ := s
  simp only [s_l00Src_entries_1_s] at h
  simp +decide only [s_l00Src_entries_1_S, s_l00Src_entries_1_E, b_s_l00Src_entries_3, go_sem, reduceIte, Nat.reduceAdd]
  have d1 := @s_l00Src_entries_2_l
  all_goals exact go
noncomputable def s_l00Src_entries (rows : Int) (cols : Int) (m : l00Src) : Option ((List Entry) × l00Src) :=
  (Loop (s_l00Src_entries_1_s rows cols) (([] : List Entry), (0 : Int), m.code, m.at_, m.seed)).bind fun e_2 =>
  some (e_2.1, (l00Src.mk e_2.2.2.2.1 e_2.2.2.2.2.1 e_2.2.2.2.2.2))
theorem s_l00Src_entries_c {rows cols m r} (h : s_l00Src_entries rows cols m = some r) : Call tab ow 150 [.ptr 0 0 0 1, I rows, I cols] [⟨3, true, [[sl eU8 m.code, I m.at_, I m.seed]]⟩] = some (sl eEntry r.1, [⟨3, true, [[sl eU8 r.2.code, I r.2.at_, I r.2.seed]]⟩]) := by
  rw [Call_run (af := a_s_l00Src_entries) rfl]
  unfold s_l00Src_entries at h
  simp +decide only [a_s_l00Src_entries, b_s_l00Src_entries, go_sem, reduceIte, Nat.reduceAdd]
  have d1 := @s_l00Src_entries_1_l
  all_goals exact go
end
noncomputable def s_l00Src_system (m : l00Src) : Option (System × l00Src) :=
  (s_l00Src_next (2 : Int) m).bind fun r_ =>
  (s_l00Src_next (2 : Int) r_.2).bind fun r_2 =>
  br (decide (0 ≤ (IntKind.wrap .u64 (IntKind.wrap .i64 ((IntKind.wrap .i64 ((2 : Int) + r_2.1)) - (1 : Int)))))) (
    (s_l00Src_next (shl64 .i64 (1 : Int) (IntKind.wrap .u64 (IntKind.wrap .i64 ((IntKind.wrap .i64 ((2 : Int) + r_2.1)) - (1 : Int))))) r_2.2).bind fun r_3 =>
    (s_l00Src_entries (IntKind.wrap .i64 ((1 : Int) + r_.1)) (IntKind.wrap .i64 ((2 : Int) + r_2.1)) r_3.2).bind fun r_4 =>
    (s_l00Src_entries (IntKind.wrap .i64 ((1 : Int) + r_.1)) (IntKind.wrap .i64 ((2 : Int) + r_2.1)) r_4.2).bind fun r_5 =>
    (s_l00Src_entries (IntKind.wrap .i64 ((1 : Int) + r_.1)) (IntKind.wrap .i64 ((2 : Int) + r_2.1)) r_5.2).bind fun r_6 =>
    some ((System.mk (IntKind.wrap .i64 ((1 : Int) + r_.1)) (IntKind.wrap .i64 ((2 : Int) + r_2.1)) r_3.1 r_4.1 r_5.1 r_6.1), r_6.2)) (
    none)
theorem s_l00Src_system_c {m r} (h : s_l00Src_system m = some r) : Call tab ow 60 [.ptr 0 0 0 1] [⟨3, true, [[sl eU8 m.code, I m.at_, I m.seed]]⟩] = some (.agg [I r.1.Rows, I r.1.Cols, I r.1.Publics, sl eEntry r.1.A, sl eEntry r.1.B, sl eEntry r.1.C], [⟨3, true, [[sl eU8 r.2.code, I r.2.at_, I r.2.seed]]⟩]) := by
  rw [Call_run (af := a_s_l00Src_system) rfl]
  unfold s_l00Src_system at h
  simp +decide only [a_s_l00Src_system, b_s_l00Src_system, go_sem, reduceIte, Nat.reduceAdd]
  have d1 := @s_l00Src_next_c
  have d2 := @s_l00Src_entries_c
  all_goals exact go
noncomputable def s_SystemDrawn (code : (List UInt8)) : Option (System) :=
  (s_l00Source code).bind fun r_ =>
  (s_l00Src_system r_).bind fun r_2 =>
  some r_2.1
theorem s_SystemDrawn_c {code r} (h : s_SystemDrawn code = some r) : Call tab ow 9 [sl eU8 code] [] = some (.agg [I r.Rows, I r.Cols, I r.Publics, sl eEntry r.A, sl eEntry r.B, sl eEntry r.C], []) := by
  rw [Call_run (af := a_s_SystemDrawn) rfl]
  unfold s_SystemDrawn at h
  simp +decide only [a_s_SystemDrawn, b_s_SystemDrawn, go_sem, reduceIte, Nat.reduceAdd]
  have d1 := @s_l00Source_c
  have d2 := @s_l00Src_system_c
  all_goals exact go
noncomputable def s_l00Src_setting (m : l00Src) : Option (Setting × l00Src) :=
  (s_l00Src_next (2 : Int) m).bind fun r_ =>
  (s_l00Src_next (3 : Int) r_.2).bind fun r_2 =>
  (s_l00Src_next (3 : Int) r_2.2).bind fun r_3 =>
  some ((Setting.mk (IntKind.wrap .i64 ((1 : Int) + r_.1)) (IntKind.wrap .i64 ((1 : Int) + r_2.1)) r_3.1), r_3.2)
theorem s_l00Src_setting_c {m r} (h : s_l00Src_setting m = some r) : Call tab ow 61 [.ptr 0 0 0 1] [⟨3, true, [[sl eU8 m.code, I m.at_, I m.seed]]⟩] = some (.agg [I r.1.Rate, I r.1.Queries, I r.1.Grind], [⟨3, true, [[sl eU8 r.2.code, I r.2.at_, I r.2.seed]]⟩]) := by
  rw [Call_run (af := a_s_l00Src_setting) rfl]
  unfold s_l00Src_setting at h
  simp +decide only [a_s_l00Src_setting, b_s_l00Src_setting, go_sem, reduceIte, Nat.reduceAdd]
  have d1 := @s_l00Src_next_c
  all_goals exact go
noncomputable def s_SettingOf (code : (List UInt8)) : Option (Setting) :=
  (s_l00Source code).bind fun r_ =>
  (s_l00Src_setting r_).bind fun r_2 =>
  some r_2.1
theorem s_SettingOf_c {code r} (h : s_SettingOf code = some r) : Call tab ow 10 [sl eU8 code] [] = some (.agg [I r.Rate, I r.Queries, I r.Grind], []) := by
  rw [Call_run (af := a_s_SettingOf) rfl]
  unfold s_SettingOf at h
  simp +decide only [a_s_SettingOf, b_s_SettingOf, go_sem, reduceIte, Nat.reduceAdd]
  have d1 := @s_l00Source_c
  have d2 := @s_l00Src_setting_c
  all_goals exact go
section
theorem s_l00Src_fields_k0 : mkR 2000 [] = rws eI [] := rfl
attribute [local go_sem] s_l00Src_fields_k0
theorem s_l00Src_fields_k1 : mkR 6003 [] = rws eI [] := rfl
attribute [local go_sem] s_l00Src_fields_k1
noncomputable def s_l00Src_fields_1_s (n2 : Int) : (List Int) × Int × (List UInt8) × Int × Int → Option (((List Int) × Int × (List UInt8) × Int × Int) ⊕ (((List Int) × Int × Bool × (List UInt8) × Int × Int)))
  | (l, i, c, c2, c3) =>
    br (decide (i < n2)) (
      (s_l00Src_field (l00Src.mk c c2 c3)).bind fun r_ =>
      br (fits ((l ++ ([r_.1] : List Int)).length) 8) (
        some (.inl ((l ++ ([r_.1] : List Int)), (IntKind.wrap .i64 (i + (1 : Int))), r_.2.code, r_.2.at_, r_.2.seed))) (
        none)) (
      some (.inr (l, i, decide (i < n2), c, c2, c3)))
@[reducible] def s_l00Src_fields_1_S (n2 : Int) (s : (List Int) × Int × (List UInt8) × Int × Int) : St := ⟨[(0, .ptr 0 0 0 1), (1, I n2), (5, .sl 2000 0 s.1.length), (6, I s.2.1)], [(0, ⟨3, true, [[sl eU8 s.2.2.1, I s.2.2.2.1, I s.2.2.2.2]]⟩), (2000, ⟨1, false, rws eI s.1⟩)]⟩
@[reducible] def s_l00Src_fields_1_E (n2 : Int) : ((List Int) × Int × Bool × (List UInt8) × Int × Int) → AExit × St := fun e => (.exit 0, ⟨[(0, .ptr 0 0 0 1), (1, I n2), (5, .sl 2000 0 e.1.length), (6, I e.2.1), (10, B e.2.2.1)], [(0, ⟨3, true, [[sl eU8 e.2.2.2.1, I e.2.2.2.2.1, I e.2.2.2.2.2]]⟩), (2000, ⟨1, false, rws eI e.1⟩)]⟩)
theorem s_l00Src_fields_1_l {n2 s e} (h : Loop (s_l00Src_fields_1_s n2) s = some e) : LoopX tab ow (.close [6002,6003,6004]) b_s_l00Src_fields_3 (s_l00Src_fields_1_S n2 s) = some (s_l00Src_fields_1_E n2 e) := by
  refine lrG (fun s o h => ?_) h
  obtain ⟨_, _, _, _, _⟩ := s
  simp only [s_l00Src_fields_1_s] at h
  simp +decide only [s_l00Src_fields_1_S, s_l00Src_fields_1_E, b_s_l00Src_fields_3, go_sem, reduceIte, Nat.reduceAdd]
  have d1 := @s_l00Src_field_c
  all_goals exact go
noncomputable def s_l00Src_fields (n : Int) (m : l00Src) : Option ((List Int) × l00Src) :=
  (Loop (s_l00Src_fields_1_s n) (([] : List Int), (0 : Int), m.code, m.at_, m.seed)).bind fun e_ =>
  some (e_.1, (l00Src.mk e_.2.2.2.1 e_.2.2.2.2.1 e_.2.2.2.2.2))
theorem s_l00Src_fields_c {n m r} (h : s_l00Src_fields n m = some r) : Call tab ow 62 [.ptr 0 0 0 1, I n] [⟨3, true, [[sl eU8 m.code, I m.at_, I m.seed]]⟩] = some (sl eI r.1, [⟨3, true, [[sl eU8 r.2.code, I r.2.at_, I r.2.seed]]⟩]) := by
  rw [Call_run (af := a_s_l00Src_fields) rfl]
  unfold s_l00Src_fields at h
  simp +decide only [a_s_l00Src_fields, b_s_l00Src_fields, go_sem, reduceIte, Nat.reduceAdd]
  have d1 := @s_l00Src_fields_1_l
  all_goals exact go
end
noncomputable def s_NumbersOf (code : (List UInt8)) (n : Int) : Option ((List Int)) :=
  (s_l00Source code).bind fun r_ =>
  (s_l00Src_fields n r_).bind fun r_2 =>
  some r_2.1
theorem s_NumbersOf_c {code n r} (h : s_NumbersOf code n = some r) : Call tab ow 11 [sl eU8 code, I n] [] = some (sl eI r, []) := by
  rw [Call_run (af := a_s_NumbersOf) rfl]
  unfold s_NumbersOf at h
  simp +decide only [a_s_NumbersOf, b_s_NumbersOf, go_sem, reduceIte, Nat.reduceAdd]
  have d1 := @s_l00Source_c
  have d2 := @s_l00Src_fields_c
  all_goals exact go
noncomputable def s_l00Src_pick (list : (List (List UInt8))) (m : l00Src) : Option ((List UInt8) × l00Src) :=
  br (((list.length : Nat) : Int) == (0 : Int)) (
    some ((([] : List UInt8)), m)) (
    (s_l00Src_next ((list.length : Nat) : Int) m).bind fun r_ =>
    (atL list r_.1).bind fun x =>
    some (x, r_.2))
theorem s_l00Src_pick_c {list m r} (h : s_l00Src_pick list m = some r) : Call tab ow 153 [.ptr 0 0 0 1, sl eS list] [⟨3, true, [[sl eU8 m.code, I m.at_, I m.seed]]⟩] = some (S r.1, [⟨3, true, [[sl eU8 r.2.code, I r.2.at_, I r.2.seed]]⟩]) := by
  rw [Call_run (af := a_s_l00Src_pick) rfl]
  unfold s_l00Src_pick at h
  simp +decide only [a_s_l00Src_pick, b_s_l00Src_pick, go_sem, reduceIte, Nat.reduceAdd]
  have d1 := @s_l00Src_next_c
  all_goals exact go
noncomputable def s_l03Lanes_1_s (m : List Int) (t2 : List UInt8) : (List Int) × Int → Option (((List Int) × Int) ⊕ (((List Int) × Int × Bool)))
  | (m2, i) =>
    br (decide (i < ((t2.length : Nat) : Int))) (
      br (decide (0 ≤ (IntKind.wrap .i64 (i.tdiv (8 : Int)))) && decide ((IntKind.wrap .i64 (i.tdiv (8 : Int))).toNat < 25)) (
        (m2[(IntKind.wrap .i64 (i.tdiv (8 : Int))).toNat]?).bind fun x =>
        (atL t2 i).bind fun c =>
        br (decide (0 ≤ (IntKind.wrap .u64 (IntKind.wrap .i64 ((8 : Int) * (i.tmod (8 : Int))))))) (
          br (decide (0 ≤ (IntKind.wrap .i64 (i.tdiv (8 : Int)))) && decide ((IntKind.wrap .i64 (i.tdiv (8 : Int))).toNat < 25)) (
            br (decide ((IntKind.wrap .i64 (i.tdiv (8 : Int))).toNat < m2.length)) (
              some (.inl ((m2.set ((IntKind.wrap .i64 (i.tdiv (8 : Int))).toNat) (or64 .u64 x (shl64 .u64 (IntKind.wrap .u64 (c.toNat : Int)) (IntKind.wrap .u64 (IntKind.wrap .i64 ((8 : Int) * (i.tmod (8 : Int)))))))), (IntKind.wrap .i64 (i + (1 : Int)))))) (
              none)) (
            none)) (
          none)) (
        none)) (
      some (.inr (m2, i, decide (i < ((t2.length : Nat) : Int)))))
@[reducible] def s_l03Lanes_1_S (m : List Int) (t2 : List UInt8) (s : (List Int) × Int) : St := ⟨[(0, S t2), (2, .ptr 1000 0 0 1), (3, .ptr 2001 0 0 1), (4, I s.2)], [(1000, ⟨25, true, [ar .u64 m]⟩), (2001, ⟨25, true, [ar .u64 s.1]⟩)]⟩
@[reducible] def s_l03Lanes_1_E (m : List Int) (t2 : List UInt8) : ((List Int) × Int × Bool) → AExit × St := fun e => (.exit 0, ⟨[(0, S t2), (2, .ptr 1000 0 0 1), (3, .ptr 2001 0 0 1), (4, I e.2.1), (9, B e.2.2)], [(1000, ⟨25, true, [ar .u64 m]⟩), (2001, ⟨25, true, [ar .u64 e.1]⟩)]⟩)
theorem s_l03Lanes_1_l {m t2 s e} (h : Loop (s_l03Lanes_1_s m t2) s = some e) : LoopX tab ow (.close []) b_s_l03Lanes_3 (s_l03Lanes_1_S m t2 s) = some (s_l03Lanes_1_E m t2 e) := by
  refine lrG (fun s o h => ?_) h
  obtain ⟨_, _⟩ := s
  simp only [s_l03Lanes_1_s] at h
  simp +decide only [s_l03Lanes_1_S, s_l03Lanes_1_E, b_s_l03Lanes_3, go_sem, reduceIte, Nat.reduceAdd]
  all_goals exact go
noncomputable def s_l03Lanes (t : (List UInt8)) : Option ((List Int)) :=
  (Loop (s_l03Lanes_1_s (nZ 25) t) ((nZ 25), (0 : Int))).bind fun e_ =>
  br (decide (e_.1.length = 25)) (
    br (decide (e_.1.length = 25)) (
      br (decide (e_.1.length = 25)) (
        some e_.1) (
        none)) (
      none)) (
    none)
theorem s_l03Lanes_c {t r} (h : s_l03Lanes t = some r) : Call tab ow 286 [S t] [] = some (.agg (ar .u64 r), []) := by
  rw [Call_run (af := a_s_l03Lanes) rfl]
  unfold s_l03Lanes at h
  simp +decide only [a_s_l03Lanes, b_s_l03Lanes, go_sem, reduceIte, Nat.reduceAdd]
  have d1 := @s_l03Lanes_1_l
  all_goals exact go
noncomputable def s_l03Rounds : Option ((List Int)) :=
  some ([1, 32898, 9223372036854808714, 9223372039002292224, 32907, 2147483649, 9223372039002292353, 9223372036854808585, 138, 136, 2147516425, 2147483658, 2147516555, 9223372036854775947, 9223372036854808713, 9223372036854808579, 9223372036854808578, 9223372036854775936, 32778, 9223372039002259466, 9223372039002292353, 9223372036854808704, 2147483649, 9223372039002292232] : List Int)
theorem s_l03Rounds_c {r} (h : s_l03Rounds = some r) : Call tab ow 303 [] [] = some (.agg (ar .u64 r), []) := by
  rw [Call_run (af := a_s_l03Rounds) rfl]
  unfold s_l03Rounds at h
  simp +decide only [a_s_l03Rounds, b_s_l03Rounds, go_sem, reduceIte, Nat.reduceAdd]
  all_goals exact go
noncomputable def s_l03Shifts : Option ((List Int)) :=
  some ([0, 1, 62, 28, 27, 36, 44, 6, 55, 20, 3, 10, 43, 25, 39, 41, 45, 15, 21, 8, 18, 2, 61, 56, 14] : List Int)
theorem s_l03Shifts_c {r} (h : s_l03Shifts = some r) : Call tab ow 304 [] [] = some (.agg (ar .u64 r), []) := by
  rw [Call_run (af := a_s_l03Shifts) rfl]
  unfold s_l03Shifts at h
  simp +decide only [a_s_l03Shifts, b_s_l03Shifts, go_sem, reduceIte, Nat.reduceAdd]
  all_goals exact go
noncomputable def s_l03Turn (x : Int) (n : Int) : Option (Int) :=
  br (n == (0 : Int)) (
    some x) (
    br (decide (0 ≤ n)) (
      br (decide (0 ≤ (IntKind.wrap .u64 ((64 : Int) - n)))) (
        some (or64 .u64 (shl64 .u64 x n) (shr64 .u64 x (IntKind.wrap .u64 ((64 : Int) - n))))) (
        none)) (
      none))
theorem s_l03Turn_c {x n r} (h : s_l03Turn x n = some r) : Call tab ow 305 [.lit (.int .u64 x), .lit (.int .u64 n)] [] = some (.lit (.int .u64 r), []) := by
  rw [Call_run (af := a_s_l03Turn) rfl]
  unfold s_l03Turn at h
  simp +decide only [a_s_l03Turn, b_s_l03Turn, go_sem, reduceIte, Nat.reduceAdd]
  all_goals exact go
noncomputable def s_l03Permute_2_s (m5 : List Int) (m6 : List Int) (m7 : List Int) (m8 : List Int) (t2 : Int) : (List Int) × Int → Option (((List Int) × Int) ⊕ (((List Int) × Int × Bool)))
  | (m9, t3) =>
    br (decide (t3 < (5 : Int))) (
      br (decide (0 ≤ t3) && decide (t3.toNat < 25)) (
        (m5[t3.toNat]?).bind fun x =>
        br (decide (0 ≤ (IntKind.wrap .i64 (t3 + (5 : Int)))) && decide ((IntKind.wrap .i64 (t3 + (5 : Int))).toNat < 25)) (
          (m5[(IntKind.wrap .i64 (t3 + (5 : Int))).toNat]?).bind fun x2 =>
          br (decide (0 ≤ (IntKind.wrap .i64 (t3 + (10 : Int)))) && decide ((IntKind.wrap .i64 (t3 + (10 : Int))).toNat < 25)) (
            (m5[(IntKind.wrap .i64 (t3 + (10 : Int))).toNat]?).bind fun x3 =>
            br (decide (0 ≤ (IntKind.wrap .i64 (t3 + (15 : Int)))) && decide ((IntKind.wrap .i64 (t3 + (15 : Int))).toNat < 25)) (
              (m5[(IntKind.wrap .i64 (t3 + (15 : Int))).toNat]?).bind fun x4 =>
              br (decide (0 ≤ (IntKind.wrap .i64 (t3 + (20 : Int)))) && decide ((IntKind.wrap .i64 (t3 + (20 : Int))).toNat < 25)) (
                (m5[(IntKind.wrap .i64 (t3 + (20 : Int))).toNat]?).bind fun x5 =>
                br (decide (0 ≤ t3) && decide (t3.toNat < 5)) (
                  br (decide (t3.toNat < m9.length)) (
                    some (.inl ((m9.set t3.toNat (xor64 .u64 (xor64 .u64 (xor64 .u64 (xor64 .u64 x x2) x3) x4) x5)), (IntKind.wrap .i64 (t3 + (1 : Int)))))) (
                    none)) (
                  none)) (
                none)) (
              none)) (
            none)) (
          none)) (
        none)) (
      some (.inr (m9, t3, decide (t3 < (5 : Int)))))
@[reducible] def s_l03Permute_2_S (m5 : List Int) (m6 : List Int) (m7 : List Int) (m8 : List Int) (t2 : Int) (s : (List Int) × Int) : St := ⟨[(1, .ptr 1000 0 0 1), (2, .ptr 1001 0 0 1), (3, .ptr 2001 0 0 1), (4, .ptr 3001 0 0 1), (5, I t2), (6, .ptr 7001 0 0 1), (7, I s.2)], [(1000, ⟨25, true, [ar .u64 m5]⟩), (1001, ⟨25, true, [ar .u64 m6]⟩), (2001, ⟨24, true, [ar .u64 m7]⟩), (3001, ⟨25, true, [ar .u64 m8]⟩), (7001, ⟨5, true, [ar .u64 s.1]⟩)]⟩
@[reducible] def s_l03Permute_2_E (m5 : List Int) (m6 : List Int) (m7 : List Int) (m8 : List Int) (t2 : Int) : ((List Int) × Int × Bool) → AExit × St := fun e => (.exit 2, ⟨[(1, .ptr 1000 0 0 1), (2, .ptr 1001 0 0 1), (3, .ptr 2001 0 0 1), (4, .ptr 3001 0 0 1), (5, I t2), (6, .ptr 7001 0 0 1), (7, I e.2.1), (22, B e.2.2)], [(1000, ⟨25, true, [ar .u64 m5]⟩), (1001, ⟨25, true, [ar .u64 m6]⟩), (2001, ⟨24, true, [ar .u64 m7]⟩), (3001, ⟨25, true, [ar .u64 m8]⟩), (7001, ⟨5, true, [ar .u64 e.1]⟩)]⟩)
theorem s_l03Permute_2_l {m5 m6 m7 m8 t2 s e} (h : Loop (s_l03Permute_2_s m5 m6 m7 m8 t2) s = some e) : LoopX tab ow (.close []) b_s_l03Permute_8 (s_l03Permute_2_S m5 m6 m7 m8 t2 s) = some (s_l03Permute_2_E m5 m6 m7 m8 t2 e) := by
  refine lrG (fun s o h => ?_) h
  obtain ⟨_, _⟩ := s
  simp only [s_l03Permute_2_s] at h
  simp +decide only [s_l03Permute_2_S, s_l03Permute_2_E, b_s_l03Permute_8, go_sem, reduceIte, Nat.reduceAdd]
  all_goals exact go
noncomputable def s_l03Permute_3_s (m11 : List Int) (m12 : List Int) (m13 : List Int) (m14 : List Int) (t4 : Int) : (List Int) × Int → Option (((List Int) × Int) ⊕ (((List Int) × Int × Bool)))
  | (m10, t5) =>
    br (decide (t5 < (25 : Int))) (
      br (decide (0 ≤ t5) && decide (t5.toNat < 25)) (
        (m10[t5.toNat]?).bind fun x6 =>
        br (decide (0 ≤ ((IntKind.wrap .i64 (t5 + (4 : Int))).tmod (5 : Int))) && decide (((IntKind.wrap .i64 (t5 + (4 : Int))).tmod (5 : Int)).toNat < 5)) (
          (m14[((IntKind.wrap .i64 (t5 + (4 : Int))).tmod (5 : Int)).toNat]?).bind fun x7 =>
          br (decide (0 ≤ ((IntKind.wrap .i64 (t5 + (1 : Int))).tmod (5 : Int))) && decide (((IntKind.wrap .i64 (t5 + (1 : Int))).tmod (5 : Int)).toNat < 5)) (
            (m14[((IntKind.wrap .i64 (t5 + (1 : Int))).tmod (5 : Int)).toNat]?).bind fun x8 =>
            (s_l03Turn x8 (1 : Int)).bind fun r_3 =>
            br (decide (0 ≤ t5) && decide (t5.toNat < 25)) (
              br (decide (t5.toNat < m10.length)) (
                some (.inl ((m10.set t5.toNat (xor64 .u64 x6 (xor64 .u64 x7 r_3))), (IntKind.wrap .i64 (t5 + (1 : Int)))))) (
                none)) (
              none)) (
            none)) (
          none)) (
        none)) (
      some (.inr (m10, t5, decide (t5 < (25 : Int)))))
@[reducible] def s_l03Permute_3_S (m11 : List Int) (m12 : List Int) (m13 : List Int) (m14 : List Int) (t4 : Int) (s : (List Int) × Int) : St := ⟨[(1, .ptr 1000 0 0 1), (2, .ptr 1001 0 0 1), (3, .ptr 2001 0 0 1), (4, .ptr 3001 0 0 1), (5, I t4), (6, .ptr 7001 0 0 1), (8, I s.2)], [(1000, ⟨25, true, [ar .u64 s.1]⟩), (1001, ⟨25, true, [ar .u64 m11]⟩), (2001, ⟨24, true, [ar .u64 m12]⟩), (3001, ⟨25, true, [ar .u64 m13]⟩), (7001, ⟨5, true, [ar .u64 m14]⟩)]⟩
@[reducible] def s_l03Permute_3_E (m11 : List Int) (m12 : List Int) (m13 : List Int) (m14 : List Int) (t4 : Int) : ((List Int) × Int × Bool) → AExit × St := fun e => (.exit 4, ⟨[(1, .ptr 1000 0 0 1), (2, .ptr 1001 0 0 1), (3, .ptr 2001 0 0 1), (4, .ptr 3001 0 0 1), (5, I t4), (6, .ptr 7001 0 0 1), (8, I e.2.1), (51, B e.2.2)], [(1000, ⟨25, true, [ar .u64 e.1]⟩), (1001, ⟨25, true, [ar .u64 m11]⟩), (2001, ⟨24, true, [ar .u64 m12]⟩), (3001, ⟨25, true, [ar .u64 m13]⟩), (7001, ⟨5, true, [ar .u64 m14]⟩)]⟩)
theorem s_l03Permute_3_l {m11 m12 m13 m14 t4 s e} (h : Loop (s_l03Permute_3_s m11 m12 m13 m14 t4) s = some e) : LoopX tab ow (.close [15013]) b_s_l03Permute_12 (s_l03Permute_3_S m11 m12 m13 m14 t4 s) = some (s_l03Permute_3_E m11 m12 m13 m14 t4 e) := by
  refine lrG (fun s o h => ?_) h
  obtain ⟨_, _⟩ := s
  simp only [s_l03Permute_3_s] at h
  simp +decide only [s_l03Permute_3_S, s_l03Permute_3_E, b_s_l03Permute_12, go_sem, reduceIte, Nat.reduceAdd]
  have d1 := @s_l03Turn_c
  all_goals exact go
noncomputable def s_l03Permute_5_s (m21 : List Int) (m22 : List Int) (m23 : List Int) (m24 : List Int) (m25 : List Int) (t8 : Int) (t9 : Int) : (List Int) × Int → Option (((List Int) × Int) ⊕ (((List Int) × Int × Bool)))
  | (m26, t10) =>
    br (decide (t10 < (5 : Int))) (
      br (decide (0 ≤ (IntKind.wrap .i64 (t9 + (IntKind.wrap .i64 ((5 : Int) * t10))))) && decide ((IntKind.wrap .i64 (t9 + (IntKind.wrap .i64 ((5 : Int) * t10)))).toNat < 25)) (
        (m21[(IntKind.wrap .i64 (t9 + (IntKind.wrap .i64 ((5 : Int) * t10)))).toNat]?).bind fun x9 =>
        br (decide (0 ≤ (IntKind.wrap .i64 (t9 + (IntKind.wrap .i64 ((5 : Int) * t10))))) && decide ((IntKind.wrap .i64 (t9 + (IntKind.wrap .i64 ((5 : Int) * t10)))).toNat < 25)) (
          (m24[(IntKind.wrap .i64 (t9 + (IntKind.wrap .i64 ((5 : Int) * t10)))).toNat]?).bind fun x10 =>
          (s_l03Turn x9 x10).bind fun r_4 =>
          br (decide (0 ≤ (IntKind.wrap .i64 (t10 + (IntKind.wrap .i64 ((5 : Int) * ((IntKind.wrap .i64 ((IntKind.wrap .i64 ((2 : Int) * t9)) + (IntKind.wrap .i64 ((3 : Int) * t10)))).tmod (5 : Int))))))) && decide ((IntKind.wrap .i64 (t10 + (IntKind.wrap .i64 ((5 : Int) * ((IntKind.wrap .i64 ((IntKind.wrap .i64 ((2 : Int) * t9)) + (IntKind.wrap .i64 ((3 : Int) * t10)))).tmod (5 : Int)))))).toNat < 25)) (
            br (decide ((IntKind.wrap .i64 (t10 + (IntKind.wrap .i64 ((5 : Int) * ((IntKind.wrap .i64 ((IntKind.wrap .i64 ((2 : Int) * t9)) + (IntKind.wrap .i64 ((3 : Int) * t10)))).tmod (5 : Int)))))).toNat < m26.length)) (
              some (.inl ((m26.set ((IntKind.wrap .i64 (t10 + (IntKind.wrap .i64 ((5 : Int) * ((IntKind.wrap .i64 ((IntKind.wrap .i64 ((2 : Int) * t9)) + (IntKind.wrap .i64 ((3 : Int) * t10)))).tmod (5 : Int)))))).toNat) r_4), (IntKind.wrap .i64 (t10 + (1 : Int)))))) (
              none)) (
            none)) (
          none)) (
        none)) (
      some (.inr (m26, t10, decide (t10 < (5 : Int)))))
@[reducible] def s_l03Permute_5_S (m21 : List Int) (m22 : List Int) (m23 : List Int) (m24 : List Int) (m25 : List Int) (t8 : Int) (t9 : Int) (s : (List Int) × Int) : St := ⟨[(1, .ptr 1000 0 0 1), (2, .ptr 1001 0 0 1), (3, .ptr 2001 0 0 1), (4, .ptr 3001 0 0 1), (5, I t8), (9, .ptr 16001 0 0 1), (10, I t9), (11, I s.2)], [(1000, ⟨25, true, [ar .u64 m21]⟩), (1001, ⟨25, true, [ar .u64 m22]⟩), (2001, ⟨24, true, [ar .u64 m23]⟩), (3001, ⟨25, true, [ar .u64 m24]⟩), (7001, ⟨5, true, [ar .u64 m25]⟩), (16001, ⟨25, true, [ar .u64 s.1]⟩)]⟩
@[reducible] def s_l03Permute_5_E (m21 : List Int) (m22 : List Int) (m23 : List Int) (m24 : List Int) (m25 : List Int) (t8 : Int) (t9 : Int) : ((List Int) × Int × Bool) → AExit × St := fun e => (.exit 8, ⟨[(1, .ptr 1000 0 0 1), (2, .ptr 1001 0 0 1), (3, .ptr 2001 0 0 1), (4, .ptr 3001 0 0 1), (5, I t8), (9, .ptr 16001 0 0 1), (10, I t9), (11, I e.2.1), (77, B e.2.2)], [(1000, ⟨25, true, [ar .u64 m21]⟩), (1001, ⟨25, true, [ar .u64 m22]⟩), (2001, ⟨24, true, [ar .u64 m23]⟩), (3001, ⟨25, true, [ar .u64 m24]⟩), (7001, ⟨5, true, [ar .u64 m25]⟩), (16001, ⟨25, true, [ar .u64 e.1]⟩)]⟩)
theorem s_l03Permute_5_l {m21 m22 m23 m24 m25 t8 t9 s e} (h : Loop (s_l03Permute_5_s m21 m22 m23 m24 m25 t8 t9) s = some e) : LoopX tab ow (.close [23021]) b_s_l03Permute_20 (s_l03Permute_5_S m21 m22 m23 m24 m25 t8 t9 s) = some (s_l03Permute_5_E m21 m22 m23 m24 m25 t8 t9 e) := by
  refine lrG (fun s o h => ?_) h
  obtain ⟨_, _⟩ := s
  simp only [s_l03Permute_5_s] at h
  simp +decide only [s_l03Permute_5_S, s_l03Permute_5_E, b_s_l03Permute_20, go_sem, reduceIte, Nat.reduceAdd]
  have d1 := @s_l03Turn_c
  all_goals exact go
noncomputable def s_l03Permute_4_s (m15 : List Int) (m16 : List Int) (m17 : List Int) (m18 : List Int) (m19 : List Int) (t6 : Int) : (List Int) × Int → Option (((List Int) × Int) ⊕ (((List Int) × Int × Bool)))
  | (m20, t7) =>
    br (decide (t7 < (5 : Int))) (
      (Loop (s_l03Permute_5_s m15 m16 m17 m18 m19 t6 t7) (m20, (0 : Int))).bind fun e_3 =>
      some (.inl (e_3.1, (IntKind.wrap .i64 (t7 + (1 : Int)))))) (
      some (.inr (m20, t7, decide (t7 < (5 : Int)))))
@[reducible] def s_l03Permute_4_S (m15 : List Int) (m16 : List Int) (m17 : List Int) (m18 : List Int) (m19 : List Int) (t6 : Int) (s : (List Int) × Int) : St := ⟨[(1, .ptr 1000 0 0 1), (2, .ptr 1001 0 0 1), (3, .ptr 2001 0 0 1), (4, .ptr 3001 0 0 1), (5, I t6), (9, .ptr 16001 0 0 1), (10, I s.2)], [(1000, ⟨25, true, [ar .u64 m15]⟩), (1001, ⟨25, true, [ar .u64 m16]⟩), (2001, ⟨24, true, [ar .u64 m17]⟩), (3001, ⟨25, true, [ar .u64 m18]⟩), (7001, ⟨5, true, [ar .u64 m19]⟩), (16001, ⟨25, true, [ar .u64 s.1]⟩)]⟩
@[reducible] def s_l03Permute_4_E (m15 : List Int) (m16 : List Int) (m17 : List Int) (m18 : List Int) (m19 : List Int) (t6 : Int) : ((List Int) × Int × Bool) → AExit × St := fun e => (.exit 6, ⟨[(1, .ptr 1000 0 0 1), (2, .ptr 1001 0 0 1), (3, .ptr 2001 0 0 1), (4, .ptr 3001 0 0 1), (5, I t6), (9, .ptr 16001 0 0 1), (10, I e.2.1), (73, B e.2.2)], [(1000, ⟨25, true, [ar .u64 m15]⟩), (1001, ⟨25, true, [ar .u64 m16]⟩), (2001, ⟨24, true, [ar .u64 m17]⟩), (3001, ⟨25, true, [ar .u64 m18]⟩), (7001, ⟨5, true, [ar .u64 m19]⟩), (16001, ⟨25, true, [ar .u64 e.1]⟩)]⟩)
theorem s_l03Permute_4_l {m15 m16 m17 m18 m19 t6 s e} (h : Loop (s_l03Permute_4_s m15 m16 m17 m18 m19 t6) s = some e) : LoopX tab ow (.close [23021]) b_s_l03Permute_17 (s_l03Permute_4_S m15 m16 m17 m18 m19 t6 s) = some (s_l03Permute_4_E m15 m16 m17 m18 m19 t6 e) := by
  refine lrG (fun s o h => ?_) h
  obtain ⟨_, _⟩ := s
  simp only [s_l03Permute_4_s] at h
  simp +decide only [s_l03Permute_4_S, s_l03Permute_4_E, b_s_l03Permute_17, go_sem, reduceIte, Nat.reduceAdd]
  have d1 := @s_l03Permute_5_l
  all_goals exact go
noncomputable def s_l03Permute_7_s (m34 : List Int) (m35 : List Int) (m36 : List Int) (m37 : List Int) (m38 : List Int) (t13 : Int) (t14 : Int) : (List Int) × Int → Option (((List Int) × Int) ⊕ (((List Int) × Int × Bool)))
  | (m33, t15) =>
    br (decide (t15 < (5 : Int))) (
      br (decide (0 ≤ (IntKind.wrap .i64 (t14 + (IntKind.wrap .i64 ((5 : Int) * t15))))) && decide ((IntKind.wrap .i64 (t14 + (IntKind.wrap .i64 ((5 : Int) * t15)))).toNat < 25)) (
        (m38[(IntKind.wrap .i64 (t14 + (IntKind.wrap .i64 ((5 : Int) * t15)))).toNat]?).bind fun x11 =>
        br (decide (0 ≤ (IntKind.wrap .i64 (((IntKind.wrap .i64 (t14 + (1 : Int))).tmod (5 : Int)) + (IntKind.wrap .i64 ((5 : Int) * t15))))) && decide ((IntKind.wrap .i64 (((IntKind.wrap .i64 (t14 + (1 : Int))).tmod (5 : Int)) + (IntKind.wrap .i64 ((5 : Int) * t15)))).toNat < 25)) (
          (m38[(IntKind.wrap .i64 (((IntKind.wrap .i64 (t14 + (1 : Int))).tmod (5 : Int)) + (IntKind.wrap .i64 ((5 : Int) * t15)))).toNat]?).bind fun x12 =>
          br (decide (0 ≤ (IntKind.wrap .i64 (((IntKind.wrap .i64 (t14 + (2 : Int))).tmod (5 : Int)) + (IntKind.wrap .i64 ((5 : Int) * t15))))) && decide ((IntKind.wrap .i64 (((IntKind.wrap .i64 (t14 + (2 : Int))).tmod (5 : Int)) + (IntKind.wrap .i64 ((5 : Int) * t15)))).toNat < 25)) (
            (m38[(IntKind.wrap .i64 (((IntKind.wrap .i64 (t14 + (2 : Int))).tmod (5 : Int)) + (IntKind.wrap .i64 ((5 : Int) * t15)))).toNat]?).bind fun x13 =>
            br (decide (0 ≤ (IntKind.wrap .i64 (t14 + (IntKind.wrap .i64 ((5 : Int) * t15))))) && decide ((IntKind.wrap .i64 (t14 + (IntKind.wrap .i64 ((5 : Int) * t15)))).toNat < 25)) (
              br (decide ((IntKind.wrap .i64 (t14 + (IntKind.wrap .i64 ((5 : Int) * t15)))).toNat < m33.length)) (
                some (.inl ((m33.set ((IntKind.wrap .i64 (t14 + (IntKind.wrap .i64 ((5 : Int) * t15)))).toNat) (xor64 .u64 x11 (and64 .u64 (not64 .u64 x12) x13))), (IntKind.wrap .i64 (t15 + (1 : Int)))))) (
                none)) (
              none)) (
            none)) (
          none)) (
        none)) (
      some (.inr (m33, t15, decide (t15 < (5 : Int)))))
@[reducible] def s_l03Permute_7_S (m34 : List Int) (m35 : List Int) (m36 : List Int) (m37 : List Int) (m38 : List Int) (t13 : Int) (t14 : Int) (s : (List Int) × Int) : St := ⟨[(1, .ptr 1000 0 0 1), (2, .ptr 1001 0 0 1), (3, .ptr 2001 0 0 1), (4, .ptr 3001 0 0 1), (5, I t13), (9, .ptr 16001 0 0 1), (12, I t14), (13, I s.2)], [(1000, ⟨25, true, [ar .u64 s.1]⟩), (1001, ⟨25, true, [ar .u64 m34]⟩), (2001, ⟨24, true, [ar .u64 m35]⟩), (3001, ⟨25, true, [ar .u64 m36]⟩), (7001, ⟨5, true, [ar .u64 m37]⟩), (16001, ⟨25, true, [ar .u64 m38]⟩)]⟩
@[reducible] def s_l03Permute_7_E (m34 : List Int) (m35 : List Int) (m36 : List Int) (m37 : List Int) (m38 : List Int) (t13 : Int) (t14 : Int) : ((List Int) × Int × Bool) → AExit × St := fun e => (.exit 12, ⟨[(1, .ptr 1000 0 0 1), (2, .ptr 1001 0 0 1), (3, .ptr 2001 0 0 1), (4, .ptr 3001 0 0 1), (5, I t13), (9, .ptr 16001 0 0 1), (12, I t14), (13, I e.2.1), (108, B e.2.2)], [(1000, ⟨25, true, [ar .u64 e.1]⟩), (1001, ⟨25, true, [ar .u64 m34]⟩), (2001, ⟨24, true, [ar .u64 m35]⟩), (3001, ⟨25, true, [ar .u64 m36]⟩), (7001, ⟨5, true, [ar .u64 m37]⟩), (16001, ⟨25, true, [ar .u64 m38]⟩)]⟩)
theorem s_l03Permute_7_l {m34 m35 m36 m37 m38 t13 t14 s e} (h : Loop (s_l03Permute_7_s m34 m35 m36 m37 m38 t13 t14) s = some e) : LoopX tab ow (.close []) b_s_l03Permute_27 (s_l03Permute_7_S m34 m35 m36 m37 m38 t13 t14 s) = some (s_l03Permute_7_E m34 m35 m36 m37 m38 t13 t14 e) := by
  refine lrG (fun s o h => ?_) h
  obtain ⟨_, _⟩ := s
  simp only [s_l03Permute_7_s] at h
  simp +decide only [s_l03Permute_7_S, s_l03Permute_7_E, b_s_l03Permute_27, go_sem, reduceIte, Nat.reduceAdd]
  all_goals exact go
noncomputable def s_l03Permute_6_s (m28 : List Int) (m29 : List Int) (m30 : List Int) (m31 : List Int) (m32 : List Int) (t11 : Int) : (List Int) × Int → Option (((List Int) × Int) ⊕ (((List Int) × Int × Bool)))
  | (m27, t12) =>
    br (decide (t12 < (5 : Int))) (
      (Loop (s_l03Permute_7_s m28 m29 m30 m31 m32 t11 t12) (m27, (0 : Int))).bind fun e_5 =>
      some (.inl (e_5.1, (IntKind.wrap .i64 (t12 + (1 : Int)))))) (
      some (.inr (m27, t12, decide (t12 < (5 : Int)))))
@[reducible] def s_l03Permute_6_S (m28 : List Int) (m29 : List Int) (m30 : List Int) (m31 : List Int) (m32 : List Int) (t11 : Int) (s : (List Int) × Int) : St := ⟨[(1, .ptr 1000 0 0 1), (2, .ptr 1001 0 0 1), (3, .ptr 2001 0 0 1), (4, .ptr 3001 0 0 1), (5, I t11), (9, .ptr 16001 0 0 1), (12, I s.2)], [(1000, ⟨25, true, [ar .u64 s.1]⟩), (1001, ⟨25, true, [ar .u64 m28]⟩), (2001, ⟨24, true, [ar .u64 m29]⟩), (3001, ⟨25, true, [ar .u64 m30]⟩), (7001, ⟨5, true, [ar .u64 m31]⟩), (16001, ⟨25, true, [ar .u64 m32]⟩)]⟩
@[reducible] def s_l03Permute_6_E (m28 : List Int) (m29 : List Int) (m30 : List Int) (m31 : List Int) (m32 : List Int) (t11 : Int) : ((List Int) × Int × Bool) → AExit × St := fun e => (.exit 10, ⟨[(1, .ptr 1000 0 0 1), (2, .ptr 1001 0 0 1), (3, .ptr 2001 0 0 1), (4, .ptr 3001 0 0 1), (5, I t11), (9, .ptr 16001 0 0 1), (12, I e.2.1), (104, B e.2.2)], [(1000, ⟨25, true, [ar .u64 e.1]⟩), (1001, ⟨25, true, [ar .u64 m28]⟩), (2001, ⟨24, true, [ar .u64 m29]⟩), (3001, ⟨25, true, [ar .u64 m30]⟩), (7001, ⟨5, true, [ar .u64 m31]⟩), (16001, ⟨25, true, [ar .u64 m32]⟩)]⟩)
theorem s_l03Permute_6_l {m28 m29 m30 m31 m32 t11 s e} (h : Loop (s_l03Permute_6_s m28 m29 m30 m31 m32 t11) s = some e) : LoopX tab ow (.close []) b_s_l03Permute_24 (s_l03Permute_6_S m28 m29 m30 m31 m32 t11 s) = some (s_l03Permute_6_E m28 m29 m30 m31 m32 t11 e) := by
  refine lrG (fun s o h => ?_) h
  obtain ⟨_, _⟩ := s
  simp only [s_l03Permute_6_s] at h
  simp +decide only [s_l03Permute_6_S, s_l03Permute_6_E, b_s_l03Permute_24, go_sem, reduceIte, Nat.reduceAdd]
  have d1 := @s_l03Permute_7_l
  all_goals exact go
noncomputable def s_l03Permute_1_s (m2 : List Int) (m3 : List Int) (m4 : List Int) : (List Int) × Int → Option (((List Int) × Int) ⊕ (((List Int) × Int × Bool)))
  | (m, t) =>
    br (decide (t < (24 : Int))) (
      (Loop (s_l03Permute_2_s m m2 m3 m4 t) ((nZ 5), (0 : Int))).bind fun e_ =>
      (Loop (s_l03Permute_3_s m2 m3 m4 e_.1 t) (m, (0 : Int))).bind fun e_2 =>
      (Loop (s_l03Permute_4_s e_2.1 m2 m3 m4 e_.1 t) ((nZ 25), (0 : Int))).bind fun e_4 =>
      (Loop (s_l03Permute_6_s m2 m3 m4 e_.1 e_4.1 t) (e_2.1, (0 : Int))).bind fun e_6 =>
      (e_6.1[0]?).bind fun x14 =>
      br (decide (0 ≤ t) && decide (t.toNat < 24)) (
        (m3[t.toNat]?).bind fun x15 =>
        br (decide (0 < e_6.1.length)) (
          some (.inl ((e_6.1.set 0 (xor64 .u64 x14 x15)), (IntKind.wrap .i64 (t + (1 : Int)))))) (
          none)) (
        none)) (
      some (.inr (m, t, decide (t < (24 : Int)))))
@[reducible] def s_l03Permute_1_S (m2 : List Int) (m3 : List Int) (m4 : List Int) (s : (List Int) × Int) : St := ⟨[(1, .ptr 1000 0 0 1), (2, .ptr 1001 0 0 1), (3, .ptr 2001 0 0 1), (4, .ptr 3001 0 0 1), (5, I s.2)], [(1000, ⟨25, true, [ar .u64 s.1]⟩), (1001, ⟨25, true, [ar .u64 m2]⟩), (2001, ⟨24, true, [ar .u64 m3]⟩), (3001, ⟨25, true, [ar .u64 m4]⟩)]⟩
@[reducible] def s_l03Permute_1_E (m2 : List Int) (m3 : List Int) (m4 : List Int) : ((List Int) × Int × Bool) → AExit × St := fun e => (.exit 0, ⟨[(1, .ptr 1000 0 0 1), (2, .ptr 1001 0 0 1), (3, .ptr 2001 0 0 1), (4, .ptr 3001 0 0 1), (5, I e.2.1), (17, B e.2.2)], [(1000, ⟨25, true, [ar .u64 e.1]⟩), (1001, ⟨25, true, [ar .u64 m2]⟩), (2001, ⟨24, true, [ar .u64 m3]⟩), (3001, ⟨25, true, [ar .u64 m4]⟩)]⟩)
theorem s_l03Permute_1_l {m2 m3 m4 s e} (h : Loop (s_l03Permute_1_s m2 m3 m4) s = some e) : LoopX tab ow (.close [7001,15013,16001,23021]) b_s_l03Permute_4 (s_l03Permute_1_S m2 m3 m4 s) = some (s_l03Permute_1_E m2 m3 m4 e) := by
  refine lrG (fun s o h => ?_) h
  obtain ⟨_, _⟩ := s
  simp only [s_l03Permute_1_s] at h
  simp +decide only [s_l03Permute_1_S, s_l03Permute_1_E, b_s_l03Permute_4, go_sem, reduceIte, Nat.reduceAdd]
  have d1 := @s_l03Permute_2_l
  have d2 := @s_l03Permute_3_l
  have d3 := @s_l03Permute_4_l
  have d4 := @s_l03Permute_6_l
  all_goals exact go
noncomputable def s_l03Permute (ListtoArray : (List Int)) : Option ((List Int)) :=
  br (decide (ListtoArray.length = 25)) (
    (s_l03Rounds).bind fun r_ =>
    br (decide (r_.length = 24)) (
      (s_l03Shifts).bind fun r_2 =>
      br (decide (r_2.length = 25)) (
        (Loop (s_l03Permute_1_s (nZ 25) r_ r_2) (ListtoArray, (0 : Int))).bind fun e_7 =>
        br (decide (e_7.1.length = 25)) (
          br (decide (e_7.1.length = 25)) (
            br (decide (e_7.1.length = 25)) (
              some e_7.1) (
              none)) (
            none)) (
          none)) (
        none)) (
      none)) (
    none)
theorem s_l03Permute_c {ListtoArray r} (h : s_l03Permute ListtoArray = some r) : Call tab ow 287 [.agg (ar .u64 ListtoArray)] [] = some (.agg (ar .u64 r), []) := by
  rw [Call_run (af := a_s_l03Permute) rfl]
  unfold s_l03Permute at h
  simp +decide only [a_s_l03Permute, b_s_l03Permute, go_sem, reduceIte, Nat.reduceAdd]
  have d1 := @s_l03Rounds_c
  have d2 := @s_l03Shifts_c
  have d3 := @s_l03Permute_1_l
  all_goals exact go
section
theorem s_l03Text_k0 : mkR 2000 [] = rws eU8 [] := rfl
attribute [local go_sem] s_l03Text_k0
theorem s_l03Text_k1 : mkR 6011 [] = rws eU8 [] := rfl
attribute [local go_sem] s_l03Text_k1
noncomputable def s_l03Text_1_s (m : List Int) (n2 : Int) : (List UInt8) × Int → Option (((List UInt8) × Int) ⊕ (((List UInt8) × Int × Bool)))
  | (l, i) =>
    br (decide (i < n2)) (
      br (decide (0 ≤ (IntKind.wrap .i64 (i.tdiv (8 : Int)))) && decide ((IntKind.wrap .i64 (i.tdiv (8 : Int))).toNat < 25)) (
        (m[(IntKind.wrap .i64 (i.tdiv (8 : Int))).toNat]?).bind fun x =>
        br (decide (0 ≤ (IntKind.wrap .u64 (IntKind.wrap .i64 ((8 : Int) * (i.tmod (8 : Int))))))) (
          br (fits ((l ++ ([(UInt8.ofInt (shr64 .u64 x (IntKind.wrap .u64 (IntKind.wrap .i64 ((8 : Int) * (i.tmod (8 : Int)))))))] : List UInt8)).length) 1) (
            some (.inl ((l ++ ([(UInt8.ofInt (shr64 .u64 x (IntKind.wrap .u64 (IntKind.wrap .i64 ((8 : Int) * (i.tmod (8 : Int)))))))] : List UInt8)), (IntKind.wrap .i64 (i + (1 : Int)))))) (
            none)) (
          none)) (
        none)) (
      some (.inr (l, i, decide (i < n2))))
@[reducible] def s_l03Text_1_S (m : List Int) (n2 : Int) (s : (List UInt8) × Int) : St := ⟨[(1, I n2), (2, .ptr 1000 0 0 1), (5, .sl 2000 0 s.1.length), (6, I s.2)], [(1000, ⟨25, true, [ar .u64 m]⟩), (2000, ⟨1, false, rws eU8 s.1⟩)]⟩
@[reducible] def s_l03Text_1_E (m : List Int) (n2 : Int) : ((List UInt8) × Int × Bool) → AExit × St := fun e => (.exit 0, ⟨[(1, I n2), (2, .ptr 1000 0 0 1), (5, .sl 2000 0 e.1.length), (6, I e.2.1), (10, B e.2.2)], [(1000, ⟨25, true, [ar .u64 m]⟩), (2000, ⟨1, false, rws eU8 e.1⟩)]⟩)
theorem s_l03Text_1_l {m n2 s e} (h : Loop (s_l03Text_1_s m n2) s = some e) : LoopX tab ow (.close [6011,6012]) b_s_l03Text_3 (s_l03Text_1_S m n2 s) = some (s_l03Text_1_E m n2 e) := by
  refine lrG (fun s o h => ?_) h
  obtain ⟨_, _⟩ := s
  simp only [s_l03Text_1_s] at h
  simp +decide only [s_l03Text_1_S, s_l03Text_1_E, b_s_l03Text_3, go_sem, reduceIte, Nat.reduceAdd]
  all_goals exact go
noncomputable def s_l03Text (a : (List Int)) (n : Int) : Option ((List UInt8)) :=
  br (decide (a.length = 25)) (
    (Loop (s_l03Text_1_s a n) (([] : List UInt8), (0 : Int))).bind fun e_ =>
    some e_.1) (
    none)
theorem s_l03Text_c {a n r} (h : s_l03Text a n = some r) : Call tab ow 288 [.agg (ar .u64 a), I n] [] = some (S r, []) := by
  rw [Call_run (af := a_s_l03Text) rfl]
  unfold s_l03Text at h
  simp +decide only [a_s_l03Text, b_s_l03Text, go_sem, reduceIte, Nat.reduceAdd]
  have d1 := @s_l03Text_1_l
  all_goals exact go
end
section
theorem s_l03Hash_k0 : mkR 2002 [] = rws eU8 [] := rfl
attribute [local go_sem] s_l03Hash_k0
theorem s_l03Hash_k1 : mkR 4001 [] = rws eU8 [] := rfl
attribute [local go_sem] s_l03Hash_k1
noncomputable def s_l03Hash_1_s (l2 : List UInt8) : (List UInt8) → Option (((List UInt8)) ⊕ (((List UInt8) × Bool)))
  | l =>
    br ((((l.length : Nat) : Int).tmod (136 : Int)) != (0 : Int)) (
      br (fits ((l ++ ([(0 : UInt8)] : List UInt8)).length) 1) (
        some (.inl (l ++ ([(0 : UInt8)] : List UInt8)))) (
        none)) (
      some (.inr (l, ((((l.length : Nat) : Int).tmod (136 : Int)) != (0 : Int)))))
@[reducible] def s_l03Hash_1_S (l2 : List UInt8) (s : (List UInt8)) : St := ⟨[(3, .sl 2001 0 s.length)], [(2001, ⟨1, false, rws eU8 s⟩), (2002, ⟨1, false, rws eU8 l2⟩)]⟩
@[reducible] def s_l03Hash_1_E (l2 : List UInt8) : ((List UInt8) × Bool) → AExit × St := fun e => (.exit 0, ⟨[(3, .sl 2001 0 e.1.length), (15, B e.2)], [(2001, ⟨1, false, rws eU8 e.1⟩), (2002, ⟨1, false, rws eU8 l2⟩)]⟩)
theorem s_l03Hash_1_l {l2 s e} (h : Loop (s_l03Hash_1_s l2) s = some e) : LoopX tab ow (.close [4001,4002]) b_s_l03Hash_2 (s_l03Hash_1_S l2 s) = some (s_l03Hash_1_E l2 e) := by
  refine lrG (fun s o h => ?_) h
  simp only [s_l03Hash_1_s] at h
  simp +decide only [s_l03Hash_1_S, s_l03Hash_1_E, b_s_l03Hash_2, go_sem, reduceIte, Nat.reduceAdd]
  all_goals exact go
noncomputable def s_l03Hash_3_s (l4 : List UInt8) (m4 : List Int) (m5 : List UInt8) (at_2 : Int) : (List Int) × Int → Option (((List Int) × Int) ⊕ (((List Int) × Int × Bool)))
  | (m3, i) =>
    br (decide (i < (25 : Int))) (
      br (decide (0 ≤ i) && decide (i.toNat < 25)) (
        (m3[i.toNat]?).bind fun x3 =>
        br (decide (0 ≤ i) && decide (i.toNat < 25)) (
          (m4[i.toNat]?).bind fun x4 =>
          br (decide (0 ≤ i) && decide (i.toNat < 25)) (
            br (decide (i.toNat < m3.length)) (
              some (.inl ((m3.set i.toNat (xor64 .u64 x3 x4)), (IntKind.wrap .i64 (i + (1 : Int)))))) (
              none)) (
            none)) (
          none)) (
        none)) (
      some (.inr (m3, i, decide (i < (25 : Int)))))
@[reducible] def s_l03Hash_3_S (l4 : List UInt8) (m4 : List Int) (m5 : List UInt8) (at_2 : Int) (s : (List Int) × Int) : St := ⟨[(3, sl eU8 m5), (4, .ptr 6001 0 0 1), (5, I at_2), (6, .ptr 10007 0 0 1), (7, I s.2)], [(2002, ⟨1, false, rws eU8 l4⟩), (6001, ⟨25, true, [ar .u64 s.1]⟩), (10007, ⟨25, true, [ar .u64 m4]⟩)]⟩
@[reducible] def s_l03Hash_3_E (l4 : List UInt8) (m4 : List Int) (m5 : List UInt8) (at_2 : Int) : ((List Int) × Int × Bool) → AExit × St := fun e => (.exit 4, ⟨[(3, sl eU8 m5), (4, .ptr 6001 0 0 1), (5, I at_2), (6, .ptr 10007 0 0 1), (7, I e.2.1), (42, B e.2.2)], [(2002, ⟨1, false, rws eU8 l4⟩), (6001, ⟨25, true, [ar .u64 e.1]⟩), (10007, ⟨25, true, [ar .u64 m4]⟩)]⟩)
theorem s_l03Hash_3_l {l4 m4 m5 at_2 s e} (h : Loop (s_l03Hash_3_s l4 m4 m5 at_2) s = some e) : LoopX tab ow (.close []) b_s_l03Hash_11 (s_l03Hash_3_S l4 m4 m5 at_2 s) = some (s_l03Hash_3_E l4 m4 m5 at_2 e) := by
  refine lrG (fun s o h => ?_) h
  obtain ⟨_, _⟩ := s
  simp only [s_l03Hash_3_s] at h
  simp +decide only [s_l03Hash_3_S, s_l03Hash_3_E, b_s_l03Hash_11, go_sem, reduceIte, Nat.reduceAdd]
  all_goals exact go
noncomputable def s_l03Hash_2_s (l3 : List UInt8) (m2 : List UInt8) : (List Int) × Int → Option (((List Int) × Int) ⊕ (((List Int) × Int × Bool)))
  | (m, at_) =>
    br (decide (at_ < ((m2.length : Nat) : Int))) (
      (subL m2 at_ (IntKind.wrap .i64 (at_ + (136 : Int)))).bind fun y =>
      (s_l03Lanes y).bind fun r_ =>
      br (decide (r_.length = 25)) (
        (Loop (s_l03Hash_3_s l3 r_ m2 at_) (m, (0 : Int))).bind fun e_2 =>
        br (decide (e_2.1.length = 25)) (
          (s_l03Permute e_2.1).bind fun r_2 =>
          br (decide (r_2.length = 25) && decide (e_2.1.length = 25)) (
            some (.inl (r_2, (IntKind.wrap .i64 (at_ + (136 : Int)))))) (
            none)) (
          none)) (
        none)) (
      some (.inr (m, at_, decide (at_ < ((m2.length : Nat) : Int)))))
@[reducible] def s_l03Hash_2_S (l3 : List UInt8) (m2 : List UInt8) (s : (List Int) × Int) : St := ⟨[(3, sl eU8 m2), (4, .ptr 6001 0 0 1), (5, I s.2)], [(2002, ⟨1, false, rws eU8 l3⟩), (6001, ⟨25, true, [ar .u64 s.1]⟩)]⟩
@[reducible] def s_l03Hash_2_E (l3 : List UInt8) (m2 : List UInt8) : ((List Int) × Int × Bool) → AExit × St := fun e => (.exit 2, ⟨[(3, sl eU8 m2), (4, .ptr 6001 0 0 1), (5, I e.2.1), (31, B e.2.2)], [(2002, ⟨1, false, rws eU8 l3⟩), (6001, ⟨25, true, [ar .u64 e.1]⟩)]⟩)
theorem s_l03Hash_2_l {l3 m2 s e} (h : Loop (s_l03Hash_2_s l3 m2) s = some e) : LoopX tab ow (.close [10006,10007,15001,2001]) b_s_l03Hash_7 (s_l03Hash_2_S l3 m2 s) = some (s_l03Hash_2_E l3 m2 e) := by
  refine lrG (fun s o h => ?_) h
  obtain ⟨_, _⟩ := s
  simp only [s_l03Hash_2_s] at h
  simp +decide only [s_l03Hash_2_S, s_l03Hash_2_E, b_s_l03Hash_7, go_sem, reduceIte, Nat.reduceAdd]
  have d1 := @s_l03Lanes_c
  have d2 := @s_l03Hash_3_l
  have d3 := @s_l03Permute_c
  all_goals exact go
noncomputable def s_l03Hash (b : (List UInt8)) : Option ((List UInt8)) :=
  br (fits b.length 1) (
    br (fits ((b ++ ([(1 : UInt8)] : List UInt8)).length) 1) (
      (Loop (s_l03Hash_1_s ([(1 : UInt8)] : List UInt8)) (b ++ ([(1 : UInt8)] : List UInt8))).bind fun e_ =>
      br (decide (0 ≤ (IntKind.wrap .i64 (((e_.1.length : Nat) : Int) - (1 : Int))))) (
        br (decide ((IntKind.wrap .i64 (((e_.1.length : Nat) : Int) - (1 : Int))).toNat < e_.1.length)) (
          (e_.1[(IntKind.wrap .i64 (((e_.1.length : Nat) : Int) - (1 : Int))).toNat]?).bind fun x =>
          br (decide (0 ≤ (IntKind.wrap .i64 (((e_.1.length : Nat) : Int) - (1 : Int))))) (
            br (decide ((IntKind.wrap .i64 (((e_.1.length : Nat) : Int) - (1 : Int))).toNat < e_.1.length)) (
              (e_.1[(IntKind.wrap .i64 (((e_.1.length : Nat) : Int) - (1 : Int))).toNat]?).bind fun x2 =>
              (Loop (s_l03Hash_2_s ([(1 : UInt8)] : List UInt8) (e_.1.set ((IntKind.wrap .i64 (((e_.1.length : Nat) : Int) - (1 : Int))).toNat) (UInt8.ofInt (or64 .u8 (x.toNat : Int) (128 : Int))))) ((nZ 25), (0 : Int))).bind fun e_3 =>
              br (decide (e_3.1.length = 25)) (
                (s_l03Text e_3.1 (32 : Int)).bind fun r_3 =>
                some r_3) (
                none)) (
              none)) (
            none)) (
          none)) (
        none)) (
      none)) (
    none)
theorem s_l03Hash_c {b r} (h : s_l03Hash b = some r) : Call tab ow 240 [S b] [] = some (S r, []) := by
  rw [Call_run (af := a_s_l03Hash) rfl]
  unfold s_l03Hash at h
  simp +decide only [a_s_l03Hash, b_s_l03Hash, go_sem, reduceIte, Nat.reduceAdd]
  have d1 := @s_l03Hash_1_l
  have d2 := @s_l03Hash_2_l
  have d3 := @s_l03Text_c
  all_goals exact go
end
noncomputable def s_l05New (label : (List UInt8)) (list : (List Ext)) : Option (Source) :=
  br (fits ((([115, 111, 117, 114, 99, 101] : List UInt8)).length + label.length) 1) (
    (s_l03Hash ((([115, 111, 117, 114, 99, 101] : List UInt8)) ++ label)).bind fun r_ =>
    some (Source.mk list (0 : Int) r_ (0 : Int))) (
    none)
theorem s_l05New_c {label list r} (h : s_l05New label list = some r) : Call tab ow 152 [S label, sl eExt list] [] = some (.agg [sl eExt r.Script, I r.At, S r.State, I r.Count], []) := by
  rw [Call_run (af := a_s_l05New) rfl]
  unfold s_l05New at h
  simp +decide only [a_s_l05New, b_s_l05New, go_sem, reduceIte, Nat.reduceAdd]
  have d1 := @s_l03Hash_c
  all_goals exact go
noncomputable def s_l00Src_ext (m : l00Src) : Option (Ext × l00Src) :=
  (s_l00Src_chance (4 : Int) m).bind fun r_ =>
  br r_.1 (
    (s_l00Src_field r_.2).bind fun r_2 =>
    some ((Ext.mk r_2.1 (0 : Int)), r_2.2)) (
    (s_l00Src_field r_.2).bind fun r_3 =>
    (s_l00Src_field r_3.2).bind fun r_4 =>
    some ((Ext.mk r_3.1 r_4.1), r_4.2))
theorem s_l00Src_ext_c {m r} (h : s_l00Src_ext m = some r) : Call tab ow 166 [.ptr 0 0 0 1] [⟨3, true, [[sl eU8 m.code, I m.at_, I m.seed]]⟩] = some (.agg [I r.1.A, I r.1.B], [⟨3, true, [[sl eU8 r.2.code, I r.2.at_, I r.2.seed]]⟩]) := by
  rw [Call_run (af := a_s_l00Src_ext) rfl]
  unfold s_l00Src_ext at h
  simp +decide only [a_s_l00Src_ext, b_s_l00Src_ext, go_sem, reduceIte, Nat.reduceAdd]
  have d1 := @s_l00Src_chance_c
  have d2 := @s_l00Src_field_c
  all_goals exact go
section
theorem s_l00Src_exts_k0 : mkR 2000 [] = rws eExt [] := rfl
attribute [local go_sem] s_l00Src_exts_k0
theorem s_l00Src_exts_k1 : mkR 6003 [] = rws eExt [] := rfl
attribute [local go_sem] s_l00Src_exts_k1
noncomputable def s_l00Src_exts_1_s (n2 : Int) : (List Ext) × Int × (List UInt8) × Int × Int → Option (((List Ext) × Int × (List UInt8) × Int × Int) ⊕ (((List Ext) × Int × Bool × (List UInt8) × Int × Int)))
  | (l, i, c, c2, c3) =>
    br (decide (i < n2)) (
      (s_l00Src_ext (l00Src.mk c c2 c3)).bind fun r_ =>
      br (fits ((l ++ ([r_.1] : List Ext)).length) 16) (
        some (.inl ((l ++ ([r_.1] : List Ext)), (IntKind.wrap .i64 (i + (1 : Int))), r_.2.code, r_.2.at_, r_.2.seed))) (
        none)) (
      some (.inr (l, i, decide (i < n2), c, c2, c3)))
@[reducible] def s_l00Src_exts_1_S (n2 : Int) (s : (List Ext) × Int × (List UInt8) × Int × Int) : St := ⟨[(0, .ptr 0 0 0 1), (1, I n2), (5, .sl 2000 0 s.1.length), (6, I s.2.1)], [(0, ⟨3, true, [[sl eU8 s.2.2.1, I s.2.2.2.1, I s.2.2.2.2]]⟩), (2000, ⟨2, false, rws eExt s.1⟩)]⟩
@[reducible] def s_l00Src_exts_1_E (n2 : Int) : ((List Ext) × Int × Bool × (List UInt8) × Int × Int) → AExit × St := fun e => (.exit 0, ⟨[(0, .ptr 0 0 0 1), (1, I n2), (5, .sl 2000 0 e.1.length), (6, I e.2.1), (10, B e.2.2.1)], [(0, ⟨3, true, [[sl eU8 e.2.2.2.1, I e.2.2.2.2.1, I e.2.2.2.2.2]]⟩), (2000, ⟨2, false, rws eExt e.1⟩)]⟩)
theorem s_l00Src_exts_1_l {n2 s e} (h : Loop (s_l00Src_exts_1_s n2) s = some e) : LoopX tab ow (.close [6002,6003,6004]) b_s_l00Src_exts_3 (s_l00Src_exts_1_S n2 s) = some (s_l00Src_exts_1_E n2 e) := by
  refine lrG (fun s o h => ?_) h
  obtain ⟨_, _, _, _, _⟩ := s
  simp only [s_l00Src_exts_1_s] at h
  simp +decide only [s_l00Src_exts_1_S, s_l00Src_exts_1_E, b_s_l00Src_exts_3, go_sem, reduceIte, Nat.reduceAdd]
  have d1 := @s_l00Src_ext_c
  all_goals exact go
noncomputable def s_l00Src_exts (n : Int) (m : l00Src) : Option ((List Ext) × l00Src) :=
  (Loop (s_l00Src_exts_1_s n) (([] : List Ext), (0 : Int), m.code, m.at_, m.seed)).bind fun e_ =>
  some (e_.1, (l00Src.mk e_.2.2.2.1 e_.2.2.2.2.1 e_.2.2.2.2.2))
theorem s_l00Src_exts_c {n m r} (h : s_l00Src_exts n m = some r) : Call tab ow 71 [.ptr 0 0 0 1, I n] [⟨3, true, [[sl eU8 m.code, I m.at_, I m.seed]]⟩] = some (sl eExt r.1, [⟨3, true, [[sl eU8 r.2.code, I r.2.at_, I r.2.seed]]⟩]) := by
  rw [Call_run (af := a_s_l00Src_exts) rfl]
  unfold s_l00Src_exts at h
  simp +decide only [a_s_l00Src_exts, b_s_l00Src_exts, go_sem, reduceIte, Nat.reduceAdd]
  have d1 := @s_l00Src_exts_1_l
  all_goals exact go
end
end Go.AI.Fn

set_option linter.unusedVariables false
set_option linter.unusedSimpArgs false
set_option maxRecDepth 100000
set_option maxHeartbeats 1000000
namespace Go.AI.Fn
section
theorem s_l02Number_k0 : mkR 2000 [] = rws eU8 [] := rfl
attribute [local go_sem] s_l02Number_k0
theorem s_l02Number_k1 : mkR 6007 [] = rws eU8 [] := rfl
attribute [local go_sem] s_l02Number_k1
noncomputable def s_l02Number_1_s (n2 : Int) : (List UInt8) × Int → Option (((List UInt8) × Int) ⊕ (((List UInt8) × Int × Bool)))
  | (l, i) =>
    br (decide (i ≥ (0 : Int))) (
      br (decide (0 ≤ (IntKind.wrap .u64 (IntKind.wrap .i64 ((8 : Int) * i))))) (
        br (fits ((l ++ ([(UInt8.ofInt (shr64 .i64 n2 (IntKind.wrap .u64 (IntKind.wrap .i64 ((8 : Int) * i)))))] : List UInt8)).length) 1) (
          some (.inl ((l ++ ([(UInt8.ofInt (shr64 .i64 n2 (IntKind.wrap .u64 (IntKind.wrap .i64 ((8 : Int) * i)))))] : List UInt8)), (IntKind.wrap .i64 (i - (1 : Int)))))) (
          none)) (
        none)) (
      some (.inr (l, i, decide (i ≥ (0 : Int)))))
@[reducible] def s_l02Number_1_S (n2 : Int) (s : (List UInt8) × Int) : St := ⟨[(0, I n2), (5, .sl 2000 0 s.1.length), (6, I s.2)], [(2000, ⟨1, false, rws eU8 s.1⟩)]⟩
@[reducible] def s_l02Number_1_E (n2 : Int) : ((List UInt8) × Int × Bool) → AExit × St := fun e => (.exit 0, ⟨[(0, I n2), (5, .sl 2000 0 e.1.length), (6, I e.2.1), (11, B e.2.2)], [(2000, ⟨1, false, rws eU8 e.1⟩)]⟩)
theorem s_l02Number_1_l {n2 s e} (h : Loop (s_l02Number_1_s n2) s = some e) : LoopX tab ow (.close [6007,6008]) b_s_l02Number_3 (s_l02Number_1_S n2 s) = some (s_l02Number_1_E n2 e) := by
  refine lrG (fun s o h => ?_) h
  obtain ⟨_, _⟩ := s
  simp only [s_l02Number_1_s] at h
  simp +decide only [s_l02Number_1_S, s_l02Number_1_E, b_s_l02Number_3, go_sem, reduceIte, Nat.reduceAdd]
  all_goals exact go
noncomputable def s_l02Number (n : Int) (size : Int) : Option ((List UInt8)) :=
  (Loop (s_l02Number_1_s n) (([] : List UInt8), (IntKind.wrap .i64 (size - (1 : Int))))).bind fun e_ =>
  some e_.1
theorem s_l02Number_c {n size r} (h : s_l02Number n size = some r) : Call tab ow 165 [I n, I size] [] = some (sl eU8 r, []) := by
  rw [Call_run (af := a_s_l02Number) rfl]
  unfold s_l02Number at h
  simp +decide only [a_s_l02Number, b_s_l02Number, go_sem, reduceIte, Nat.reduceAdd]
  have d1 := @s_l02Number_1_l
  all_goals exact go
end
noncomputable def s_l05Absorb (s : Source) (t : (List UInt8)) : Option (Source) :=
  br (fits (s.State.length + (([97, 98, 115, 111, 114, 98] : List UInt8)).length) 1) (
    (s_l02Number ((t.length : Nat) : Int) (4 : Int)).bind fun r_ =>
    br (fits ((s.State ++ (([97, 98, 115, 111, 114, 98] : List UInt8))).length + r_.length) 1) (
      br (fits (((s.State ++ (([97, 98, 115, 111, 114, 98] : List UInt8))) ++ r_).length + t.length) 1) (
        (s_l03Hash (((s.State ++ (([97, 98, 115, 111, 114, 98] : List UInt8))) ++ r_) ++ t)).bind fun r_2 =>
        some (Source.mk s.Script s.At r_2 (0 : Int))) (
        none)) (
      none)) (
    none)
theorem s_l05Absorb_c {s t r} (h : s_l05Absorb s t = some r) : Call tab ow 155 [.agg [sl eExt s.Script, I s.At, S s.State, I s.Count], S t] [] = some (.agg [sl eExt r.Script, I r.At, S r.State, I r.Count], []) := by
  rw [Call_run (af := a_s_l05Absorb) rfl]
  unfold s_l05Absorb at h
  simp +decide only [a_s_l05Absorb, b_s_l05Absorb, go_sem, reduceIte, Nat.reduceAdd]
  have d1 := @s_l02Number_c
  have d2 := @s_l03Hash_c
  all_goals exact go
noncomputable def s_l05Field_1_s (t2 : List UInt8) : Int × Int → Option ((Int × Int) ⊕ ((Int × Int × Bool)))
  | (n, i) =>
    br (decide (i < (8 : Int))) (
      (atL t2 i).bind fun c =>
      some (.inl (((IntKind.wrap .i64 ((IntKind.wrap .i64 (n * (256 : Int))) + (IntKind.wrap .i64 (c.toNat : Int)))).tmod (2130706433 : Int)), (IntKind.wrap .i64 (i + (1 : Int)))))) (
      some (.inr (n, i, decide (i < (8 : Int)))))
@[reducible] def s_l05Field_1_S (t2 : List UInt8) (s : Int × Int) : St := ⟨[(0, S t2), (3, I s.1), (4, I s.2)], []⟩
@[reducible] def s_l05Field_1_E (t2 : List UInt8) : (Int × Int × Bool) → AExit × St := fun e => (.exit 0, ⟨[(0, S t2), (3, I e.1), (4, I e.2.1), (6, B e.2.2)], []⟩)
theorem s_l05Field_1_l {t2 s e} (h : Loop (s_l05Field_1_s t2) s = some e) : LoopX tab ow (.close []) b_s_l05Field_3 (s_l05Field_1_S t2 s) = some (s_l05Field_1_E t2 e) := by
  refine lrG (fun s o h => ?_) h
  obtain ⟨_, _⟩ := s
  simp only [s_l05Field_1_s] at h
  simp +decide only [s_l05Field_1_S, s_l05Field_1_E, b_s_l05Field_3, go_sem, reduceIte, Nat.reduceAdd]
  all_goals exact go
noncomputable def s_l05Field (t : (List UInt8)) : Option (Int) :=
  (Loop (s_l05Field_1_s t) ((0 : Int), (0 : Int))).bind fun e_ =>
  some e_.1
theorem s_l05Field_c {t r} (h : s_l05Field t = some r) : Call tab ow 241 [S t] [] = some (I r, []) := by
  rw [Call_run (af := a_s_l05Field) rfl]
  unfold s_l05Field at h
  simp +decide only [a_s_l05Field, b_s_l05Field, go_sem, reduceIte, Nat.reduceAdd]
  have d1 := @s_l05Field_1_l
  all_goals exact go
noncomputable def s_l05Draw (s : Source) : Option (Source × Ext) :=
  br (decide (((s.Script.length : Nat) : Int) > (0 : Int))) (
    br (decide (((s.Script.length : Nat) : Int) ≠ 0)) (
      (atL s.Script (s.At.tmod ((s.Script.length : Nat) : Int))).bind fun x =>
      some ((Source.mk s.Script (IntKind.wrap .i64 (s.At + (1 : Int))) s.State s.Count), x)) (
      none)) (
    br (fits (s.State.length + (([100, 114, 97, 119] : List UInt8)).length) 1) (
      (s_l02Number s.Count (4 : Int)).bind fun r_ =>
      br (fits ((s.State ++ (([100, 114, 97, 119] : List UInt8))).length + r_.length) 1) (
        (s_l03Hash ((s.State ++ (([100, 114, 97, 119] : List UInt8))) ++ r_)).bind fun r_2 =>
        (subL r_2 (0 : Int) (8 : Int)).bind fun y =>
        (s_l05Field y).bind fun r_3 =>
        (subL r_2 (8 : Int) (16 : Int)).bind fun y2 =>
        (s_l05Field y2).bind fun r_4 =>
        some ((Source.mk s.Script s.At s.State (IntKind.wrap .i64 (s.Count + (1 : Int)))), (Ext.mk r_3 r_4))) (
        none)) (
      none))
theorem s_l05Draw_c {s r} (h : s_l05Draw s = some r) : Call tab ow 156 [.agg [sl eExt s.Script, I s.At, S s.State, I s.Count]] [] = some (.tup [.agg [sl eExt r.1.Script, I r.1.At, S r.1.State, I r.1.Count], .agg [I r.2.A, I r.2.B]], []) := by
  rw [Call_run (af := a_s_l05Draw) rfl]
  unfold s_l05Draw at h
  simp +decide only [a_s_l05Draw, b_s_l05Draw, go_sem, reduceIte, Nat.reduceAdd]
  have d1 := @s_l02Number_c
  have d2 := @s_l03Hash_c
  have d3 := @s_l05Field_c
  all_goals exact go
section
theorem s_l05Own_k0 : mkR 2000 [] = rws eExt [] := rfl
attribute [local go_sem] s_l05Own_k0
noncomputable def s_l05Own (s : Source) : Option (Source) :=
  br (fits ((([] : List Ext) ++ s.Script).length) 16) (
    some (Source.mk (([] : List Ext) ++ s.Script) s.At s.State s.Count)) (
    none)
theorem s_l05Own_c {s r} (h : s_l05Own s = some r) : Call tab ow 69 [.agg [sl eExt s.Script, I s.At, S s.State, I s.Count]] [] = some (.agg [sl eExt r.Script, I r.At, S r.State, I r.Count], []) := by
  rw [Call_run (af := a_s_l05Own) rfl]
  unfold s_l05Own at h
  simp +decide only [a_s_l05Own, b_s_l05Own, go_sem, reduceIte, Nat.reduceAdd]
  all_goals exact go
end
section
theorem s_l00Src_source_k0 : mkR 2001 [] = rws eS [] := rfl
attribute [local go_sem] s_l00Src_source_k0
theorem s_l00Src_source_k1 : mkR 2003 [] = rws eExt [] := rfl
attribute [local go_sem] s_l00Src_source_k1
theorem s_l00Src_source_k2 : mkR 9002 [] = rws eS [] := rfl
attribute [local go_sem] s_l00Src_source_k2
noncomputable def s_l00Src_source_1_s (c4 : Int) (c5 : List UInt8) (c6 : Int) : Int × (List UInt8) × Int × Int × (List Ext) × Int × (List UInt8) × Int → Option ((Int × (List UInt8) × Int × Int × (List Ext) × Int × (List UInt8) × Int) ⊕ ((Int × Bool × (List UInt8) × Int × Int × (List Ext) × Int × (List UInt8) × Int)))
  | (i, c, c2, c3, c7, c8, c9, c10) =>
    br (decide (i > (0 : Int))) (
      (s_l00Src_chance (2 : Int) (l00Src.mk c c2 c3)).bind fun r_7 =>
      br r_7.1 (
        (s_l00Src_pick ([(([] : List UInt8)), (([116, 101, 120, 116] : List UInt8))] : List (List UInt8)) r_7.2).bind fun r_8 =>
        (s_l05Absorb (Source.mk c7 c8 c9 c10) r_8.1).bind fun r_9 =>
        some (.inl ((IntKind.wrap .i64 (i - (1 : Int))), r_8.2.code, r_8.2.at_, r_8.2.seed, r_9.Script, r_9.At, r_9.State, r_9.Count))) (
        (s_l05Draw (Source.mk c7 c8 c9 c10)).bind fun r_10 =>
        some (.inl ((IntKind.wrap .i64 (i - (1 : Int))), r_7.2.code, r_7.2.at_, r_7.2.seed, r_10.1.Script, r_10.1.At, r_10.1.State, r_10.1.Count)))) (
      some (.inr (i, decide (i > (0 : Int)), c, c2, c3, c7, c8, c9, c10)))
@[reducible] def s_l00Src_source_1_S (c4 : Int) (c5 : List UInt8) (c6 : Int) (s : Int × (List UInt8) × Int × Int × (List Ext) × Int × (List UInt8) × Int) : St := ⟨[(0, .ptr 0 0 0 1), (2, .ptr 1000 0 0 1), (3, .ptr 2005 0 0 1), (4, I s.1)], [(0, ⟨3, true, [[sl eU8 s.2.1, I s.2.2.1, I s.2.2.2.1]]⟩), (1000, ⟨4, true, [[.lit (.slice none 0 0), I c4, S c5, I c6]]⟩), (2001, dead), (2003, dead), (2005, ⟨4, true, [[sl eExt s.2.2.2.2.1, I s.2.2.2.2.2.1, S s.2.2.2.2.2.2.1, I s.2.2.2.2.2.2.2]]⟩)]⟩
@[reducible] def s_l00Src_source_1_E (c4 : Int) (c5 : List UInt8) (c6 : Int) : (Int × Bool × (List UInt8) × Int × Int × (List Ext) × Int × (List UInt8) × Int) → AExit × St := fun e => (.exit 0, ⟨[(0, .ptr 0 0 0 1), (2, .ptr 1000 0 0 1), (3, .ptr 2005 0 0 1), (4, I e.1), (21, B e.2.1)], [(0, ⟨3, true, [[sl eU8 e.2.2.1, I e.2.2.2.1, I e.2.2.2.2.1]]⟩), (1000, ⟨4, true, [[.lit (.slice none 0 0), I c4, S c5, I c6]]⟩), (2001, dead), (2003, dead), (2005, ⟨4, true, [[sl eExt e.2.2.2.2.2.1, I e.2.2.2.2.2.2.1, S e.2.2.2.2.2.2.2.1, I e.2.2.2.2.2.2.2.2]]⟩)]⟩)
theorem s_l00Src_source_1_l {c4 c5 c6 s e} (h : Loop (s_l00Src_source_1_s c4 c5 c6) s = some e) : LoopX tab ow (.close [8001,9002,9003,9004,10001]) b_s_l00Src_source_5 (s_l00Src_source_1_S c4 c5 c6 s) = some (s_l00Src_source_1_E c4 c5 c6 e) := by
  refine lrG (fun s o h => ?_) h
  obtain ⟨_, _, _, _, _, _, _, _⟩ := s
  simp only [s_l00Src_source_1_s] at h
  simp +decide only [s_l00Src_source_1_S, s_l00Src_source_1_E, b_s_l00Src_source_5, go_sem, reduceIte, Nat.reduceAdd]
  have d1 := @s_l00Src_chance_c
  have d2 := @s_l00Src_pick_c
  have d3 := @s_l05Absorb_c
  have d4 := @s_l05Draw_c
  all_goals exact go
noncomputable def s_l00Src_source_2_s (c14 : Int) (c15 : List UInt8) (c16 : Int) : Int × (List UInt8) × Int × Int × (List Ext) × Int × (List UInt8) × Int → Option ((Int × (List UInt8) × Int × Int × (List Ext) × Int × (List UInt8) × Int) ⊕ ((Int × Bool × (List UInt8) × Int × Int × (List Ext) × Int × (List UInt8) × Int)))
  | (i2, c11, c12, c13, c17, c18, c19, c20) =>
    br (decide (i2 > (0 : Int))) (
      (s_l00Src_chance (2 : Int) (l00Src.mk c11 c12 c13)).bind fun r_13 =>
      br r_13.1 (
        (s_l00Src_pick ([(([] : List UInt8)), (([116, 101, 120, 116] : List UInt8))] : List (List UInt8)) r_13.2).bind fun r_14 =>
        (s_l05Absorb (Source.mk c17 c18 c19 c20) r_14.1).bind fun r_15 =>
        some (.inl ((IntKind.wrap .i64 (i2 - (1 : Int))), r_14.2.code, r_14.2.at_, r_14.2.seed, r_15.Script, r_15.At, r_15.State, r_15.Count))) (
        (s_l05Draw (Source.mk c17 c18 c19 c20)).bind fun r_16 =>
        some (.inl ((IntKind.wrap .i64 (i2 - (1 : Int))), r_13.2.code, r_13.2.at_, r_13.2.seed, r_16.1.Script, r_16.1.At, r_16.1.State, r_16.1.Count)))) (
      some (.inr (i2, decide (i2 > (0 : Int)), c11, c12, c13, c17, c18, c19, c20)))
@[reducible] def s_l00Src_source_2_S (c14 : Int) (c15 : List UInt8) (c16 : Int) (s : Int × (List UInt8) × Int × Int × (List Ext) × Int × (List UInt8) × Int) : St := ⟨[(0, .ptr 0 0 0 1), (2, .ptr 1000 0 0 1), (3, .ptr 2005 0 0 1), (4, I s.1)], [(0, ⟨3, true, [[sl eU8 s.2.1, I s.2.2.1, I s.2.2.2.1]]⟩), (1000, ⟨4, true, [[.lit (.slice none 0 0), I c14, S c15, I c16]]⟩), (2001, dead), (2003, dead), (2005, ⟨4, true, [[sl eExt s.2.2.2.2.1, I s.2.2.2.2.2.1, S s.2.2.2.2.2.2.1, I s.2.2.2.2.2.2.2]]⟩)]⟩
@[reducible] def s_l00Src_source_2_E (c14 : Int) (c15 : List UInt8) (c16 : Int) : (Int × Bool × (List UInt8) × Int × Int × (List Ext) × Int × (List UInt8) × Int) → AExit × St := fun e => (.exit 0, ⟨[(0, .ptr 0 0 0 1), (2, .ptr 1000 0 0 1), (3, .ptr 2005 0 0 1), (4, I e.1), (21, B e.2.1)], [(0, ⟨3, true, [[sl eU8 e.2.2.1, I e.2.2.2.1, I e.2.2.2.2.1]]⟩), (1000, ⟨4, true, [[.lit (.slice none 0 0), I c14, S c15, I c16]]⟩), (2001, dead), (2003, dead), (2005, ⟨4, true, [[sl eExt e.2.2.2.2.2.1, I e.2.2.2.2.2.2.1, S e.2.2.2.2.2.2.2.1, I e.2.2.2.2.2.2.2.2]]⟩)]⟩)
theorem s_l00Src_source_2_l {c14 c15 c16 s e} (h : Loop (s_l00Src_source_2_s c14 c15 c16) s = some e) : LoopX tab ow (.close [8001,9002,9003,9004,10001]) b_s_l00Src_source_5 (s_l00Src_source_2_S c14 c15 c16 s) = some (s_l00Src_source_2_E c14 c15 c16 e) := by
  refine lrG (fun s o h => ?_) h
  obtain ⟨_, _, _, _, _, _, _, _⟩ := s
  simp only [s_l00Src_source_2_s] at h
  simp +decide only [s_l00Src_source_2_S, s_l00Src_source_2_E, b_s_l00Src_source_5, go_sem, reduceIte, Nat.reduceAdd]
  have d1 := @s_l00Src_chance_c
  have d2 := @s_l00Src_pick_c
  have d3 := @s_l05Absorb_c
  have d4 := @s_l05Draw_c
  all_goals exact go
noncomputable def s_l00Src_source (m : l00Src) : Option (Source × l00Src) :=
  (s_l00Src_pick ([(([] : List UInt8)), (([97] : List UInt8)), (([108, 97, 98, 101, 108] : List UInt8))] : List (List UInt8)) m).bind fun r_ =>
  (s_l05New r_.1 ([] : List Ext)).bind fun r_2 =>
  (s_l00Src_chance (3 : Int) r_.2).bind fun r_3 =>
  br r_3.1 (
    (s_l00Src_next (5 : Int) r_3.2).bind fun r_4 =>
    (s_l00Src_exts (IntKind.wrap .i64 ((1 : Int) + r_4.1)) r_4.2).bind fun r_5 =>
    (s_l00Src_next (4 : Int) r_5.2).bind fun r_6 =>
    (Loop (s_l00Src_source_1_s (0 : Int) (([] : List UInt8)) (0 : Int)) (r_6.1, r_6.2.code, r_6.2.at_, r_6.2.seed, r_5.1, r_2.At, r_2.State, r_2.Count)).bind fun e_ =>
    (s_l05Own (Source.mk e_.2.2.2.2.2.1 e_.2.2.2.2.2.2.1 e_.2.2.2.2.2.2.2.1 e_.2.2.2.2.2.2.2.2)).bind fun r_11 =>
    some (r_11, (l00Src.mk e_.2.2.1 e_.2.2.2.1 e_.2.2.2.2.1))) (
    (s_l00Src_next (4 : Int) r_3.2).bind fun r_12 =>
    (Loop (s_l00Src_source_2_s (0 : Int) (([] : List UInt8)) (0 : Int)) (r_12.1, r_12.2.code, r_12.2.at_, r_12.2.seed, r_2.Script, r_2.At, r_2.State, r_2.Count)).bind fun e_2 =>
    (s_l05Own (Source.mk e_2.2.2.2.2.2.1 e_2.2.2.2.2.2.2.1 e_2.2.2.2.2.2.2.2.1 e_2.2.2.2.2.2.2.2.2)).bind fun r_17 =>
    some (r_17, (l00Src.mk e_2.2.2.1 e_2.2.2.2.1 e_2.2.2.2.2.1)))
theorem s_l00Src_source_c {m r} (h : s_l00Src_source m = some r) : Call tab ow 63 [.ptr 0 0 0 1] [⟨3, true, [[sl eU8 m.code, I m.at_, I m.seed]]⟩] = some (.agg [sl eExt r.1.Script, I r.1.At, S r.1.State, I r.1.Count], [⟨3, true, [[sl eU8 r.2.code, I r.2.at_, I r.2.seed]]⟩]) := by
  rw [Call_run (af := a_s_l00Src_source) rfl]
  unfold s_l00Src_source at h
  simp +decide only [a_s_l00Src_source, b_s_l00Src_source, go_sem, reduceIte, Nat.reduceAdd]
  have d1 := @s_l00Src_pick_c
  have d2 := @s_l05New_c
  have d3 := @s_l00Src_chance_c
  have d4 := @s_l00Src_next_c
  have d5 := @s_l00Src_exts_c
  have d6 := @s_l00Src_source_1_l
  have d7 := @s_l05Own_c
  have d8 := @s_l00Src_source_2_l
  all_goals exact go
end
noncomputable def s_SourceOf (code : (List UInt8)) : Option (Source) :=
  (s_l00Source code).bind fun r_ =>
  (s_l00Src_source r_).bind fun r_2 =>
  some r_2.1
theorem s_SourceOf_c {code r} (h : s_SourceOf code = some r) : Call tab ow 12 [sl eU8 code] [] = some (.agg [sl eExt r.Script, I r.At, S r.State, I r.Count], []) := by
  rw [Call_run (af := a_s_SourceOf) rfl]
  unfold s_SourceOf at h
  simp +decide only [a_s_SourceOf, b_s_SourceOf, go_sem, reduceIte, Nat.reduceAdd]
  have d1 := @s_l00Source_c
  have d2 := @s_l00Src_source_c
  all_goals exact go
noncomputable def i_in (n : Int) (low : Int) (high : Int) : Option (Bool) :=
  br (decide (low ≤ n)) (
    some (decide (n ≤ high))) (
    some false)
theorem i_in_c {n low high r} (h : i_in n low high = some r) : Call tab ow 80 [I n, I low, I high] [] = some (B r, []) := by
  rw [Call_run (af := a_i_in) rfl]
  unfold i_in at h
  simp +decide only [a_i_in, b_i_in, go_sem, reduceIte, Nat.reduceAdd]
  all_goals exact go
noncomputable def i_System_half (s : System) : Option (Int) :=
  br (decide (0 ≤ (IntKind.wrap .i64 (s.Cols - (1 : Int))))) (
    some (shl64 .i64 (1 : Int) (IntKind.wrap .i64 (s.Cols - (1 : Int))))) (
    none)
theorem i_System_half_c {s r} (h : i_System_half s = some r) : Call tab ow 167 [.agg [I s.Rows, I s.Cols, I s.Publics, sl eEntry s.A, sl eEntry s.B, sl eEntry s.C]] [] = some (I r, []) := by
  rw [Call_run (af := a_i_System_half) rfl]
  unfold i_System_half at h
  simp +decide only [a_i_System_half, b_i_System_half, go_sem, reduceIte, Nat.reduceAdd]
  all_goals exact go
noncomputable def i_System_matrices (s : System) : Option (((List Entry) × (List Entry) × (List Entry))) :=
  some (s.A, s.B, s.C)
theorem i_System_matrices_c {s r} (h : i_System_matrices s = some r) : Call tab ow 168 [.agg [I s.Rows, I s.Cols, I s.Publics, sl eEntry s.A, sl eEntry s.B, sl eEntry s.C]] [] = some (.agg [sl eEntry r.1, sl eEntry r.2.1, sl eEntry r.2.2], []) := by
  rw [Call_run (af := a_i_System_matrices) rfl]
  unfold i_System_matrices at h
  simp +decide only [a_i_System_matrices, b_i_System_matrices, go_sem, reduceIte, Nat.reduceAdd]
  all_goals exact go
noncomputable def cmp_isNaN_int (x : Int) : Option (Bool) :=
  some (x != x)
theorem cmp_isNaN_int_c {x r} (h : cmp_isNaN_int x = some r) : Call tab ow 291 [I x] [] = some (B r, []) := by
  rw [Call_run (af := a_cmp_isNaN_int) rfl]
  unfold cmp_isNaN_int at h
  simp +decide only [a_cmp_isNaN_int, b_cmp_isNaN_int, go_sem, reduceIte, Nat.reduceAdd]
  all_goals exact go
noncomputable def cmp_Compare_int (x : Int) (y : Int) : Option (Int) :=
  (cmp_isNaN_int x).bind fun r_ =>
  (cmp_isNaN_int y).bind fun r_2 =>
  br r_ (
    br r_2 (
      some (0 : Int)) (
      some (-1 : Int))) (
    br r_2 (
      some (1 : Int)) (
      br (decide (x < y)) (
        some (-1 : Int)) (
        br (decide (x > y)) (
          some (1 : Int)) (
          some (0 : Int)))))
theorem cmp_Compare_int_c {x y r} (h : cmp_Compare_int x y = some r) : Call tab ow 250 [I x, I y] [] = some (I r, []) := by
  rw [Call_run (af := a_cmp_Compare_int) rfl]
  unfold cmp_Compare_int at h
  simp +decide only [a_cmp_Compare_int, b_cmp_Compare_int, go_sem, reduceIte, Nat.reduceAdd]
  have d1 := @cmp_isNaN_int_c
  all_goals exact go
noncomputable def cmp_Or_int_1_s (zero : Int) (t : List Int) (t2 : Int) : Int → Option ((Int) ⊕ (Int ⊕ (Int × Bool)))
  | t3 =>
    br (decide (t3 < t2)) (
      (atL t t3).bind fun x =>
      br (x != zero) (
        some (.inr (.inl x))) (
        some (.inl (IntKind.wrap .i64 (t3 + (1 : Int)))))) (
      some (.inr (.inr (t3, decide (t3 < t2)))))
@[reducible] def cmp_Or_int_1_S (zero : Int) (t : List Int) (t2 : Int) (s : Int) : St := ⟨[(3, I zero), (6, sl eI t), (7, I t2), (8, I s)], []⟩
@[reducible] def cmp_Or_int_1_E (zero : Int) (t : List Int) (t2 : Int) : (Int ⊕ (Int × Bool)) → AExit × St := alt (fun e => ((.ret, ⟨[(2, I e)], []⟩) : AExit × St)) (fun e => (.exit 0, ⟨[(3, I zero), (6, sl eI t), (7, I t2), (8, I e.1), (9, B e.2)], []⟩))
theorem cmp_Or_int_1_l {zero t t2 s e} (h : Loop (cmp_Or_int_1_s zero t t2) s = some e) : LoopX tab ow (.close []) b_cmp_Or_int_3 (cmp_Or_int_1_S zero t t2 s) = some (cmp_Or_int_1_E zero t t2 e) := by
  refine lrG (fun s o h => ?_) h
  simp only [cmp_Or_int_1_s] at h
  simp +decide only [cmp_Or_int_1_S, cmp_Or_int_1_E, b_cmp_Or_int_3, go_sem, reduceIte, Nat.reduceAdd]
  all_goals exact go
noncomputable def cmp_Or_int (vals : (List Int)) : Option (Int) :=
  (Loop (cmp_Or_int_1_s (0 : Int) vals ((vals.length : Nat) : Int)) (0 : Int)).bind (alt (fun e_2 =>
    some e_2) (fun e_3 =>
    some (0 : Int)))
theorem cmp_Or_int_c {vals r} (h : cmp_Or_int vals = some r) : Call tab ow 249 [sl eI vals] [] = some (I r, []) := by
  rw [Call_run (af := a_cmp_Or_int) rfl]
  unfold cmp_Or_int at h
  simp +decide only [a_cmp_Or_int, b_cmp_Or_int, go_sem, reduceIte, Nat.reduceAdd]
  have d1 := @cmp_Or_int_1_l
  all_goals exact go
section
theorem i_Entry_order_k0 : mkR 2010 [] = rws eI [] := rfl
attribute [local go_sem] i_Entry_order_k0
noncomputable def i_Entry_order (e_ : Entry) (f : Entry) : Option (Int) :=
  (cmp_Compare_int e_.Row f.Row).bind fun r_ =>
  (cmp_Compare_int e_.Col f.Col).bind fun r_2 =>
  (cmp_Or_int ([r_, r_2] : List Int)).bind fun r_3 =>
  some r_3
theorem i_Entry_order_c {e_ f r} (h : i_Entry_order e_ f = some r) : Call tab ow 174 [.agg [I e_.Row, I e_.Col, I e_.Value], .agg [I f.Row, I f.Col, I f.Value]] [] = some (I r, []) := by
  rw [Call_run (af := a_i_Entry_order) rfl]
  unfold i_Entry_order at h
  simp +decide only [a_i_Entry_order, b_i_Entry_order, go_sem, reduceIte, Nat.reduceAdd]
  have d1 := @cmp_Compare_int_c
  have d2 := @cmp_Or_int_c
  all_goals exact go
end
noncomputable def i_isMatrix_1_s (list2 : List Entry) (rows2 : Int) (cols2 : Int) (t : List Entry) (t2 : Int) : Int → Option ((Int) ⊕ ((Int × Int × Int) ⊕ (Int × Bool)))
  | t3 =>
    br (decide (t3 < t2)) (
      (atL t t3).bind fun x =>
      (i_in x.Row (0 : Int) (IntKind.wrap .i64 (rows2 - (1 : Int)))).bind fun r_ =>
      br (!r_) (
        some (.inr (.inl (x.Row, x.Col, x.Value)))) (
        (i_in x.Col (0 : Int) (IntKind.wrap .i64 (cols2 - (1 : Int)))).bind fun r_2 =>
        br (!r_2) (
          some (.inr (.inl (x.Row, x.Col, x.Value)))) (
          (i_in x.Value (1 : Int) (2130706432 : Int)).bind fun r_3 =>
          br (!r_3) (
            some (.inr (.inl (x.Row, x.Col, x.Value)))) (
            br (decide (t3 > (0 : Int))) (
              (atL list2 (IntKind.wrap .i64 (t3 - (1 : Int)))).bind fun x2 =>
              (i_Entry_order x2 x).bind fun r_4 =>
              br (decide (r_4 ≥ (0 : Int))) (
                some (.inr (.inl (x.Row, x.Col, x.Value)))) (
                some (.inl (IntKind.wrap .i64 (t3 + (1 : Int)))))) (
              some (.inl (IntKind.wrap .i64 (t3 + (1 : Int))))))))) (
      some (.inr (.inr (t3, decide (t3 < t2)))))
@[reducible] def i_isMatrix_1_S (list2 : List Entry) (rows2 : Int) (cols2 : Int) (t : List Entry) (t2 : Int) (s : Int) : St := ⟨[(0, sl eEntry list2), (1, I rows2), (2, I cols2), (9, sl eEntry t), (10, I t2), (11, I s)], []⟩
@[reducible] def i_isMatrix_1_E (list2 : List Entry) (rows2 : Int) (cols2 : Int) (t : List Entry) (t2 : Int) : ((Int × Int × Int) ⊕ (Int × Bool)) → AExit × St := alt (fun e => ((.ret, ⟨[(6, B false)], [(4003, ⟨3, true, [[I e.1, I e.2.1, I e.2.2]]⟩)]⟩) : AExit × St)) (fun e => (.exit 0, ⟨[(0, sl eEntry list2), (1, I rows2), (2, I cols2), (9, sl eEntry t), (10, I t2), (11, I e.1), (12, B e.2)], []⟩))
theorem i_isMatrix_1_l {list2 rows2 cols2 t t2 s e} (h : Loop (i_isMatrix_1_s list2 rows2 cols2 t t2) s = some e) : LoopX tab ow (.close [4003,5004,5011,5017,5030]) b_i_isMatrix_2 (i_isMatrix_1_S list2 rows2 cols2 t t2 s) = some (i_isMatrix_1_E list2 rows2 cols2 t t2 e) := by
  refine lrG (fun s o h => ?_) h
  simp only [i_isMatrix_1_s] at h
  simp +decide only [i_isMatrix_1_S, i_isMatrix_1_E, b_i_isMatrix_2, go_sem, reduceIte, Nat.reduceAdd]
  have d1 := @i_in_c
  have d2 := @i_Entry_order_c
  all_goals exact go
noncomputable def i_isMatrix (list : (List Entry)) (rows : Int) (cols : Int) : Option (Bool) :=
  (Loop (i_isMatrix_1_s list rows cols list ((list.length : Nat) : Int)) (0 : Int)).bind (alt (fun e_2 =>
    some false) (fun e_3 =>
    some (decide (((list.length : Nat) : Int) ≤ (200 : Int)))))
theorem i_isMatrix_c {list rows cols r} (h : i_isMatrix list rows cols = some r) : Call tab ow 81 [sl eEntry list, I rows, I cols] [] = some (B r, []) := by
  rw [Call_run (af := a_i_isMatrix) rfl]
  unfold i_isMatrix at h
  simp +decide only [a_i_isMatrix, b_i_isMatrix, go_sem, reduceIte, Nat.reduceAdd]
  have d1 := @i_isMatrix_1_l
  all_goals exact go
noncomputable def i_SystemOK (s : System) : Option (Bool) :=
  (i_in s.Rows (1 : Int) (5 : Int)).bind fun r_ =>
  br (!r_) (
    some false) (
    (i_in s.Cols (2 : Int) (5 : Int)).bind fun r_2 =>
    br (!r_2) (
      some false) (
      (i_System_half s).bind fun r_3 =>
      (i_in s.Publics (0 : Int) (IntKind.wrap .i64 (r_3 - (1 : Int)))).bind fun r_4 =>
      br (!r_4) (
        some false) (
        (i_System_matrices s).bind fun r_5 =>
        br (decide (0 ≤ s.Rows)) (
          br (decide (0 ≤ s.Cols)) (
            (i_isMatrix r_5.1 (shl64 .i64 (1 : Int) s.Rows) (shl64 .i64 (1 : Int) s.Cols)).bind fun r_6 =>
            br (!r_6) (
              some false) (
              br (decide (0 ≤ s.Rows)) (
                br (decide (0 ≤ s.Cols)) (
                  (i_isMatrix r_5.2.1 (shl64 .i64 (1 : Int) s.Rows) (shl64 .i64 (1 : Int) s.Cols)).bind fun r_7 =>
                  br (!r_7) (
                    some false) (
                    br (decide (0 ≤ s.Rows)) (
                      br (decide (0 ≤ s.Cols)) (
                        (i_isMatrix r_5.2.2 (shl64 .i64 (1 : Int) s.Rows) (shl64 .i64 (1 : Int) s.Cols)).bind fun r_8 =>
                        br (!r_8) (
                          some false) (
                          some true)) (
                        none)) (
                      none))) (
                  none)) (
                none))) (
            none)) (
          none))))
theorem i_SystemOK_c {s r} (h : i_SystemOK s = some r) : Call tab ow 72 [.agg [I s.Rows, I s.Cols, I s.Publics, sl eEntry s.A, sl eEntry s.B, sl eEntry s.C]] [] = some (B r, []) := by
  rw [Call_run (af := a_i_SystemOK) rfl]
  unfold i_SystemOK at h
  simp +decide only [a_i_SystemOK, b_i_SystemOK, go_sem, reduceIte, Nat.reduceAdd, Int.reduceAdd, Int.reduceMul, Int.reduceSub]
  obtain ⟨r_, h1, h⟩ := bd h
  refine call_aftD (i_in_c h1) ?_
  simp +decide only [go_sem, reduceIte, Nat.reduceAdd, Int.reduceAdd, Int.reduceMul, Int.reduceSub]
  rcases brc h with ⟨hb, h⟩ | ⟨hb, h⟩
  · refine br_t hb ?_
    obtain rfl := Option.some.inj h
    first | rfl | (simp only [List.length_set, go_sem]; done)
  · refine br_f hb ?_
    obtain ⟨r_2, h1, h⟩ := bd h
    refine call_aftD (i_in_c h1) ?_
    simp +decide only [go_sem, reduceIte, Nat.reduceAdd, Int.reduceAdd, Int.reduceMul, Int.reduceSub]
    rcases brc h with ⟨hb, h⟩ | ⟨hb, h⟩
    · refine br_t hb ?_
      obtain rfl := Option.some.inj h
      first | rfl | (simp only [List.length_set, go_sem]; done)
    · refine br_f hb ?_
      obtain ⟨r_3, h1, h⟩ := bd h
      refine call_aftD (i_System_half_c h1) ?_
      simp +decide only [go_sem, reduceIte, Nat.reduceAdd, Int.reduceAdd, Int.reduceMul, Int.reduceSub]
      obtain ⟨r_4, h1, h⟩ := bd h
      refine call_aftD (i_in_c h1) ?_
      simp +decide only [go_sem, reduceIte, Nat.reduceAdd, Int.reduceAdd, Int.reduceMul, Int.reduceSub]
      rcases brc h with ⟨hb, h⟩ | ⟨hb, h⟩
      · refine br_t hb ?_
        obtain rfl := Option.some.inj h
        first | rfl | (simp only [List.length_set, go_sem]; done)
      · refine br_f hb ?_
        obtain ⟨r_5, h1, h⟩ := bd h
        refine call_aft (i_System_matrices_c h1) ?_
        simp +decide only [go_sem, reduceIte, Nat.reduceAdd, Int.reduceAdd, Int.reduceMul, Int.reduceSub]
        refine unroll_of ?_
        simp +decide only [b_i_SystemOK_4, go_sem, reduceIte, Nat.reduceAdd, Int.reduceAdd, Int.reduceMul, Int.reduceSub]
        obtain ⟨hb, h⟩ := brg h
        refine br_t hb ?_
        obtain ⟨hb, h⟩ := brg h
        refine br_t hb ?_
        obtain ⟨r_6, h1, h⟩ := bd h
        refine call_aftD (i_isMatrix_c h1) ?_
        simp +decide only [go_sem, reduceIte, Nat.reduceAdd, Int.reduceAdd, Int.reduceMul, Int.reduceSub]
        rcases brc h with ⟨hb, h⟩ | ⟨hb, h⟩
        · refine br_t hb ?_
          obtain rfl := Option.some.inj h
          first | rfl | (simp only [List.length_set, go_sem]; done)
        · refine br_f hb ?_
          refine unroll_of ?_
          simp +decide only [b_i_SystemOK_4, go_sem, reduceIte, Nat.reduceAdd, Int.reduceAdd, Int.reduceMul, Int.reduceSub]
          obtain ⟨hb, h⟩ := brg h
          refine br_t hb ?_
          obtain ⟨hb, h⟩ := brg h
          refine br_t hb ?_
          obtain ⟨r_7, h1, h⟩ := bd h
          refine call_aftD (i_isMatrix_c h1) ?_
          simp +decide only [go_sem, reduceIte, Nat.reduceAdd, Int.reduceAdd, Int.reduceMul, Int.reduceSub]
          rcases brc h with ⟨hb, h⟩ | ⟨hb, h⟩
          · refine br_t hb ?_
            obtain rfl := Option.some.inj h
            first | rfl | (simp only [List.length_set, go_sem]; done)
          · refine br_f hb ?_
            refine unroll_of ?_
            simp +decide only [b_i_SystemOK_4, go_sem, reduceIte, Nat.reduceAdd, Int.reduceAdd, Int.reduceMul, Int.reduceSub]
            obtain ⟨hb, h⟩ := brg h
            refine br_t hb ?_
            obtain ⟨hb, h⟩ := brg h
            refine br_t hb ?_
            obtain ⟨r_8, h1, h⟩ := bd h
            refine call_aftD (i_isMatrix_c h1) ?_
            simp +decide only [go_sem, reduceIte, Nat.reduceAdd, Int.reduceAdd, Int.reduceMul, Int.reduceSub]
            rcases brc h with ⟨hb, h⟩ | ⟨hb, h⟩
            · refine br_t hb ?_
              obtain rfl := Option.some.inj h
              first | rfl | (simp only [List.length_set, go_sem]; done)
            · refine br_f hb ?_
              refine unroll_of ?_
              simp +decide only [b_i_SystemOK_4, go_sem, reduceIte, Nat.reduceAdd, Int.reduceAdd, Int.reduceMul, Int.reduceSub]
              obtain rfl := Option.some.inj h
              first | rfl | (simp only [List.length_set, go_sem]; done)
noncomputable def i_SettingOK (t : Setting) : Option (Bool) :=
  (i_in t.Rate (1 : Int) (3 : Int)).bind fun r_ =>
  br r_ (
    (i_in t.Queries (1 : Int) (8 : Int)).bind fun r_2 =>
    br r_2 (
      (i_in t.Grind (0 : Int) (12 : Int)).bind fun r_3 =>
      some r_3) (
      some false)) (
    some false)
theorem i_SettingOK_c {t r} (h : i_SettingOK t = some r) : Call tab ow 129 [.agg [I t.Rate, I t.Queries, I t.Grind]] [] = some (B r, []) := by
  rw [Call_run (af := a_i_SettingOK) rfl]
  unfold i_SettingOK at h
  simp +decide only [a_i_SettingOK, b_i_SettingOK, go_sem, reduceIte, Nat.reduceAdd]
  have d1 := @i_in_c
  all_goals exact go
noncomputable def i_FieldOK (a : Int) : Option (Bool) :=
  (i_in a (0 : Int) (2130706432 : Int)).bind fun r_ =>
  some r_
theorem i_FieldOK_c {a r} (h : i_FieldOK a = some r) : Call tab ow 158 [I a] [] = some (B r, []) := by
  rw [Call_run (af := a_i_FieldOK) rfl]
  unfold i_FieldOK at h
  simp +decide only [a_i_FieldOK, b_i_FieldOK, go_sem, reduceIte, Nat.reduceAdd]
  have d1 := @i_in_c
  all_goals exact go
noncomputable def i_are_int_1_FieldOK (x : Int) : Option (Bool) :=
  (i_FieldOK x).bind fun r_ =>
  some (!r_)
theorem i_are_int_1_FieldOK_c {x r} (h : i_are_int_1_FieldOK x = some r) : Call tab ow 243 [I x, .ptr 0 0 0 1] [⟨1, true, [[.fn 158 []]]⟩] = some (B r, [⟨1, true, [[.fn 158 []]]⟩]) := by
  rw [Call_run (af := a_i_are_int_1) rfl]
  unfold i_are_int_1_FieldOK at h
  simp +decide only [a_i_are_int_1, b_i_are_int_1, go_sem, reduceIte, Nat.reduceAdd]
  have d1 := @i_FieldOK_c
  all_goals exact go
noncomputable def slices_IndexFunc_Lint_int_are_int_1_FieldOK_1_s (s2 : List Int) (t : Int) : Int → Option ((Int) ⊕ (Int ⊕ (Int × Bool)))
  | t2 =>
    br (decide (t2 < t)) (
      (atL s2 t2).bind fun x =>
      (i_are_int_1_FieldOK x).bind fun r_ =>
      br r_ (
        some (.inr (.inl t2))) (
        some (.inl (IntKind.wrap .i64 (t2 + (1 : Int)))))) (
      some (.inr (.inr (t2, decide (t2 < t)))))
@[reducible] def slices_IndexFunc_Lint_int_are_int_1_FieldOK_1_S (s2 : List Int) (t : Int) (s : Int) : St := ⟨[(0, sl eI s2), (1, .fn 243 [.ptr 0 0 0 1]), (7, I t), (8, I s)], [(0, ⟨1, true, [[.fn 158 []]]⟩)]⟩
@[reducible] def slices_IndexFunc_Lint_int_are_int_1_FieldOK_1_E (s2 : List Int) (t : Int) : (Int ⊕ (Int × Bool)) → AExit × St := alt (fun e => ((.ret, ⟨[(4, I e)], [(0, ⟨1, true, [[.fn 158 []]]⟩)]⟩) : AExit × St)) (fun e => (.exit 0, ⟨[(0, sl eI s2), (1, .fn 243 [.ptr 0 0 0 1]), (7, I t), (8, I e.1), (9, B e.2)], [(0, ⟨1, true, [[.fn 158 []]]⟩)]⟩))
theorem slices_IndexFunc_Lint_int_are_int_1_FieldOK_1_l {s2 t s e} (h : Loop (slices_IndexFunc_Lint_int_are_int_1_FieldOK_1_s s2 t) s = some e) : LoopX tab ow (.close [5005]) b_slices_IndexFunc_Lint_int_2 (slices_IndexFunc_Lint_int_are_int_1_FieldOK_1_S s2 t s) = some (slices_IndexFunc_Lint_int_are_int_1_FieldOK_1_E s2 t e) := by
  refine lrG (fun s o h => ?_) h
  simp only [slices_IndexFunc_Lint_int_are_int_1_FieldOK_1_s] at h
  simp +decide only [slices_IndexFunc_Lint_int_are_int_1_FieldOK_1_S, slices_IndexFunc_Lint_int_are_int_1_FieldOK_1_E, b_slices_IndexFunc_Lint_int_2, go_sem, reduceIte, Nat.reduceAdd]
  have d1 := @i_are_int_1_FieldOK_c
  all_goals exact go
noncomputable def slices_IndexFunc_Lint_int_are_int_1_FieldOK (s : (List Int)) : Option (Int) :=
  (Loop (slices_IndexFunc_Lint_int_are_int_1_FieldOK_1_s s ((s.length : Nat) : Int)) (0 : Int)).bind (alt (fun e_2 =>
    some e_2) (fun e_3 =>
    some (-1 : Int)))
theorem slices_IndexFunc_Lint_int_are_int_1_FieldOK_c {s r} (h : slices_IndexFunc_Lint_int_are_int_1_FieldOK s = some r) : Call tab ow 289 [sl eI s, .fn 243 [.ptr 0 0 0 1]] [⟨1, true, [[.fn 158 []]]⟩] = some (I r, [⟨1, true, [[.fn 158 []]]⟩]) := by
  rw [Call_run (af := a_slices_IndexFunc_Lint_int) rfl]
  unfold slices_IndexFunc_Lint_int_are_int_1_FieldOK at h
  simp +decide only [a_slices_IndexFunc_Lint_int, b_slices_IndexFunc_Lint_int, go_sem, reduceIte, Nat.reduceAdd]
  have d1 := @slices_IndexFunc_Lint_int_are_int_1_FieldOK_1_l
  all_goals exact go
noncomputable def slices_ContainsFunc_Lint_int_are_int_1_FieldOK (s : (List Int)) : Option (Bool) :=
  (slices_IndexFunc_Lint_int_are_int_1_FieldOK s).bind fun r_ =>
  some (decide (r_ ≥ (0 : Int)))
theorem slices_ContainsFunc_Lint_int_are_int_1_FieldOK_c {s r} (h : slices_ContainsFunc_Lint_int_are_int_1_FieldOK s = some r) : Call tab ow 242 [sl eI s, .fn 243 [.ptr 0 0 0 1]] [⟨1, true, [[.fn 158 []]]⟩] = some (B r, [⟨1, true, [[.fn 158 []]]⟩]) := by
  rw [Call_run (af := a_slices_ContainsFunc_Lint_int) rfl]
  unfold slices_ContainsFunc_Lint_int_are_int_1_FieldOK at h
  simp +decide only [a_slices_ContainsFunc_Lint_int, b_slices_ContainsFunc_Lint_int, go_sem, reduceIte, Nat.reduceAdd]
  have d1 := @slices_IndexFunc_Lint_int_are_int_1_FieldOK_c
  all_goals exact go
noncomputable def i_are_int_FieldOK (list : (List Int)) : Option (Bool) :=
  (slices_ContainsFunc_Lint_int_are_int_1_FieldOK list).bind fun r_ =>
  some (!r_)
theorem i_are_int_FieldOK_c {list r} (h : i_are_int_FieldOK list = some r) : Call tab ow 157 [.fn 158 [], sl eI list] [] = some (B r, []) := by
  rw [Call_run (af := a_i_are_int) rfl]
  unfold i_are_int_FieldOK at h
  simp +decide only [a_i_are_int, b_i_are_int, go_sem, reduceIte, Nat.reduceAdd]
  have d1 := @slices_ContainsFunc_Lint_int_are_int_1_FieldOK_c
  all_goals exact go
noncomputable def i_ExtOK (a : Ext) : Option (Bool) :=
  (i_FieldOK a.A).bind fun r_ =>
  br r_ (
    (i_FieldOK a.B).bind fun r_2 =>
    some r_2) (
    some false)
theorem i_ExtOK_c {a r} (h : i_ExtOK a = some r) : Call tab ow 74 [.agg [I a.A, I a.B]] [] = some (B r, []) := by
  rw [Call_run (af := a_i_ExtOK) rfl]
  unfold i_ExtOK at h
  simp +decide only [a_i_ExtOK, b_i_ExtOK, go_sem, reduceIte, Nat.reduceAdd]
  have d1 := @i_FieldOK_c
  all_goals exact go
noncomputable def i_are_i_Ext_1_ExtOK (x : Ext) : Option (Bool) :=
  (i_ExtOK x).bind fun r_ =>
  some (!r_)
theorem i_are_i_Ext_1_ExtOK_c {x r} (h : i_are_i_Ext_1_ExtOK x = some r) : Call tab ow 170 [.agg [I x.A, I x.B], .ptr 0 0 0 1] [⟨1, true, [[.fn 74 []]]⟩] = some (B r, [⟨1, true, [[.fn 74 []]]⟩]) := by
  rw [Call_run (af := a_i_are_i_Ext_1) rfl]
  unfold i_are_i_Ext_1_ExtOK at h
  simp +decide only [a_i_are_i_Ext_1, b_i_are_i_Ext_1, go_sem, reduceIte, Nat.reduceAdd]
  have d1 := @i_ExtOK_c
  all_goals exact go
noncomputable def slices_IndexFunc_Li_Ext_i_Ext_are_i_Ext_1_ExtOK_1_s (s2 : List Ext) (t : Int) : Int → Option ((Int) ⊕ (Int ⊕ (Int × Bool)))
  | t2 =>
    br (decide (t2 < t)) (
      (atL s2 t2).bind fun x =>
      (i_are_i_Ext_1_ExtOK x).bind fun r_ =>
      br r_ (
        some (.inr (.inl t2))) (
        some (.inl (IntKind.wrap .i64 (t2 + (1 : Int)))))) (
      some (.inr (.inr (t2, decide (t2 < t)))))
@[reducible] def slices_IndexFunc_Li_Ext_i_Ext_are_i_Ext_1_ExtOK_1_S (s2 : List Ext) (t : Int) (s : Int) : St := ⟨[(0, sl eExt s2), (1, .fn 170 [.ptr 0 0 0 1]), (7, I t), (8, I s)], [(0, ⟨1, true, [[.fn 74 []]]⟩)]⟩
@[reducible] def slices_IndexFunc_Li_Ext_i_Ext_are_i_Ext_1_ExtOK_1_E (s2 : List Ext) (t : Int) : (Int ⊕ (Int × Bool)) → AExit × St := alt (fun e => ((.ret, ⟨[(4, I e)], [(0, ⟨1, true, [[.fn 74 []]]⟩)]⟩) : AExit × St)) (fun e => (.exit 0, ⟨[(0, sl eExt s2), (1, .fn 170 [.ptr 0 0 0 1]), (7, I t), (8, I e.1), (9, B e.2)], [(0, ⟨1, true, [[.fn 74 []]]⟩)]⟩))
theorem slices_IndexFunc_Li_Ext_i_Ext_are_i_Ext_1_ExtOK_1_l {s2 t s e} (h : Loop (slices_IndexFunc_Li_Ext_i_Ext_are_i_Ext_1_ExtOK_1_s s2 t) s = some e) : LoopX tab ow (.close [5005]) b_slices_IndexFunc_Li_Ext_i_Ext_2 (slices_IndexFunc_Li_Ext_i_Ext_are_i_Ext_1_ExtOK_1_S s2 t s) = some (slices_IndexFunc_Li_Ext_i_Ext_are_i_Ext_1_ExtOK_1_E s2 t e) := by
  refine lrG (fun s o h => ?_) h
  simp only [slices_IndexFunc_Li_Ext_i_Ext_are_i_Ext_1_ExtOK_1_s] at h
  simp +decide only [slices_IndexFunc_Li_Ext_i_Ext_are_i_Ext_1_ExtOK_1_S, slices_IndexFunc_Li_Ext_i_Ext_are_i_Ext_1_ExtOK_1_E, b_slices_IndexFunc_Li_Ext_i_Ext_2, go_sem, reduceIte, Nat.reduceAdd]
  have d1 := @i_are_i_Ext_1_ExtOK_c
  all_goals exact go
noncomputable def slices_IndexFunc_Li_Ext_i_Ext_are_i_Ext_1_ExtOK (s : (List Ext)) : Option (Int) :=
  (Loop (slices_IndexFunc_Li_Ext_i_Ext_are_i_Ext_1_ExtOK_1_s s ((s.length : Nat) : Int)) (0 : Int)).bind (alt (fun e_2 =>
    some e_2) (fun e_3 =>
    some (-1 : Int)))
theorem slices_IndexFunc_Li_Ext_i_Ext_are_i_Ext_1_ExtOK_c {s r} (h : slices_IndexFunc_Li_Ext_i_Ext_are_i_Ext_1_ExtOK s = some r) : Call tab ow 247 [sl eExt s, .fn 170 [.ptr 0 0 0 1]] [⟨1, true, [[.fn 74 []]]⟩] = some (I r, [⟨1, true, [[.fn 74 []]]⟩]) := by
  rw [Call_run (af := a_slices_IndexFunc_Li_Ext_i_Ext) rfl]
  unfold slices_IndexFunc_Li_Ext_i_Ext_are_i_Ext_1_ExtOK at h
  simp +decide only [a_slices_IndexFunc_Li_Ext_i_Ext, b_slices_IndexFunc_Li_Ext_i_Ext, go_sem, reduceIte, Nat.reduceAdd]
  have d1 := @slices_IndexFunc_Li_Ext_i_Ext_are_i_Ext_1_ExtOK_1_l
  all_goals exact go
noncomputable def slices_ContainsFunc_Li_Ext_i_Ext_are_i_Ext_1_ExtOK (s : (List Ext)) : Option (Bool) :=
  (slices_IndexFunc_Li_Ext_i_Ext_are_i_Ext_1_ExtOK s).bind fun r_ =>
  some (decide (r_ ≥ (0 : Int)))
theorem slices_ContainsFunc_Li_Ext_i_Ext_are_i_Ext_1_ExtOK_c {s r} (h : slices_ContainsFunc_Li_Ext_i_Ext_are_i_Ext_1_ExtOK s = some r) : Call tab ow 169 [sl eExt s, .fn 170 [.ptr 0 0 0 1]] [⟨1, true, [[.fn 74 []]]⟩] = some (B r, [⟨1, true, [[.fn 74 []]]⟩]) := by
  rw [Call_run (af := a_slices_ContainsFunc_Li_Ext_i_Ext) rfl]
  unfold slices_ContainsFunc_Li_Ext_i_Ext_are_i_Ext_1_ExtOK at h
  simp +decide only [a_slices_ContainsFunc_Li_Ext_i_Ext, b_slices_ContainsFunc_Li_Ext_i_Ext, go_sem, reduceIte, Nat.reduceAdd]
  have d1 := @slices_IndexFunc_Li_Ext_i_Ext_are_i_Ext_1_ExtOK_c
  all_goals exact go
noncomputable def i_are_i_Ext_ExtOK (list : (List Ext)) : Option (Bool) :=
  (slices_ContainsFunc_Li_Ext_i_Ext_are_i_Ext_1_ExtOK list).bind fun r_ =>
  some (!r_)
theorem i_are_i_Ext_ExtOK_c {list r} (h : i_are_i_Ext_ExtOK list = some r) : Call tab ow 73 [.fn 74 [], sl eExt list] [] = some (B r, []) := by
  rw [Call_run (af := a_i_are_i_Ext) rfl]
  unfold i_are_i_Ext_ExtOK at h
  simp +decide only [a_i_are_i_Ext, b_i_are_i_Ext, go_sem, reduceIte, Nat.reduceAdd]
  have d1 := @slices_ContainsFunc_Li_Ext_i_Ext_are_i_Ext_1_ExtOK_c
  all_goals exact go
noncomputable def i_isHash (h_ : (List UInt8)) : Option (Bool) :=
  some (((h_.length : Nat) : Int) == (32 : Int))
theorem i_isHash_c {h_ r} (h : i_isHash h_ = some r) : Call tab ow 178 [S h_] [] = some (B r, []) := by
  rw [Call_run (af := a_i_isHash) rfl]
  unfold i_isHash at h
  simp +decide only [a_i_isHash, b_i_isHash, go_sem, reduceIte, Nat.reduceAdd]
  all_goals exact go
noncomputable def i_SourceOK (s : Source) : Option (Bool) :=
  br (decide (((s.Script.length : Nat) : Int) ≤ (64 : Int))) (
    (i_are_i_Ext_ExtOK s.Script).bind fun r_ =>
    br r_ (
      (i_isHash s.State).bind fun r_2 =>
      br r_2 (
        (i_in s.At (0 : Int) (1000000 : Int)).bind fun r_3 =>
        br r_3 (
          (i_in s.Count (0 : Int) (1000000 : Int)).bind fun r_4 =>
          some r_4) (
          some false)) (
        some false)) (
      some false)) (
    some false)
theorem i_SourceOK_c {s r} (h : i_SourceOK s = some r) : Call tab ow 90 [.agg [sl eExt s.Script, I s.At, S s.State, I s.Count]] [] = some (B r, []) := by
  rw [Call_run (af := a_i_SourceOK) rfl]
  unfold i_SourceOK at h
  simp +decide only [a_i_SourceOK, b_i_SourceOK, go_sem, reduceIte, Nat.reduceAdd]
  have d1 := @i_are_i_Ext_ExtOK_c
  have d2 := @i_isHash_c
  have d3 := @i_in_c
  all_goals exact go
noncomputable def i_Source_left (s : Source) : Option (Int) :=
  some (IntKind.wrap .i64 ((1000000 : Int) - (mx s.At s.Count)))
theorem i_Source_left_c {s r} (h : i_Source_left s = some r) : Call tab ow 91 [.agg [sl eExt s.Script, I s.At, S s.State, I s.Count]] [] = some (I r, []) := by
  rw [Call_run (af := a_i_Source_left) rfl]
  unfold i_Source_left at h
  simp +decide only [a_i_Source_left, b_i_Source_left, go_sem, reduceIte, Nat.reduceAdd]
  all_goals exact go
noncomputable def i_startCode (s : System) (t : Setting) (publics : (List Int)) (source : Source) : Option (Int) :=
  br (decide (((publics.length : Nat) : Int) > (4096 : Int))) (
    some (2 : Int)) (
    (i_SystemOK s).bind fun r_ =>
    br (!r_) (
      some (1 : Int)) (
      (i_SettingOK t).bind fun r_2 =>
      br (!r_2) (
        some (1 : Int)) (
        (i_are_int_FieldOK publics).bind fun r_3 =>
        br (!r_3) (
          some (1 : Int)) (
          (i_SourceOK source).bind fun r_4 =>
          br (!r_4) (
            some (1 : Int)) (
            br (((publics.length : Nat) : Int) != s.Publics) (
              some (17 : Int)) (
              (i_Source_left source).bind fun r_5 =>
              br (decide (r_5 < (200 : Int))) (
                some (6 : Int)) (
                some (0 : Int))))))))
theorem i_startCode_c {s t publics source r} (h : i_startCode s t publics source = some r) : Call tab ow 64 [.agg [I s.Rows, I s.Cols, I s.Publics, sl eEntry s.A, sl eEntry s.B, sl eEntry s.C], .agg [I t.Rate, I t.Queries, I t.Grind], sl eI publics, .agg [sl eExt source.Script, I source.At, S source.State, I source.Count]] [] = some (I r, []) := by
  rw [Call_run (af := a_i_startCode) rfl]
  unfold i_startCode at h
  simp +decide only [a_i_startCode, b_i_startCode, go_sem, reduceIte, Nat.reduceAdd]
  have d1 := @i_SystemOK_c
  have d2 := @i_SettingOK_c
  have d3 := @i_are_int_FieldOK_c
  have d4 := @i_SourceOK_c
  have d5 := @i_Source_left_c
  all_goals exact go
def slices_Clone_Li_Ext_i_Ext (l : List Ext) : Option (List Ext) := br (fits l.length 16) (some l) none
theorem slices_Clone_Li_Ext_i_Ext_x (x : Ext) (l : List Ext) (hf : fits (x :: l).length 16 = true) : Call (oneT 159 a_slices_Clone_Li_Ext_i_Ext) noOw 159 [sl eExt (x :: l)] [] = some (.sl 0 0 (x :: l).length, [⟨2, false, rws eExt (x :: l)⟩]) := by
  rw [Call_run (af := a_slices_Clone_Li_Ext_i_Ext) (oneT_self _ _)]
  rw [List.length_cons] at hf
  simp +decide only [a_slices_Clone_Li_Ext_i_Ext, b_slices_Clone_Li_Ext_i_Ext, fun k => mk0 eExt k, inS_cons, go_sem, reduceIte, Nat.reduceAdd, hf]
theorem slices_Clone_Li_Ext_i_Ext_c {l r : List Ext} (h : slices_Clone_Li_Ext_i_Ext l = some r) : Call tab ow 159 [sl eExt l] [] = some (.sl 0 0 r.length, [⟨2, false, rws eExt r⟩]) := by
  unfold slices_Clone_Li_Ext_i_Ext at h
  obtain ⟨hb, h⟩ := brg h
  cases h
  rw [Call_ext (g := cloneO 159 a_slices_Clone_Li_Ext_i_Ext 2) rfl]
  cases l with
  | nil => rfl
  | cons x l => exact slices_Clone_Li_Ext_i_Ext_x x l hb
noncomputable def i_Source_copied (s : Source) : Option (Source) :=
  (slices_Clone_Li_Ext_i_Ext s.Script).bind fun r_ =>
  some (Source.mk r_ s.At s.State s.Count)
theorem i_Source_copied_c {s r} (h : i_Source_copied s = some r) : Call tab ow 65 [.agg [sl eExt s.Script, I s.At, S s.State, I s.Count]] [] = some (.agg [sl eExt r.Script, I r.At, S r.State, I r.Count], []) := by
  rw [Call_run (af := a_i_Source_copied) rfl]
  unfold i_Source_copied at h
  simp +decide only [a_i_Source_copied, b_i_Source_copied, go_sem, reduceIte, Nat.reduceAdd]
  have d1 := @slices_Clone_Li_Ext_i_Ext_c
  all_goals exact go
section
theorem i_four_o_k0 : mkR 2012 [] = rws eU8 [] := rfl
attribute [local go_sem] i_four_o_k0
noncomputable def i_four_o (n : Int) (l : List UInt8) : Option ((List UInt8)) :=
  br (fits ((l ++ ([(UInt8.ofInt (shr64 .i64 n (24 : Int))), (UInt8.ofInt (shr64 .i64 n (16 : Int))), (UInt8.ofInt (shr64 .i64 n (8 : Int))), (UInt8.ofInt n)] : List UInt8)).length) 1) (
    some (l ++ ([(UInt8.ofInt (shr64 .i64 n (24 : Int))), (UInt8.ofInt (shr64 .i64 n (16 : Int))), (UInt8.ofInt (shr64 .i64 n (8 : Int))), (UInt8.ofInt n)] : List UInt8))) (
    none)
theorem i_four_o_c {n l r} (h : i_four_o n l = some r) : Call tab ow 161 [.sl 0 0 l.length, I n] [⟨1, false, rws eU8 l⟩] = some (.sl 0 0 r.length, [⟨1, false, rws eU8 r⟩]) := by
  rw [Call_run (af := a_i_four) rfl]
  unfold i_four_o at h
  simp +decide only [a_i_four, b_i_four, go_sem, reduceIte, Nat.reduceAdd]
  all_goals exact go
end
section
theorem i_System_digestText_k0 : mkR 2000 [] = rws eU8 [] := rfl
attribute [local go_sem] i_System_digestText_k0
theorem i_System_digestText_k1 : mkR 2011 [] = rws eU8 [] := rfl
attribute [local go_sem] i_System_digestText_k1
theorem i_System_digestText_k2 : mkR 10007 [] = rws eU8 [] := rfl
attribute [local go_sem] i_System_digestText_k2
noncomputable def i_System_digestText_1_s (l2 : List UInt8) (t : List Entry) (t2 : List Entry) (t3 : List Entry) (t4 : Int) (t5 : List Entry) (t6 : Int) (c : Int) (c2 : Int) (c3 : Int) (c4 : List Entry) (c5 : List Entry) (c6 : List Entry) : (List UInt8) × Int → Option (((List UInt8) × Int) ⊕ (((List UInt8) × Int × Bool)))
  | (l, t7) =>
    br (decide (t7 < t6)) (
      (atL t5 t7).bind fun x =>
      br (fits ((l ++ ([(UInt8.ofInt x.Row), (UInt8.ofInt x.Col)] : List UInt8)).length) 1) (
        (i_four_o x.Value (l ++ ([(UInt8.ofInt x.Row), (UInt8.ofInt x.Col)] : List UInt8))).bind fun r_3 =>
        some (.inl (r_3, (IntKind.wrap .i64 (t7 + (1 : Int)))))) (
        none)) (
      some (.inr (l, t7, decide (t7 < t6))))
@[reducible] def i_System_digestText_1_S (l2 : List UInt8) (t : List Entry) (t2 : List Entry) (t3 : List Entry) (t4 : Int) (t5 : List Entry) (t6 : Int) (c : Int) (c2 : Int) (c3 : Int) (c4 : List Entry) (c5 : List Entry) (c6 : List Entry) (s : (List UInt8) × Int) : St := ⟨[(3, .sl 2000 0 s.1.length), (22, .agg [sl eEntry t, sl eEntry t2, sl eEntry t3]), (23, I t4), (30, sl eEntry t5), (31, I t6), (32, I s.2)], [(1000, ⟨6, true, [[I c, I c2, I c3, sl eEntry c4, sl eEntry c5, sl eEntry c6]]⟩), (2000, ⟨1, false, rws eU8 s.1⟩), (2011, ⟨1, false, rws eU8 l2⟩)]⟩
@[reducible] def i_System_digestText_1_E (l2 : List UInt8) (t : List Entry) (t2 : List Entry) (t3 : List Entry) (t4 : Int) (t5 : List Entry) (t6 : Int) (c : Int) (c2 : Int) (c3 : Int) (c4 : List Entry) (c5 : List Entry) (c6 : List Entry) : ((List UInt8) × Int × Bool) → AExit × St := fun e => (.exit 2, ⟨[(3, .sl 2000 0 e.1.length), (22, .agg [sl eEntry t, sl eEntry t2, sl eEntry t3]), (23, I t4), (30, sl eEntry t5), (31, I t6), (32, I e.2.1), (33, B e.2.2)], [(1000, ⟨6, true, [[I c, I c2, I c3, sl eEntry c4, sl eEntry c5, sl eEntry c6]]⟩), (2000, ⟨1, false, rws eU8 e.1⟩), (2011, ⟨1, false, rws eU8 l2⟩)]⟩)
theorem i_System_digestText_1_l {l2 t t2 t3 t4 t5 t6 c c2 c3 c4 c5 c6 s e} (h : Loop (i_System_digestText_1_s l2 t t2 t3 t4 t5 t6 c c2 c3 c4 c5 c6) s = some e) : LoopX tab ow (.close [9002,10007,10008,10011]) b_i_System_digestText_7 (i_System_digestText_1_S l2 t t2 t3 t4 t5 t6 c c2 c3 c4 c5 c6 s) = some (i_System_digestText_1_E l2 t t2 t3 t4 t5 t6 c c2 c3 c4 c5 c6 e) := by
  refine lrG (fun s o h => ?_) h
  obtain ⟨_, _⟩ := s
  simp only [i_System_digestText_1_s] at h
  simp +decide only [i_System_digestText_1_S, i_System_digestText_1_E, b_i_System_digestText_7, go_sem, reduceIte, Nat.reduceAdd, Int.reduceAdd, Int.reduceMul, Int.reduceSub]
  have d1 := @i_four_o_c
  all_goals exact go
noncomputable def i_System_digestText_2_s (l4 : List UInt8) (t8 : List Entry) (t9 : List Entry) (t10 : List Entry) (t11 : Int) (t12 : List Entry) (t13 : Int) (c7 : Int) (c8 : Int) (c9 : Int) (c10 : List Entry) (c11 : List Entry) (c12 : List Entry) : (List UInt8) × Int → Option (((List UInt8) × Int) ⊕ (((List UInt8) × Int × Bool)))
  | (l3, t14) =>
    br (decide (t14 < t13)) (
      (atL t12 t14).bind fun x2 =>
      br (fits ((l3 ++ ([(UInt8.ofInt x2.Row), (UInt8.ofInt x2.Col)] : List UInt8)).length) 1) (
        (i_four_o x2.Value (l3 ++ ([(UInt8.ofInt x2.Row), (UInt8.ofInt x2.Col)] : List UInt8))).bind fun r_5 =>
        some (.inl (r_5, (IntKind.wrap .i64 (t14 + (1 : Int)))))) (
        none)) (
      some (.inr (l3, t14, decide (t14 < t13))))
@[reducible] def i_System_digestText_2_S (l4 : List UInt8) (t8 : List Entry) (t9 : List Entry) (t10 : List Entry) (t11 : Int) (t12 : List Entry) (t13 : Int) (c7 : Int) (c8 : Int) (c9 : Int) (c10 : List Entry) (c11 : List Entry) (c12 : List Entry) (s : (List UInt8) × Int) : St := ⟨[(3, .sl 2000 0 s.1.length), (22, .agg [sl eEntry t8, sl eEntry t9, sl eEntry t10]), (23, I t11), (30, sl eEntry t12), (31, I t13), (32, I s.2)], [(1000, ⟨6, true, [[I c7, I c8, I c9, sl eEntry c10, sl eEntry c11, sl eEntry c12]]⟩), (2000, ⟨1, false, rws eU8 s.1⟩), (2011, ⟨1, false, rws eU8 l4⟩)]⟩
@[reducible] def i_System_digestText_2_E (l4 : List UInt8) (t8 : List Entry) (t9 : List Entry) (t10 : List Entry) (t11 : Int) (t12 : List Entry) (t13 : Int) (c7 : Int) (c8 : Int) (c9 : Int) (c10 : List Entry) (c11 : List Entry) (c12 : List Entry) : ((List UInt8) × Int × Bool) → AExit × St := fun e => (.exit 2, ⟨[(3, .sl 2000 0 e.1.length), (22, .agg [sl eEntry t8, sl eEntry t9, sl eEntry t10]), (23, I t11), (30, sl eEntry t12), (31, I t13), (32, I e.2.1), (33, B e.2.2)], [(1000, ⟨6, true, [[I c7, I c8, I c9, sl eEntry c10, sl eEntry c11, sl eEntry c12]]⟩), (2000, ⟨1, false, rws eU8 e.1⟩), (2011, ⟨1, false, rws eU8 l4⟩)]⟩)
theorem i_System_digestText_2_l {l4 t8 t9 t10 t11 t12 t13 c7 c8 c9 c10 c11 c12 s e} (h : Loop (i_System_digestText_2_s l4 t8 t9 t10 t11 t12 t13 c7 c8 c9 c10 c11 c12) s = some e) : LoopX tab ow (.close [9002,10007,10008,10011]) b_i_System_digestText_7 (i_System_digestText_2_S l4 t8 t9 t10 t11 t12 t13 c7 c8 c9 c10 c11 c12 s) = some (i_System_digestText_2_E l4 t8 t9 t10 t11 t12 t13 c7 c8 c9 c10 c11 c12 e) := by
  refine lrG (fun s o h => ?_) h
  obtain ⟨_, _⟩ := s
  simp only [i_System_digestText_2_s] at h
  simp +decide only [i_System_digestText_2_S, i_System_digestText_2_E, b_i_System_digestText_7, go_sem, reduceIte, Nat.reduceAdd, Int.reduceAdd, Int.reduceMul, Int.reduceSub]
  have d1 := @i_four_o_c
  all_goals exact go
noncomputable def i_System_digestText_3_s (l6 : List UInt8) (t15 : List Entry) (t16 : List Entry) (t17 : List Entry) (t18 : Int) (t19 : List Entry) (t20 : Int) (c13 : Int) (c14 : Int) (c15 : Int) (c16 : List Entry) (c17 : List Entry) (c18 : List Entry) : (List UInt8) × Int → Option (((List UInt8) × Int) ⊕ (((List UInt8) × Int × Bool)))
  | (l5, t21) =>
    br (decide (t21 < t20)) (
      (atL t19 t21).bind fun x3 =>
      br (fits ((l5 ++ ([(UInt8.ofInt x3.Row), (UInt8.ofInt x3.Col)] : List UInt8)).length) 1) (
        (i_four_o x3.Value (l5 ++ ([(UInt8.ofInt x3.Row), (UInt8.ofInt x3.Col)] : List UInt8))).bind fun r_7 =>
        some (.inl (r_7, (IntKind.wrap .i64 (t21 + (1 : Int)))))) (
        none)) (
      some (.inr (l5, t21, decide (t21 < t20))))
@[reducible] def i_System_digestText_3_S (l6 : List UInt8) (t15 : List Entry) (t16 : List Entry) (t17 : List Entry) (t18 : Int) (t19 : List Entry) (t20 : Int) (c13 : Int) (c14 : Int) (c15 : Int) (c16 : List Entry) (c17 : List Entry) (c18 : List Entry) (s : (List UInt8) × Int) : St := ⟨[(3, .sl 2000 0 s.1.length), (22, .agg [sl eEntry t15, sl eEntry t16, sl eEntry t17]), (23, I t18), (30, sl eEntry t19), (31, I t20), (32, I s.2)], [(1000, ⟨6, true, [[I c13, I c14, I c15, sl eEntry c16, sl eEntry c17, sl eEntry c18]]⟩), (2000, ⟨1, false, rws eU8 s.1⟩), (2011, ⟨1, false, rws eU8 l6⟩)]⟩
@[reducible] def i_System_digestText_3_E (l6 : List UInt8) (t15 : List Entry) (t16 : List Entry) (t17 : List Entry) (t18 : Int) (t19 : List Entry) (t20 : Int) (c13 : Int) (c14 : Int) (c15 : Int) (c16 : List Entry) (c17 : List Entry) (c18 : List Entry) : ((List UInt8) × Int × Bool) → AExit × St := fun e => (.exit 2, ⟨[(3, .sl 2000 0 e.1.length), (22, .agg [sl eEntry t15, sl eEntry t16, sl eEntry t17]), (23, I t18), (30, sl eEntry t19), (31, I t20), (32, I e.2.1), (33, B e.2.2)], [(1000, ⟨6, true, [[I c13, I c14, I c15, sl eEntry c16, sl eEntry c17, sl eEntry c18]]⟩), (2000, ⟨1, false, rws eU8 e.1⟩), (2011, ⟨1, false, rws eU8 l6⟩)]⟩)
theorem i_System_digestText_3_l {l6 t15 t16 t17 t18 t19 t20 c13 c14 c15 c16 c17 c18 s e} (h : Loop (i_System_digestText_3_s l6 t15 t16 t17 t18 t19 t20 c13 c14 c15 c16 c17 c18) s = some e) : LoopX tab ow (.close [9002,10007,10008,10011]) b_i_System_digestText_7 (i_System_digestText_3_S l6 t15 t16 t17 t18 t19 t20 c13 c14 c15 c16 c17 c18 s) = some (i_System_digestText_3_E l6 t15 t16 t17 t18 t19 t20 c13 c14 c15 c16 c17 c18 e) := by
  refine lrG (fun s o h => ?_) h
  obtain ⟨_, _⟩ := s
  simp only [i_System_digestText_3_s] at h
  simp +decide only [i_System_digestText_3_S, i_System_digestText_3_E, b_i_System_digestText_7, go_sem, reduceIte, Nat.reduceAdd, Int.reduceAdd, Int.reduceMul, Int.reduceSub]
  have d1 := @i_four_o_c
  all_goals exact go
noncomputable def i_System_digestText (s : System) : Option ((List UInt8)) :=
  br (fits ((([(115 : UInt8), (121 : UInt8), (115 : UInt8), (116 : UInt8), (101 : UInt8), (109 : UInt8)] : List UInt8) ++ ([(UInt8.ofInt s.Rows), (UInt8.ofInt s.Cols), (UInt8.ofInt s.Publics)] : List UInt8)).length) 1) (
    (i_System_matrices s).bind fun r_ =>
    (i_four_o ((r_.1.length : Nat) : Int) (([(115 : UInt8), (121 : UInt8), (115 : UInt8), (116 : UInt8), (101 : UInt8), (109 : UInt8)] : List UInt8) ++ ([(UInt8.ofInt s.Rows), (UInt8.ofInt s.Cols), (UInt8.ofInt s.Publics)] : List UInt8))).bind fun r_2 =>
    (Loop (i_System_digestText_1_s ([(UInt8.ofInt s.Rows), (UInt8.ofInt s.Cols), (UInt8.ofInt s.Publics)] : List UInt8) r_.1 r_.2.1 r_.2.2 (0 : Int) r_.1 ((r_.1.length : Nat) : Int) s.Rows s.Cols s.Publics s.A s.B s.C) (r_2, (0 : Int))).bind fun e_ =>
    (i_four_o ((r_.2.1.length : Nat) : Int) e_.1).bind fun r_4 =>
    (Loop (i_System_digestText_2_s ([(UInt8.ofInt s.Rows), (UInt8.ofInt s.Cols), (UInt8.ofInt s.Publics)] : List UInt8) r_.1 r_.2.1 r_.2.2 (1 : Int) r_.2.1 ((r_.2.1.length : Nat) : Int) s.Rows s.Cols s.Publics s.A s.B s.C) (r_4, (0 : Int))).bind fun e_2 =>
    (i_four_o ((r_.2.2.length : Nat) : Int) e_2.1).bind fun r_6 =>
    (Loop (i_System_digestText_3_s ([(UInt8.ofInt s.Rows), (UInt8.ofInt s.Cols), (UInt8.ofInt s.Publics)] : List UInt8) r_.1 r_.2.1 r_.2.2 (2 : Int) r_.2.2 ((r_.2.2.length : Nat) : Int) s.Rows s.Cols s.Publics s.A s.B s.C) (r_6, (0 : Int))).bind fun e_3 =>
    some e_3.1) (
    none)
theorem i_System_digestText_c {s r} (h : i_System_digestText s = some r) : Call tab ow 162 [.agg [I s.Rows, I s.Cols, I s.Publics, sl eEntry s.A, sl eEntry s.B, sl eEntry s.C]] [] = some (sl eU8 r, []) := by
  rw [Call_run (af := a_i_System_digestText) rfl]
  unfold i_System_digestText at h
  simp +decide only [a_i_System_digestText, b_i_System_digestText, go_sem, reduceIte, Nat.reduceAdd, Int.reduceAdd, Int.reduceMul, Int.reduceSub]
  obtain ⟨hb, h⟩ := brg h
  refine br_t hb ?_
  obtain ⟨r_, h1, h⟩ := bd h
  refine call_aft (i_System_matrices_c h1) ?_
  simp +decide only [go_sem, reduceIte, Nat.reduceAdd, Int.reduceAdd, Int.reduceMul, Int.reduceSub]
  refine unroll_of ?_
  simp +decide only [b_i_System_digestText_3, go_sem, reduceIte, Nat.reduceAdd, Int.reduceAdd, Int.reduceMul, Int.reduceSub]
  obtain ⟨r_2, h1, h⟩ := bd h
  refine call_aft (i_four_o_c h1) ?_
  simp +decide only [go_sem, reduceIte, Nat.reduceAdd, Int.reduceAdd, Int.reduceMul, Int.reduceSub]
  obtain ⟨e_, h1, h⟩ := bd h
  refine goR_of (i_System_digestText_1_l h1) ?_
  simp +decide only [go_sem, reduceIte, Nat.reduceAdd, Int.reduceAdd, Int.reduceMul, Int.reduceSub]
  refine unroll_of ?_
  simp +decide only [b_i_System_digestText_3, go_sem, reduceIte, Nat.reduceAdd, Int.reduceAdd, Int.reduceMul, Int.reduceSub]
  obtain ⟨r_4, h1, h⟩ := bd h
  refine call_aft (i_four_o_c h1) ?_
  simp +decide only [go_sem, reduceIte, Nat.reduceAdd, Int.reduceAdd, Int.reduceMul, Int.reduceSub]
  obtain ⟨e_2, h1, h⟩ := bd h
  refine goR_of (i_System_digestText_2_l h1) ?_
  simp +decide only [go_sem, reduceIte, Nat.reduceAdd, Int.reduceAdd, Int.reduceMul, Int.reduceSub]
  refine unroll_of ?_
  simp +decide only [b_i_System_digestText_3, go_sem, reduceIte, Nat.reduceAdd, Int.reduceAdd, Int.reduceMul, Int.reduceSub]
  obtain ⟨r_6, h1, h⟩ := bd h
  refine call_aft (i_four_o_c h1) ?_
  simp +decide only [go_sem, reduceIte, Nat.reduceAdd, Int.reduceAdd, Int.reduceMul, Int.reduceSub]
  obtain ⟨e_3, h1, h⟩ := bd h
  refine goR_of (i_System_digestText_3_l h1) ?_
  simp +decide only [go_sem, reduceIte, Nat.reduceAdd, Int.reduceAdd, Int.reduceMul, Int.reduceSub]
  refine unroll_of ?_
  simp +decide only [b_i_System_digestText_3, go_sem, reduceIte, Nat.reduceAdd, Int.reduceAdd, Int.reduceMul, Int.reduceSub]
  obtain rfl := Option.some.inj h
  first | rfl | (simp only [List.length_set, go_sem]; done)
end
end Go.AI.Fn

set_option linter.unusedVariables false
set_option linter.unusedSimpArgs false
set_option maxRecDepth 100000
set_option maxHeartbeats 1000000
namespace Go.AI.Fn
noncomputable def i_lanesOf_1_s (m : List Int) (t : List UInt8) (t2 : Int) : (List Int) × Int → Option (((List Int) × Int) ⊕ (((List Int) × Int × Bool)))
  | (m2, t3) =>
    br (decide (t3 < t2)) (
      (atL t t3).bind fun x =>
      br (decide (0 ≤ (IntKind.wrap .i64 (t3.tdiv (8 : Int)))) && decide ((IntKind.wrap .i64 (t3.tdiv (8 : Int))).toNat < 25)) (
        (m2[(IntKind.wrap .i64 (t3.tdiv (8 : Int))).toNat]?).bind fun x2 =>
        br (decide (0 ≤ (IntKind.wrap .i64 ((8 : Int) * (t3.tmod (8 : Int)))))) (
          br (decide (0 ≤ (IntKind.wrap .i64 (t3.tdiv (8 : Int)))) && decide ((IntKind.wrap .i64 (t3.tdiv (8 : Int))).toNat < 25)) (
            br (decide ((IntKind.wrap .i64 (t3.tdiv (8 : Int))).toNat < m2.length)) (
              some (.inl ((m2.set ((IntKind.wrap .i64 (t3.tdiv (8 : Int))).toNat) (or64 .u64 x2 (shl64 .u64 (IntKind.wrap .u64 (x.toNat : Int)) (IntKind.wrap .i64 ((8 : Int) * (t3.tmod (8 : Int))))))), (IntKind.wrap .i64 (t3 + (1 : Int)))))) (
              none)) (
            none)) (
          none)) (
        none)) (
      some (.inr (m2, t3, decide (t3 < t2))))
@[reducible] def i_lanesOf_1_S (m : List Int) (t : List UInt8) (t2 : Int) (s : (List Int) × Int) : St := ⟨[(2, .ptr 1000 0 0 1), (3, .ptr 2001 0 0 1), (7, sl eU8 t), (8, I t2), (9, I s.2)], [(1000, ⟨25, true, [ar .u64 m]⟩), (2001, ⟨25, true, [ar .u64 s.1]⟩)]⟩
@[reducible] def i_lanesOf_1_E (m : List Int) (t : List UInt8) (t2 : Int) : ((List Int) × Int × Bool) → AExit × St := fun e => (.exit 0, ⟨[(2, .ptr 1000 0 0 1), (3, .ptr 2001 0 0 1), (7, sl eU8 t), (8, I t2), (9, I e.2.1), (10, B e.2.2)], [(1000, ⟨25, true, [ar .u64 m]⟩), (2001, ⟨25, true, [ar .u64 e.1]⟩)]⟩)
theorem i_lanesOf_1_l {m t t2 s e} (h : Loop (i_lanesOf_1_s m t t2) s = some e) : LoopX tab ow (.close []) b_i_lanesOf_3 (i_lanesOf_1_S m t t2 s) = some (i_lanesOf_1_E m t t2 e) := by
  refine lrG (fun s o h => ?_) h
  obtain ⟨_, _⟩ := s
  simp only [i_lanesOf_1_s] at h
  simp +decide only [i_lanesOf_1_S, i_lanesOf_1_E, b_i_lanesOf_3, go_sem, reduceIte, Nat.reduceAdd]
  all_goals exact go
noncomputable def i_lanesOf (state : (List UInt8)) : Option ((List Int)) :=
  (Loop (i_lanesOf_1_s (nZ 25) state ((state.length : Nat) : Int)) ((nZ 25), (0 : Int))).bind fun e_ =>
  br (decide (e_.1.length = 25)) (
    br (decide (e_.1.length = 25)) (
      br (decide (e_.1.length = 25)) (
        some e_.1) (
        none)) (
      none)) (
    none)
theorem i_lanesOf_c {state r} (h : i_lanesOf state = some r) : Call tab ow 244 [sl eU8 state] [] = some (.agg (ar .u64 r), []) := by
  rw [Call_run (af := a_i_lanesOf) rfl]
  unfold i_lanesOf at h
  simp +decide only [a_i_lanesOf, b_i_lanesOf, go_sem, reduceIte, Nat.reduceAdd]
  have d1 := @i_lanesOf_1_l
  all_goals exact go
noncomputable def math_bits_RotateLeft64 (x : Int) (k : Int) : Option (Int) :=
  br (decide (0 ≤ (and64 .u64 (IntKind.wrap .u64 k) (63 : Int)))) (
    br (decide (0 ≤ (IntKind.wrap .u64 ((64 : Int) - (and64 .u64 (IntKind.wrap .u64 k) (63 : Int)))))) (
      some (or64 .u64 (shl64 .u64 x (and64 .u64 (IntKind.wrap .u64 k) (63 : Int))) (shr64 .u64 x (IntKind.wrap .u64 ((64 : Int) - (and64 .u64 (IntKind.wrap .u64 k) (63 : Int))))))) (
      none)) (
    none)
theorem math_bits_RotateLeft64_c {x k r} (h : math_bits_RotateLeft64 x k = some r) : Call tab ow 290 [.lit (.int .u64 x), I k] [] = some (.lit (.int .u64 r), []) := by
  rw [Call_run (af := a_math_bits_RotateLeft64) rfl]
  unfold math_bits_RotateLeft64 at h
  simp +decide only [a_math_bits_RotateLeft64, b_math_bits_RotateLeft64, go_sem, reduceIte, Nat.reduceAdd]
  all_goals exact go
noncomputable def i_lanes_permute_2_s (m5 : List Int) (m6 : List Int) (m7 : List Int) (m9 : List Int) (t3 : Int) (t4 : List Int) (t5 : Int) : (List Int) × Int → Option (((List Int) × Int) ⊕ (((List Int) × Int × Bool)))
  | (m8, t6) =>
    br (decide (t6 < (25 : Int))) (
      br (decide (0 ≤ t6) && decide (t6.toNat < 25)) (
        (m5[t6.toNat]?).bind fun x2 =>
        br (decide (0 ≤ (t6.tmod (5 : Int))) && decide ((t6.tmod (5 : Int)).toNat < 5)) (
          (m8[(t6.tmod (5 : Int)).toNat]?).bind fun x3 =>
          br (decide (0 ≤ (t6.tmod (5 : Int))) && decide ((t6.tmod (5 : Int)).toNat < 5)) (
            br (decide ((t6.tmod (5 : Int)).toNat < m8.length)) (
              some (.inl ((m8.set ((t6.tmod (5 : Int)).toNat) (xor64 .u64 x3 x2)), (IntKind.wrap .i64 (t6 + (1 : Int)))))) (
              none)) (
            none)) (
          none)) (
        none)) (
      some (.inr (m8, t6, decide (t6 < (25 : Int)))))
@[reducible] def i_lanes_permute_2_S (m5 : List Int) (m6 : List Int) (m7 : List Int) (m9 : List Int) (t3 : Int) (t4 : List Int) (t5 : Int) (s : (List Int) × Int) : St := ⟨[(0, .ptr 0 0 0 1), (2, .ptr 1001 0 0 1), (5, .lit (.int .u64 t3)), (6, .ptr 6002 0 0 1), (7, .ptr 6003 0 0 1), (20, .agg (ar .u64 t4)), (21, I t5), (26, .ptr 0 0 0 1), (27, I s.2)], [(0, ⟨25, true, [ar .u64 m5]⟩), (1001, ⟨25, true, [ar .i64 m6]⟩), (2001, ⟨24, true, [ar .u64 m7]⟩), (6002, ⟨5, true, [ar .u64 s.1]⟩), (6003, ⟨25, true, [ar .u64 m9]⟩)]⟩
@[reducible] def i_lanes_permute_2_E (m5 : List Int) (m6 : List Int) (m7 : List Int) (m9 : List Int) (t3 : Int) (t4 : List Int) (t5 : Int) : ((List Int) × Int × Bool) → AExit × St := fun e => (.exit 2, ⟨[(0, .ptr 0 0 0 1), (2, .ptr 1001 0 0 1), (5, .lit (.int .u64 t3)), (6, .ptr 6002 0 0 1), (7, .ptr 6003 0 0 1), (20, .agg (ar .u64 t4)), (21, I t5), (26, .ptr 0 0 0 1), (27, I e.2.1), (28, B e.2.2)], [(0, ⟨25, true, [ar .u64 m5]⟩), (1001, ⟨25, true, [ar .i64 m6]⟩), (2001, ⟨24, true, [ar .u64 m7]⟩), (6002, ⟨5, true, [ar .u64 e.1]⟩), (6003, ⟨25, true, [ar .u64 m9]⟩)]⟩)
theorem i_lanes_permute_2_l {m5 m6 m7 m9 t3 t4 t5 s e} (h : Loop (i_lanes_permute_2_s m5 m6 m7 m9 t3 t4 t5) s = some e) : LoopX tab ow (.close []) b_i_lanes_permute_7 (i_lanes_permute_2_S m5 m6 m7 m9 t3 t4 t5 s) = some (i_lanes_permute_2_E m5 m6 m7 m9 t3 t4 t5 e) := by
  refine lrG (fun s o h => ?_) h
  obtain ⟨_, _⟩ := s
  simp only [i_lanes_permute_2_s] at h
  simp +decide only [i_lanes_permute_2_S, i_lanes_permute_2_E, b_i_lanes_permute_7, go_sem, reduceIte, Nat.reduceAdd]
  all_goals exact go
noncomputable def i_lanes_permute_3_s (m10 : List Int) (m11 : List Int) (m12 : List Int) (m13 : List Int) (t7 : Int) (t8 : List Int) (t9 : Int) : (List Int) × Int → Option (((List Int) × Int) ⊕ (((List Int) × Int × Bool)))
  | (m14, t10) =>
    br (decide (t10 < (25 : Int))) (
      br (decide (0 ≤ t10) && decide (t10.toNat < 25)) (
        (m10[t10.toNat]?).bind fun x4 =>
        br (decide (0 ≤ ((IntKind.wrap .i64 ((t10.tmod (5 : Int)) + (4 : Int))).tmod (5 : Int))) && decide (((IntKind.wrap .i64 ((t10.tmod (5 : Int)) + (4 : Int))).tmod (5 : Int)).toNat < 5)) (
          (m13[((IntKind.wrap .i64 ((t10.tmod (5 : Int)) + (4 : Int))).tmod (5 : Int)).toNat]?).bind fun x5 =>
          br (decide (0 ≤ ((IntKind.wrap .i64 ((t10.tmod (5 : Int)) + (1 : Int))).tmod (5 : Int))) && decide (((IntKind.wrap .i64 ((t10.tmod (5 : Int)) + (1 : Int))).tmod (5 : Int)).toNat < 5)) (
            (m13[((IntKind.wrap .i64 ((t10.tmod (5 : Int)) + (1 : Int))).tmod (5 : Int)).toNat]?).bind fun x6 =>
            (math_bits_RotateLeft64 x6 (1 : Int)).bind fun r_ =>
            br (decide (0 ≤ t10) && decide (t10.toNat < 25)) (
              (m11[t10.toNat]?).bind fun x7 =>
              (math_bits_RotateLeft64 (xor64 .u64 x4 (xor64 .u64 x5 r_)) x7).bind fun r_2 =>
              br (decide (0 ≤ (IntKind.wrap .i64 ((IntKind.wrap .i64 (t10.tdiv (5 : Int))) + (IntKind.wrap .i64 ((5 : Int) * ((IntKind.wrap .i64 ((IntKind.wrap .i64 ((2 : Int) * (t10.tmod (5 : Int)))) + (IntKind.wrap .i64 ((3 : Int) * (IntKind.wrap .i64 (t10.tdiv (5 : Int))))))).tmod (5 : Int))))))) && decide ((IntKind.wrap .i64 ((IntKind.wrap .i64 (t10.tdiv (5 : Int))) + (IntKind.wrap .i64 ((5 : Int) * ((IntKind.wrap .i64 ((IntKind.wrap .i64 ((2 : Int) * (t10.tmod (5 : Int)))) + (IntKind.wrap .i64 ((3 : Int) * (IntKind.wrap .i64 (t10.tdiv (5 : Int))))))).tmod (5 : Int)))))).toNat < 25)) (
                br (decide ((IntKind.wrap .i64 ((IntKind.wrap .i64 (t10.tdiv (5 : Int))) + (IntKind.wrap .i64 ((5 : Int) * ((IntKind.wrap .i64 ((IntKind.wrap .i64 ((2 : Int) * (t10.tmod (5 : Int)))) + (IntKind.wrap .i64 ((3 : Int) * (IntKind.wrap .i64 (t10.tdiv (5 : Int))))))).tmod (5 : Int)))))).toNat < m14.length)) (
                  some (.inl ((m14.set ((IntKind.wrap .i64 ((IntKind.wrap .i64 (t10.tdiv (5 : Int))) + (IntKind.wrap .i64 ((5 : Int) * ((IntKind.wrap .i64 ((IntKind.wrap .i64 ((2 : Int) * (t10.tmod (5 : Int)))) + (IntKind.wrap .i64 ((3 : Int) * (IntKind.wrap .i64 (t10.tdiv (5 : Int))))))).tmod (5 : Int)))))).toNat) r_2), (IntKind.wrap .i64 (t10 + (1 : Int)))))) (
                  none)) (
                none)) (
              none)) (
            none)) (
          none)) (
        none)) (
      some (.inr (m14, t10, decide (t10 < (25 : Int)))))
@[reducible] def i_lanes_permute_3_S (m10 : List Int) (m11 : List Int) (m12 : List Int) (m13 : List Int) (t7 : Int) (t8 : List Int) (t9 : Int) (s : (List Int) × Int) : St := ⟨[(0, .ptr 0 0 0 1), (2, .ptr 1001 0 0 1), (5, .lit (.int .u64 t7)), (6, .ptr 6002 0 0 1), (7, .ptr 6003 0 0 1), (20, .agg (ar .u64 t8)), (21, I t9), (41, .ptr 0 0 0 1), (42, I s.2)], [(0, ⟨25, true, [ar .u64 m10]⟩), (1001, ⟨25, true, [ar .i64 m11]⟩), (2001, ⟨24, true, [ar .u64 m12]⟩), (6002, ⟨5, true, [ar .u64 m13]⟩), (6003, ⟨25, true, [ar .u64 s.1]⟩)]⟩
@[reducible] def i_lanes_permute_3_E (m10 : List Int) (m11 : List Int) (m12 : List Int) (m13 : List Int) (t7 : Int) (t8 : List Int) (t9 : Int) : ((List Int) × Int × Bool) → AExit × St := fun e => (.exit 4, ⟨[(0, .ptr 0 0 0 1), (2, .ptr 1001 0 0 1), (5, .lit (.int .u64 t7)), (6, .ptr 6002 0 0 1), (7, .ptr 6003 0 0 1), (20, .agg (ar .u64 t8)), (21, I t9), (41, .ptr 0 0 0 1), (42, I e.2.1), (43, B e.2.2)], [(0, ⟨25, true, [ar .u64 m10]⟩), (1001, ⟨25, true, [ar .i64 m11]⟩), (2001, ⟨24, true, [ar .u64 m12]⟩), (6002, ⟨5, true, [ar .u64 m13]⟩), (6003, ⟨25, true, [ar .u64 e.1]⟩)]⟩)
theorem i_lanes_permute_3_l {m10 m11 m12 m13 t7 t8 t9 s e} (h : Loop (i_lanes_permute_3_s m10 m11 m12 m13 t7 t8 t9) s = some e) : LoopX tab ow (.close [16011,17013]) b_i_lanes_permute_12 (i_lanes_permute_3_S m10 m11 m12 m13 t7 t8 t9 s) = some (i_lanes_permute_3_E m10 m11 m12 m13 t7 t8 t9 e) := by
  refine lrG (fun s o h => ?_) h
  obtain ⟨_, _⟩ := s
  simp only [i_lanes_permute_3_s] at h
  simp +decide only [i_lanes_permute_3_S, i_lanes_permute_3_E, b_i_lanes_permute_12, go_sem, reduceIte, Nat.reduceAdd]
  have d1 := @math_bits_RotateLeft64_c
  all_goals exact go
noncomputable def i_lanes_permute_4_s (m16 : List Int) (m17 : List Int) (m18 : List Int) (m19 : List Int) (t11 : Int) (t12 : List Int) (t13 : Int) (t14 : List Int) : (List Int) × Int → Option (((List Int) × Int) ⊕ (((List Int) × Int × Bool)))
  | (m15, t15) =>
    br (decide (t15 < (25 : Int))) (
      br (decide (0 ≤ t15) && decide (t15.toNat < 25)) (
        (t14[t15.toNat]?).bind fun x8 =>
        br (decide (0 ≤ (IntKind.wrap .i64 ((IntKind.wrap .i64 (t15 - (t15.tmod (5 : Int)))) + ((IntKind.wrap .i64 ((t15.tmod (5 : Int)) + (2 : Int))).tmod (5 : Int))))) && decide ((IntKind.wrap .i64 ((IntKind.wrap .i64 (t15 - (t15.tmod (5 : Int)))) + ((IntKind.wrap .i64 ((t15.tmod (5 : Int)) + (2 : Int))).tmod (5 : Int)))).toNat < 25)) (
          (m19[(IntKind.wrap .i64 ((IntKind.wrap .i64 (t15 - (t15.tmod (5 : Int)))) + ((IntKind.wrap .i64 ((t15.tmod (5 : Int)) + (2 : Int))).tmod (5 : Int)))).toNat]?).bind fun x9 =>
          br (decide (0 ≤ (IntKind.wrap .i64 ((IntKind.wrap .i64 (t15 - (t15.tmod (5 : Int)))) + ((IntKind.wrap .i64 ((t15.tmod (5 : Int)) + (1 : Int))).tmod (5 : Int))))) && decide ((IntKind.wrap .i64 ((IntKind.wrap .i64 (t15 - (t15.tmod (5 : Int)))) + ((IntKind.wrap .i64 ((t15.tmod (5 : Int)) + (1 : Int))).tmod (5 : Int)))).toNat < 25)) (
            (m19[(IntKind.wrap .i64 ((IntKind.wrap .i64 (t15 - (t15.tmod (5 : Int)))) + ((IntKind.wrap .i64 ((t15.tmod (5 : Int)) + (1 : Int))).tmod (5 : Int)))).toNat]?).bind fun x10 =>
            br (decide (0 ≤ t15) && decide (t15.toNat < 25)) (
              br (decide (t15.toNat < m15.length)) (
                some (.inl ((m15.set t15.toNat (xor64 .u64 x8 (andn64 .u64 x9 x10))), (IntKind.wrap .i64 (t15 + (1 : Int)))))) (
                none)) (
              none)) (
            none)) (
          none)) (
        none)) (
      some (.inr (m15, t15, decide (t15 < (25 : Int)))))
@[reducible] def i_lanes_permute_4_S (m16 : List Int) (m17 : List Int) (m18 : List Int) (m19 : List Int) (t11 : Int) (t12 : List Int) (t13 : Int) (t14 : List Int) (s : (List Int) × Int) : St := ⟨[(0, .ptr 0 0 0 1), (2, .ptr 1001 0 0 1), (5, .lit (.int .u64 t11)), (7, .ptr 6003 0 0 1), (20, .agg (ar .u64 t12)), (21, I t13), (82, .agg (ar .u64 t14)), (83, I s.2)], [(0, ⟨25, true, [ar .u64 s.1]⟩), (1001, ⟨25, true, [ar .i64 m16]⟩), (2001, ⟨24, true, [ar .u64 m17]⟩), (6002, ⟨5, true, [ar .u64 m18]⟩), (6003, ⟨25, true, [ar .u64 m19]⟩)]⟩
@[reducible] def i_lanes_permute_4_E (m16 : List Int) (m17 : List Int) (m18 : List Int) (m19 : List Int) (t11 : Int) (t12 : List Int) (t13 : Int) (t14 : List Int) : ((List Int) × Int × Bool) → AExit × St := fun e => (.exit 6, ⟨[(0, .ptr 0 0 0 1), (2, .ptr 1001 0 0 1), (5, .lit (.int .u64 t11)), (7, .ptr 6003 0 0 1), (20, .agg (ar .u64 t12)), (21, I t13), (82, .agg (ar .u64 t14)), (83, I e.2.1), (84, B e.2.2)], [(0, ⟨25, true, [ar .u64 e.1]⟩), (1001, ⟨25, true, [ar .i64 m16]⟩), (2001, ⟨24, true, [ar .u64 m17]⟩), (6002, ⟨5, true, [ar .u64 m18]⟩), (6003, ⟨25, true, [ar .u64 m19]⟩)]⟩)
theorem i_lanes_permute_4_l {m16 m17 m18 m19 t11 t12 t13 t14 s e} (h : Loop (i_lanes_permute_4_s m16 m17 m18 m19 t11 t12 t13 t14) s = some e) : LoopX tab ow (.close []) b_i_lanes_permute_19 (i_lanes_permute_4_S m16 m17 m18 m19 t11 t12 t13 t14 s) = some (i_lanes_permute_4_E m16 m17 m18 m19 t11 t12 t13 t14 e) := by
  refine lrG (fun s o h => ?_) h
  obtain ⟨_, _⟩ := s
  simp only [i_lanes_permute_4_s] at h
  simp +decide only [i_lanes_permute_4_S, i_lanes_permute_4_E, b_i_lanes_permute_19, go_sem, reduceIte, Nat.reduceAdd]
  all_goals exact go
noncomputable def i_lanes_permute_1_s (m3 : List Int) (m4 : List Int) (t : List Int) : (List Int) × Int → Option (((List Int) × Int) ⊕ (((List Int) × Int × Bool)))
  | (m2, t2) =>
    br (decide (t2 < (24 : Int))) (
      br (decide (0 ≤ t2) && decide (t2.toNat < 24)) (
        (t[t2.toNat]?).bind fun x =>
        (Loop (i_lanes_permute_2_s m2 m3 m4 (nZ 25) x t t2) ((nZ 5), (0 : Int))).bind fun e_ =>
        (Loop (i_lanes_permute_3_s m2 m3 m4 e_.1 x t t2) ((nZ 25), (0 : Int))).bind fun e_2 =>
        br (decide (e_2.1.length = 25)) (
          (Loop (i_lanes_permute_4_s m3 m4 e_.1 e_2.1 x t t2 e_2.1) (m2, (0 : Int))).bind fun e_3 =>
          (e_3.1[0]?).bind fun x11 =>
          br (decide (0 < e_3.1.length)) (
            some (.inl ((e_3.1.set 0 (xor64 .u64 x11 x)), (IntKind.wrap .i64 (t2 + (1 : Int)))))) (
            none)) (
          none)) (
        none)) (
      some (.inr (m2, t2, decide (t2 < (24 : Int)))))
@[reducible] def i_lanes_permute_1_S (m3 : List Int) (m4 : List Int) (t : List Int) (s : (List Int) × Int) : St := ⟨[(0, .ptr 0 0 0 1), (2, .ptr 1001 0 0 1), (20, .agg (ar .u64 t)), (21, I s.2)], [(0, ⟨25, true, [ar .u64 s.1]⟩), (1001, ⟨25, true, [ar .i64 m3]⟩), (2001, ⟨24, true, [ar .u64 m4]⟩)]⟩
@[reducible] def i_lanes_permute_1_E (m3 : List Int) (m4 : List Int) (t : List Int) : ((List Int) × Int × Bool) → AExit × St := fun e => (.exit 0, ⟨[(0, .ptr 0 0 0 1), (2, .ptr 1001 0 0 1), (20, .agg (ar .u64 t)), (21, I e.2.1), (22, B e.2.2)], [(0, ⟨25, true, [ar .u64 e.1]⟩), (1001, ⟨25, true, [ar .i64 m3]⟩), (2001, ⟨24, true, [ar .u64 m4]⟩)]⟩)
theorem i_lanes_permute_1_l {m3 m4 t s e} (h : Loop (i_lanes_permute_1_s m3 m4 t) s = some e) : LoopX tab ow (.close [6002,6003,16011,17013]) b_i_lanes_permute_3 (i_lanes_permute_1_S m3 m4 t s) = some (i_lanes_permute_1_E m3 m4 t e) := by
  refine lrG (fun s o h => ?_) h
  obtain ⟨_, _⟩ := s
  simp only [i_lanes_permute_1_s] at h
  simp +decide only [i_lanes_permute_1_S, i_lanes_permute_1_E, b_i_lanes_permute_3, go_sem, reduceIte, Nat.reduceAdd]
  have d1 := @i_lanes_permute_2_l
  have d2 := @i_lanes_permute_3_l
  have d3 := @i_lanes_permute_4_l
  all_goals exact go
noncomputable def i_lanes_permute (m : List Int) : Option ((List Int)) :=
  (Loop (i_lanes_permute_1_s ([0, 1, 62, 28, 27, 36, 44, 6, 55, 20, 3, 10, 43, 25, 39, 41, 45, 15, 21, 8, 18, 2, 61, 56, 14] : List Int) ([1, 32898, 9223372036854808714, 9223372039002292224, 32907, 2147483649, 9223372039002292353, 9223372036854808585, 138, 136, 2147516425, 2147483658, 2147516555, 9223372036854775947, 9223372036854808713, 9223372036854808579, 9223372036854808578, 9223372036854775936, 32778, 9223372039002259466, 9223372039002292353, 9223372036854808704, 2147483649, 9223372039002292232] : List Int) ([1, 32898, 9223372036854808714, 9223372039002292224, 32907, 2147483649, 9223372039002292353, 9223372036854808585, 138, 136, 2147516425, 2147483658, 2147516555, 9223372036854775947, 9223372036854808713, 9223372036854808579, 9223372036854808578, 9223372036854775936, 32778, 9223372039002259466, 9223372039002292353, 9223372036854808704, 2147483649, 9223372039002292232] : List Int)) (m, (0 : Int))).bind fun e_4 =>
  some e_4.1
theorem i_lanes_permute_c {m r} (h : i_lanes_permute m = some r) : Call tab ow 245 [.ptr 0 0 0 1] [⟨25, true, [ar .u64 m]⟩] = some (.tup [], [⟨25, true, [ar .u64 r]⟩]) := by
  rw [Call_run (af := a_i_lanes_permute) rfl]
  unfold i_lanes_permute at h
  simp +decide only [a_i_lanes_permute, b_i_lanes_permute, go_sem, reduceIte, Nat.reduceAdd]
  have d1 := @i_lanes_permute_1_l
  all_goals exact go
section
theorem i_lanes_text_k0 : mkR 2000 [] = rws eU8 [] := rfl
attribute [local go_sem] i_lanes_text_k0
theorem i_lanes_text_k1 : mkR 6012 [] = rws eU8 [] := rfl
attribute [local go_sem] i_lanes_text_k1
noncomputable def i_lanes_text_1_s (m2 : List Int) : (List UInt8) × Int → Option (((List UInt8) × Int) ⊕ (((List UInt8) × Int × Bool)))
  | (l, t) =>
    br (decide (t < (200 : Int))) (
      br (decide (0 ≤ (IntKind.wrap .i64 (t.tdiv (8 : Int)))) && decide ((IntKind.wrap .i64 (t.tdiv (8 : Int))).toNat < 25)) (
        (m2[(IntKind.wrap .i64 (t.tdiv (8 : Int))).toNat]?).bind fun x =>
        br (decide (0 ≤ (IntKind.wrap .i64 ((8 : Int) * (t.tmod (8 : Int)))))) (
          br (fits ((l ++ ([(UInt8.ofInt (shr64 .u64 x (IntKind.wrap .i64 ((8 : Int) * (t.tmod (8 : Int))))))] : List UInt8)).length) 1) (
            some (.inl ((l ++ ([(UInt8.ofInt (shr64 .u64 x (IntKind.wrap .i64 ((8 : Int) * (t.tmod (8 : Int))))))] : List UInt8)), (IntKind.wrap .i64 (t + (1 : Int)))))) (
            none)) (
          none)) (
        none)) (
      some (.inr (l, t, decide (t < (200 : Int)))))
@[reducible] def i_lanes_text_1_S (m2 : List Int) (s : (List UInt8) × Int) : St := ⟨[(0, .ptr 0 0 0 1), (3, .sl 2000 0 s.1.length), (6, I s.2)], [(0, ⟨25, true, [ar .u64 m2]⟩), (2000, ⟨1, false, rws eU8 s.1⟩)]⟩
@[reducible] def i_lanes_text_1_E (m2 : List Int) : ((List UInt8) × Int × Bool) → AExit × St := fun e => (.exit 0, ⟨[(0, .ptr 0 0 0 1), (3, .sl 2000 0 e.1.length), (6, I e.2.1), (7, B e.2.2)], [(0, ⟨25, true, [ar .u64 m2]⟩), (2000, ⟨1, false, rws eU8 e.1⟩)]⟩)
theorem i_lanes_text_1_l {m2 s e} (h : Loop (i_lanes_text_1_s m2) s = some e) : LoopX tab ow (.close [6012,6013]) b_i_lanes_text_3 (i_lanes_text_1_S m2 s) = some (i_lanes_text_1_E m2 e) := by
  refine lrG (fun s o h => ?_) h
  obtain ⟨_, _⟩ := s
  simp only [i_lanes_text_1_s] at h
  simp +decide only [i_lanes_text_1_S, i_lanes_text_1_E, b_i_lanes_text_3, go_sem, reduceIte, Nat.reduceAdd]
  all_goals exact go
noncomputable def i_lanes_text (m : List Int) : Option ((List UInt8) × (List Int)) :=
  (Loop (i_lanes_text_1_s m) (([] : List UInt8), (0 : Int))).bind fun e_ =>
  some (e_.1, m)
theorem i_lanes_text_c {m r} (h : i_lanes_text m = some r) : Call tab ow 246 [.ptr 0 0 0 1] [⟨25, true, [ar .u64 m]⟩] = some (sl eU8 r.1, [⟨25, true, [ar .u64 r.2]⟩]) := by
  rw [Call_run (af := a_i_lanes_text) rfl]
  unfold i_lanes_text at h
  simp +decide only [a_i_lanes_text, b_i_lanes_text, go_sem, reduceIte, Nat.reduceAdd]
  have d1 := @i_lanes_text_1_l
  all_goals exact go
end
section
theorem i_keccak_k0 : mkR 2000 [] = rws eU8 [] := rfl
attribute [local go_sem] i_keccak_k0
theorem i_keccak_k1 : mkR 8001 [] = rws eU8 [] := rfl
attribute [local go_sem] i_keccak_k1
theorem i_keccak_k2 : mkR 10001 [] = rws eU8 [] := rfl
attribute [local go_sem] i_keccak_k2
noncomputable def i_keccak_1_s (t : List (List UInt8)) (t2 : Int) : (List UInt8) × Int → Option (((List UInt8) × Int) ⊕ (((List UInt8) × Int × Bool)))
  | (l, t3) =>
    br (decide (t3 < t2)) (
      (atL t t3).bind fun x =>
      br (fits ((l ++ x).length) 1) (
        some (.inl ((l ++ x), (IntKind.wrap .i64 (t3 + (1 : Int)))))) (
        none)) (
      some (.inr (l, t3, decide (t3 < t2))))
@[reducible] def i_keccak_1_S (t : List (List UInt8)) (t2 : Int) (s : (List UInt8) × Int) : St := ⟨[(3, .sl 2000 0 s.1.length), (10, sl (eL eU8) t), (11, I t2), (12, I s.2)], [(2000, ⟨1, false, rws eU8 s.1⟩)]⟩
@[reducible] def i_keccak_1_E (t : List (List UInt8)) (t2 : Int) : ((List UInt8) × Int × Bool) → AExit × St := fun e => (.exit 0, ⟨[(3, .sl 2000 0 e.1.length), (10, sl (eL eU8) t), (11, I t2), (12, I e.2.1), (13, B e.2.2)], [(2000, ⟨1, false, rws eU8 e.1⟩)]⟩)
theorem i_keccak_1_l {t t2 s e} (h : Loop (i_keccak_1_s t t2) s = some e) : LoopX tab ow (.close [6002]) b_i_keccak_3 (i_keccak_1_S t t2 s) = some (i_keccak_1_E t t2 e) := by
  refine lrG (fun s o h => ?_) h
  obtain ⟨_, _⟩ := s
  simp only [i_keccak_1_s] at h
  simp +decide only [i_keccak_1_S, i_keccak_1_E, b_i_keccak_3, go_sem, reduceIte, Nat.reduceAdd]
  all_goals exact go
noncomputable def i_keccak_2_s (l3 : List UInt8) : (List UInt8) → Option (((List UInt8)) ⊕ (((List UInt8) × Bool)))
  | l2 =>
    br ((((l2.length : Nat) : Int).tmod (136 : Int)) != (0 : Int)) (
      br (fits ((l2 ++ ([(0 : UInt8)] : List UInt8)).length) 1) (
        some (.inl (l2 ++ ([(0 : UInt8)] : List UInt8)))) (
        none)) (
      some (.inr (l2, ((((l2.length : Nat) : Int).tmod (136 : Int)) != (0 : Int)))))
@[reducible] def i_keccak_2_S (l3 : List UInt8) (s : (List UInt8)) : St := ⟨[(3, .sl 2000 0 s.length)], [(2000, ⟨1, false, rws eU8 s⟩), (8001, ⟨1, false, rws eU8 l3⟩)]⟩
@[reducible] def i_keccak_2_E (l3 : List UInt8) : ((List UInt8) × Bool) → AExit × St := fun e => (.exit 2, ⟨[(3, .sl 2000 0 e.1.length), (26, B e.2)], [(2000, ⟨1, false, rws eU8 e.1⟩), (8001, ⟨1, false, rws eU8 l3⟩)]⟩)
theorem i_keccak_2_l {l3 s e} (h : Loop (i_keccak_2_s l3) s = some e) : LoopX tab ow (.close [10001,10002]) b_i_keccak_8 (i_keccak_2_S l3 s) = some (i_keccak_2_E l3 e) := by
  refine lrG (fun s o h => ?_) h
  simp only [i_keccak_2_s] at h
  simp +decide only [i_keccak_2_S, i_keccak_2_E, b_i_keccak_8, go_sem, reduceIte, Nat.reduceAdd]
  all_goals exact go
noncomputable def i_keccak_4_s (l5 : List UInt8) (all2 : List UInt8) (t4 : List Int) : (List Int) × Int → Option (((List Int) × Int) ⊕ (((List Int) × Int × Bool)))
  | (m2, t5) =>
    br (decide (t5 < (25 : Int))) (
      br (decide (0 ≤ t5) && decide (t5.toNat < 25)) (
        (t4[t5.toNat]?).bind fun x4 =>
        br (decide (0 ≤ t5) && decide (t5.toNat < 25)) (
          (m2[t5.toNat]?).bind fun x5 =>
          br (decide (0 ≤ t5) && decide (t5.toNat < 25)) (
            br (decide (t5.toNat < m2.length)) (
              some (.inl ((m2.set t5.toNat (xor64 .u64 x5 x4)), (IntKind.wrap .i64 (t5 + (1 : Int)))))) (
              none)) (
            none)) (
          none)) (
        none)) (
      some (.inr (m2, t5, decide (t5 < (25 : Int)))))
@[reducible] def i_keccak_4_S (l5 : List UInt8) (all2 : List UInt8) (t4 : List Int) (s : (List Int) × Int) : St := ⟨[(3, sl eU8 all2), (6, .ptr 12001 0 0 1), (46, .agg (ar .u64 t4)), (47, I s.2)], [(8001, ⟨1, false, rws eU8 l5⟩), (12001, ⟨25, true, [ar .u64 s.1]⟩)]⟩
@[reducible] def i_keccak_4_E (l5 : List UInt8) (all2 : List UInt8) (t4 : List Int) : ((List Int) × Int × Bool) → AExit × St := fun e => (.exit 6, ⟨[(3, sl eU8 all2), (6, .ptr 12001 0 0 1), (46, .agg (ar .u64 t4)), (47, I e.2.1), (48, B e.2.2)], [(8001, ⟨1, false, rws eU8 l5⟩), (12001, ⟨25, true, [ar .u64 e.1]⟩)]⟩)
theorem i_keccak_4_l {l5 all2 t4 s e} (h : Loop (i_keccak_4_s l5 all2 t4) s = some e) : LoopX tab ow (.close []) b_i_keccak_15 (i_keccak_4_S l5 all2 t4 s) = some (i_keccak_4_E l5 all2 t4 e) := by
  refine lrG (fun s o h => ?_) h
  obtain ⟨_, _⟩ := s
  simp only [i_keccak_4_s] at h
  simp +decide only [i_keccak_4_S, i_keccak_4_E, b_i_keccak_15, go_sem, reduceIte, Nat.reduceAdd]
  all_goals exact go
noncomputable def i_keccak_3_s (l4 : List UInt8) : (List Int) × (List UInt8) → Option (((List Int) × (List UInt8)) ⊕ (((List Int) × (List UInt8) × Bool)))
  | (m, all) =>
    br (decide (((all.length : Nat) : Int) > (0 : Int))) (
      (subL all (0 : Int) (136 : Int)).bind fun y =>
      (i_lanesOf y).bind fun r_ =>
      (Loop (i_keccak_4_s l4 all r_) (m, (0 : Int))).bind fun e_3 =>
      (i_lanes_permute e_3.1).bind fun r_2 =>
      (subL all (136 : Int) ((all.length : Nat) : Int)).bind fun y2 =>
      some (.inl (r_2, y2))) (
      some (.inr (m, all, decide (((all.length : Nat) : Int) > (0 : Int)))))
@[reducible] def i_keccak_3_S (l4 : List UInt8) (s : (List Int) × (List UInt8)) : St := ⟨[(3, sl eU8 s.2), (6, .ptr 12001 0 0 1)], [(8001, ⟨1, false, rws eU8 l4⟩), (12001, ⟨25, true, [ar .u64 s.1]⟩)]⟩
@[reducible] def i_keccak_3_E (l4 : List UInt8) : ((List Int) × (List UInt8) × Bool) → AExit × St := fun e => (.exit 4, ⟨[(3, sl eU8 e.2.1), (6, .ptr 12001 0 0 1), (41, B e.2.2)], [(8001, ⟨1, false, rws eU8 l4⟩), (12001, ⟨25, true, [ar .u64 e.1]⟩)]⟩)
theorem i_keccak_3_l {l4 s e} (h : Loop (i_keccak_3_s l4) s = some e) : LoopX tab ow (.close [15002,20000,2000]) b_i_keccak_12 (i_keccak_3_S l4 s) = some (i_keccak_3_E l4 e) := by
  refine lrG (fun s o h => ?_) h
  obtain ⟨_, _⟩ := s
  simp only [i_keccak_3_s] at h
  simp +decide only [i_keccak_3_S, i_keccak_3_E, b_i_keccak_12, go_sem, reduceIte, Nat.reduceAdd]
  have d1 := @i_lanesOf_c
  have d2 := @i_keccak_4_l
  have d3 := @i_lanes_permute_c
  all_goals exact go
noncomputable def i_keccak (pieces : (List (List UInt8))) : Option ((List UInt8)) :=
  (Loop (i_keccak_1_s pieces ((pieces.length : Nat) : Int)) (([] : List UInt8), (0 : Int))).bind fun e_ =>
  br (fits ((e_.1 ++ ([(1 : UInt8)] : List UInt8)).length) 1) (
    (Loop (i_keccak_2_s ([(1 : UInt8)] : List UInt8)) (e_.1 ++ ([(1 : UInt8)] : List UInt8))).bind fun e_2 =>
    br (decide (0 ≤ (IntKind.wrap .i64 (((e_2.1.length : Nat) : Int) - (1 : Int))))) (
      br (decide ((IntKind.wrap .i64 (((e_2.1.length : Nat) : Int) - (1 : Int))).toNat < e_2.1.length)) (
        (e_2.1[(IntKind.wrap .i64 (((e_2.1.length : Nat) : Int) - (1 : Int))).toNat]?).bind fun x2 =>
        br (decide (0 ≤ (IntKind.wrap .i64 (((e_2.1.length : Nat) : Int) - (1 : Int))))) (
          br (decide ((IntKind.wrap .i64 (((e_2.1.length : Nat) : Int) - (1 : Int))).toNat < e_2.1.length)) (
            (e_2.1[(IntKind.wrap .i64 (((e_2.1.length : Nat) : Int) - (1 : Int))).toNat]?).bind fun x3 =>
            (Loop (i_keccak_3_s ([(1 : UInt8)] : List UInt8)) ((nZ 25), (e_2.1.set ((IntKind.wrap .i64 (((e_2.1.length : Nat) : Int) - (1 : Int))).toNat) (UInt8.ofInt (or64 .u8 (x2.toNat : Int) (128 : Int)))))).bind fun e_4 =>
            (i_lanes_text e_4.1).bind fun r_3 =>
            (subL r_3.1 (0 : Int) (32 : Int)).bind fun y3 =>
            some y3) (
            none)) (
          none)) (
        none)) (
      none)) (
    none)
theorem i_keccak_c {pieces r} (h : i_keccak pieces = some r) : Call tab ow 160 [sl (eL eU8) pieces] [] = some (S r, []) := by
  rw [Call_run (af := a_i_keccak) rfl]
  unfold i_keccak at h
  simp +decide only [a_i_keccak, b_i_keccak, go_sem, reduceIte, Nat.reduceAdd]
  have d1 := @i_keccak_1_l
  have d2 := @i_keccak_2_l
  have d3 := @i_keccak_3_l
  have d4 := @i_lanes_text_c
  all_goals exact go
end
section
theorem i_startText_k0 : mkR 2002 [] = rws (eL eU8) [] := rfl
attribute [local go_sem] i_startText_k0
theorem i_startText_k1 : mkR 2014 [] = rws eU8 [] := rfl
attribute [local go_sem] i_startText_k1
noncomputable def i_startText_1_s (l : List (List UInt8)) (l3 : List UInt8) (t2 : List Int) (t3 : Int) (c : Int) (c2 : Int) (c3 : Int) (c4 : List Entry) (c5 : List Entry) (c6 : List Entry) (c7 : Int) (c8 : Int) (c9 : Int) : (List UInt8) × Int → Option (((List UInt8) × Int) ⊕ (((List UInt8) × Int × Bool)))
  | (l2, t4) =>
    br (decide (t4 < t3)) (
      (atL t2 t4).bind fun x =>
      (i_four_o x l2).bind fun r_3 =>
      some (.inl (r_3, (IntKind.wrap .i64 (t4 + (1 : Int)))))) (
      some (.inr (l2, t4, decide (t4 < t3))))
@[reducible] def i_startText_1_S (l : List (List UInt8)) (l3 : List UInt8) (t2 : List Int) (t3 : Int) (c : Int) (c2 : Int) (c3 : Int) (c4 : List Entry) (c5 : List Entry) (c6 : List Entry) (c7 : Int) (c8 : Int) (c9 : Int) (s : (List UInt8) × Int) : St := ⟨[(7, .sl 2004 0 s.1.length), (26, sl eI t2), (27, I t3), (28, I s.2)], [(1000, ⟨6, true, [[I c, I c2, I c3, sl eEntry c4, sl eEntry c5, sl eEntry c6]]⟩), (1001, ⟨3, true, [[I c7, I c8, I c9]]⟩), (2002, ⟨1, false, rws (eL eU8) l⟩), (2004, ⟨1, false, rws eU8 s.1⟩), (2014, ⟨1, false, rws eU8 l3⟩)]⟩
@[reducible] def i_startText_1_E (l : List (List UInt8)) (l3 : List UInt8) (t2 : List Int) (t3 : Int) (c : Int) (c2 : Int) (c3 : Int) (c4 : List Entry) (c5 : List Entry) (c6 : List Entry) (c7 : Int) (c8 : Int) (c9 : Int) : ((List UInt8) × Int × Bool) → AExit × St := fun e => (.exit 0, ⟨[(7, .sl 2004 0 e.1.length), (26, sl eI t2), (27, I t3), (28, I e.2.1), (29, B e.2.2)], [(1000, ⟨6, true, [[I c, I c2, I c3, sl eEntry c4, sl eEntry c5, sl eEntry c6]]⟩), (1001, ⟨3, true, [[I c7, I c8, I c9]]⟩), (2002, ⟨1, false, rws (eL eU8) l⟩), (2004, ⟨1, false, rws eU8 e.1⟩), (2014, ⟨1, false, rws eU8 l3⟩)]⟩)
theorem i_startText_1_l {l l3 t2 t3 c c2 c3 c4 c5 c6 c7 c8 c9 s e} (h : Loop (i_startText_1_s l l3 t2 t3 c c2 c3 c4 c5 c6 c7 c8 c9) s = some e) : LoopX tab ow (.close [6002]) b_i_startText_3 (i_startText_1_S l l3 t2 t3 c c2 c3 c4 c5 c6 c7 c8 c9 s) = some (i_startText_1_E l l3 t2 t3 c c2 c3 c4 c5 c6 c7 c8 c9 e) := by
  refine lrG (fun s o h => ?_) h
  obtain ⟨_, _⟩ := s
  simp only [i_startText_1_s] at h
  simp +decide only [i_startText_1_S, i_startText_1_E, b_i_startText_3, go_sem, reduceIte, Nat.reduceAdd]
  have d1 := @i_four_o_c
  all_goals exact go
noncomputable def i_startText (s : System) (t : Setting) (publics : (List Int)) : Option ((List UInt8)) :=
  (i_System_digestText s).bind fun r_ =>
  (i_keccak ([r_] : List (List UInt8))).bind fun r_2 =>
  br (fits r_2.length 1) (
    br (fits ((r_2 ++ ([(UInt8.ofInt t.Rate), (UInt8.ofInt t.Queries), (UInt8.ofInt t.Grind)] : List UInt8)).length) 1) (
      (Loop (i_startText_1_s ([r_] : List (List UInt8)) ([(UInt8.ofInt t.Rate), (UInt8.ofInt t.Queries), (UInt8.ofInt t.Grind)] : List UInt8) publics ((publics.length : Nat) : Int) s.Rows s.Cols s.Publics s.A s.B s.C t.Rate t.Queries t.Grind) ((r_2 ++ ([(UInt8.ofInt t.Rate), (UInt8.ofInt t.Queries), (UInt8.ofInt t.Grind)] : List UInt8)), (0 : Int))).bind fun e_ =>
      some e_.1) (
      none)) (
    none)
theorem i_startText_c {s t publics r} (h : i_startText s t publics = some r) : Call tab ow 67 [.agg [I s.Rows, I s.Cols, I s.Publics, sl eEntry s.A, sl eEntry s.B, sl eEntry s.C], .agg [I t.Rate, I t.Queries, I t.Grind], sl eI publics] [] = some (sl eU8 r, []) := by
  rw [Call_run (af := a_i_startText) rfl]
  unfold i_startText at h
  simp +decide only [a_i_startText, b_i_startText, go_sem, reduceIte, Nat.reduceAdd]
  have d1 := @i_System_digestText_c
  have d2 := @i_keccak_c
  have d3 := @i_startText_1_l
  all_goals exact go
end
section
theorem i_four_k0 : mkR 2012 [] = rws eU8 [] := rfl
attribute [local go_sem] i_four_k0
noncomputable def i_four (n : Int) : Option ((List UInt8)) :=
  br (fits (([(UInt8.ofInt (shr64 .i64 n (24 : Int))), (UInt8.ofInt (shr64 .i64 n (16 : Int))), (UInt8.ofInt (shr64 .i64 n (8 : Int))), (UInt8.ofInt n)] : List UInt8).length) 1) (
    some ([(UInt8.ofInt (shr64 .i64 n (24 : Int))), (UInt8.ofInt (shr64 .i64 n (16 : Int))), (UInt8.ofInt (shr64 .i64 n (8 : Int))), (UInt8.ofInt n)] : List UInt8)) (
    none)
theorem i_four_c {n r} (h : i_four n = some r) : Call tab ow 161 [.lit (.slice none 0 0), I n] [] = some (sl eU8 r, []) := by
  rw [Call_run (af := a_i_four) rfl]
  unfold i_four at h
  simp +decide only [a_i_four, b_i_four, go_sem, reduceIte, Nat.reduceAdd]
  all_goals exact go
end
section
theorem i_Source_absorb_k0 : mkR 1007 [] = rws eU8 [] := rfl
attribute [local go_sem] i_Source_absorb_k0
theorem i_Source_absorb_k1 : mkR 1013 [] = rws (eL eU8) [] := rfl
attribute [local go_sem] i_Source_absorb_k1
noncomputable def i_Source_absorb (t : (List UInt8)) (m : Source) : Option (Source) :=
  br (fits m.State.length 1) (
    (i_four ((t.length : Nat) : Int)).bind fun r_ =>
    (i_keccak ([m.State, ([(97 : UInt8), (98 : UInt8), (115 : UInt8), (111 : UInt8), (114 : UInt8), (98 : UInt8)] : List UInt8), r_, t] : List (List UInt8))).bind fun r_2 =>
    some (Source.mk m.Script m.At r_2 (0 : Int))) (
    none)
theorem i_Source_absorb_c {t m r} (h : i_Source_absorb t m = some r) : Call tab ow 66 [.ptr 0 0 0 1, sl eU8 t] [⟨4, true, [[sl eExt m.Script, I m.At, S m.State, I m.Count]]⟩] = some (.tup [], [⟨4, true, [[sl eExt r.Script, I r.At, S r.State, I r.Count]]⟩]) := by
  rw [Call_run (af := a_i_Source_absorb) rfl]
  unfold i_Source_absorb at h
  simp +decide only [a_i_Source_absorb, b_i_Source_absorb, go_sem, reduceIte, Nat.reduceAdd]
  have d1 := @i_four_c
  have d2 := @i_keccak_c
  all_goals exact go
end
noncomputable def i_Start (s : System) (t : Setting) (publics : (List Int)) (source : Source) : Option (Source × Int) :=
  (i_startCode s t publics source).bind fun r_ =>
  br (r_ != (0 : Int)) (
    some ((Source.mk ([] : List Ext) (0 : Int) (([] : List UInt8)) (0 : Int)), r_)) (
    (i_Source_copied source).bind fun r_2 =>
    (i_startText s t publics).bind fun r_3 =>
    (i_Source_absorb r_3 r_2).bind fun r_4 =>
    some (r_4, (0 : Int)))
theorem i_Start_c {s t publics source r} (h : i_Start s t publics source = some r) : Call tab ow 13 [.agg [I s.Rows, I s.Cols, I s.Publics, sl eEntry s.A, sl eEntry s.B, sl eEntry s.C], .agg [I t.Rate, I t.Queries, I t.Grind], sl eI publics, .agg [sl eExt source.Script, I source.At, S source.State, I source.Count]] [] = some (.tup [.agg [sl eExt r.1.Script, I r.1.At, S r.1.State, I r.1.Count], I r.2], []) := by
  rw [Call_run (af := a_i_Start) rfl]
  unfold i_Start at h
  simp +decide only [a_i_Start, b_i_Start, go_sem, reduceIte, Nat.reduceAdd]
  have d1 := @i_startCode_c
  have d2 := @i_Source_copied_c
  have d3 := @i_startText_c
  have d4 := @i_Source_absorb_c
  all_goals exact go
noncomputable def s_l01In (n : Int) (low : Int) (high : Int) : Option (Bool) :=
  br (decide (low ≤ n)) (
    some (decide (n ≤ high))) (
    some false)
theorem s_l01In_c {n low high r} (h : s_l01In n low high = some r) : Call tab ow 103 [I n, I low, I high] [] = some (B r, []) := by
  rw [Call_run (af := a_s_l01In) rfl]
  unfold s_l01In at h
  simp +decide only [a_s_l01In, b_s_l01In, go_sem, reduceIte, Nat.reduceAdd]
  all_goals exact go
noncomputable def s_l10List_1_s (ListtoArray2 : List Entry) (t : Int) (t2 : Int) : Int → Option ((Int) ⊕ ((Int × Int × Int) ⊕ (Int × Bool)))
  | t3 =>
    br (decide (t3 < ((ListtoArray2.length : Nat) : Int))) (
      (atL ListtoArray2 t3).bind fun x =>
      br (decide (0 ≤ (IntKind.wrap .u64 t))) (
        (s_l01In x.Row (0 : Int) (IntKind.wrap .i64 ((shl64 .i64 (1 : Int) (IntKind.wrap .u64 t)) - (1 : Int)))).bind fun r_ =>
        br (!r_) (
          some (.inr (.inl (x.Row, x.Col, x.Value)))) (
          br (decide (0 ≤ (IntKind.wrap .u64 t2))) (
            (s_l01In x.Col (0 : Int) (IntKind.wrap .i64 ((shl64 .i64 (1 : Int) (IntKind.wrap .u64 t2)) - (1 : Int)))).bind fun r_2 =>
            br (!r_2) (
              some (.inr (.inl (x.Row, x.Col, x.Value)))) (
              (s_l01In x.Value (1 : Int) (2130706432 : Int)).bind fun r_3 =>
              br (!r_3) (
                some (.inr (.inl (x.Row, x.Col, x.Value)))) (
                br (decide (t3 > (0 : Int))) (
                  (atL ListtoArray2 (IntKind.wrap .i64 (t3 - (1 : Int)))).bind fun x2 =>
                  br (decide (x2.Row > x.Row)) (
                    some (.inr (.inl (x.Row, x.Col, x.Value)))) (
                    (atL ListtoArray2 (IntKind.wrap .i64 (t3 - (1 : Int)))).bind fun x3 =>
                    br (x3.Row == x.Row) (
                      (atL ListtoArray2 (IntKind.wrap .i64 (t3 - (1 : Int)))).bind fun x4 =>
                      br (decide (x4.Col ≥ x.Col)) (
                        some (.inr (.inl (x.Row, x.Col, x.Value)))) (
                        some (.inl (IntKind.wrap .i64 (t3 + (1 : Int)))))) (
                      some (.inl (IntKind.wrap .i64 (t3 + (1 : Int))))))) (
                  some (.inl (IntKind.wrap .i64 (t3 + (1 : Int)))))))) (
            none))) (
        none)) (
      some (.inr (.inr (t3, decide (t3 < ((ListtoArray2.length : Nat) : Int))))))
@[reducible] def s_l10List_1_S (ListtoArray2 : List Entry) (t : Int) (t2 : Int) (s : Int) : St := ⟨[(0, sl eEntry ListtoArray2), (1, I t), (2, I t2), (7, I s)], []⟩
@[reducible] def s_l10List_1_E (ListtoArray2 : List Entry) (t : Int) (t2 : Int) : ((Int × Int × Int) ⊕ (Int × Bool)) → AExit × St := alt (fun e => ((.ret, ⟨[(6, B false)], [(7004, ⟨3, true, [[I e.1, I e.2.1, I e.2.2]]⟩)]⟩) : AExit × St)) (fun e => (.exit 0, ⟨[(0, sl eEntry ListtoArray2), (1, I t), (2, I t2), (7, I e.1), (15, B e.2)], []⟩))
theorem s_l10List_1_l {ListtoArray2 t t2 s e} (h : Loop (s_l10List_1_s ListtoArray2 t t2) s = some e) : LoopX tab ow (.close [7004,8006,8015,8021]) b_s_l10List_4 (s_l10List_1_S ListtoArray2 t t2 s) = some (s_l10List_1_E ListtoArray2 t t2 e) := by
  refine lrG (fun s o h => ?_) h
  simp only [s_l10List_1_s] at h
  simp +decide only [s_l10List_1_S, s_l10List_1_E, b_s_l10List_4, go_sem, reduceIte, Nat.reduceAdd]
  have d1 := @s_l01In_c
  all_goals exact go
noncomputable def s_l10List (ListtoArray : (List Entry)) (a : Int) (a2 : Int) : Option (Bool) :=
  br (decide (((ListtoArray.length : Nat) : Int) > (200 : Int))) (
    some false) (
    (Loop (s_l10List_1_s ListtoArray a a2) (0 : Int)).bind (alt (fun e_2 =>
      some false) (fun e_3 =>
      some true)))
theorem s_l10List_c {ListtoArray a a2 r} (h : s_l10List ListtoArray a a2 = some r) : Call tab ow 216 [sl eEntry ListtoArray, I a, I a2] [] = some (B r, []) := by
  rw [Call_run (af := a_s_l10List) rfl]
  unfold s_l10List at h
  simp +decide only [a_s_l10List, b_s_l10List, go_sem, reduceIte, Nat.reduceAdd]
  have d1 := @s_l10List_1_l
  all_goals exact go
noncomputable def s_SystemOK (s : System) : Option (Bool) :=
  (s_l01In s.Rows (1 : Int) (5 : Int)).bind fun r_ =>
  br r_ (
    (s_l01In s.Cols (2 : Int) (5 : Int)).bind fun r_2 =>
    br r_2 (
      br (decide (0 ≤ (IntKind.wrap .u64 (IntKind.wrap .i64 (s.Cols - (1 : Int)))))) (
        (s_l01In s.Publics (0 : Int) (IntKind.wrap .i64 ((shl64 .i64 (1 : Int) (IntKind.wrap .u64 (IntKind.wrap .i64 (s.Cols - (1 : Int))))) - (1 : Int)))).bind fun r_3 =>
        br r_3 (
          (s_l10List s.A s.Rows s.Cols).bind fun r_4 =>
          br r_4 (
            (s_l10List s.B s.Rows s.Cols).bind fun r_5 =>
            br r_5 (
              (s_l10List s.C s.Rows s.Cols).bind fun r_6 =>
              some r_6) (
              some false)) (
            some false)) (
          some false)) (
        none)) (
      some false)) (
    some false)
theorem s_SystemOK_c {s r} (h : s_SystemOK s = some r) : Call tab ow 126 [.agg [I s.Rows, I s.Cols, I s.Publics, sl eEntry s.A, sl eEntry s.B, sl eEntry s.C]] [] = some (B r, []) := by
  rw [Call_run (af := a_s_SystemOK) rfl]
  unfold s_SystemOK at h
  simp +decide only [a_s_SystemOK, b_s_SystemOK, go_sem, reduceIte, Nat.reduceAdd]
  have d1 := @s_l01In_c
  have d2 := @s_l10List_c
  all_goals exact go
noncomputable def s_SettingOK (t : Setting) : Option (Bool) :=
  (s_l01In t.Rate (1 : Int) (3 : Int)).bind fun r_ =>
  br r_ (
    (s_l01In t.Queries (1 : Int) (8 : Int)).bind fun r_2 =>
    br r_2 (
      (s_l01In t.Grind (0 : Int) (12 : Int)).bind fun r_3 =>
      some r_3) (
      some false)) (
    some false)
theorem s_SettingOK_c {t r} (h : s_SettingOK t = some r) : Call tab ow 114 [.agg [I t.Rate, I t.Queries, I t.Grind]] [] = some (B r, []) := by
  rw [Call_run (af := a_s_SettingOK) rfl]
  unfold s_SettingOK at h
  simp +decide only [a_s_SettingOK, b_s_SettingOK, go_sem, reduceIte, Nat.reduceAdd]
  have d1 := @s_l01In_c
  all_goals exact go
noncomputable def s_FieldOK (a : Int) : Option (Bool) :=
  (s_l01In a (0 : Int) (2130706432 : Int)).bind fun r_ =>
  some r_
theorem s_FieldOK_c {a r} (h : s_FieldOK a = some r) : Call tab ow 185 [I a] [] = some (B r, []) := by
  rw [Call_run (af := a_s_FieldOK) rfl]
  unfold s_FieldOK at h
  simp +decide only [a_s_FieldOK, b_s_FieldOK, go_sem, reduceIte, Nat.reduceAdd]
  have d1 := @s_l01In_c
  all_goals exact go
noncomputable def s_l10Fields_1_s (list2 : List Int) : Int → Option ((Int) ⊕ (Unit ⊕ (Int × Bool)))
  | i =>
    br (decide (i < ((list2.length : Nat) : Int))) (
      (atL list2 i).bind fun x =>
      (s_FieldOK x).bind fun r_ =>
      br (!r_) (
        some (.inr (.inl ()))) (
        some (.inl (IntKind.wrap .i64 (i + (1 : Int)))))) (
      some (.inr (.inr (i, decide (i < ((list2.length : Nat) : Int))))))
@[reducible] def s_l10Fields_1_S (list2 : List Int) (s : Int) : St := ⟨[(0, sl eI list2), (3, I s)], []⟩
@[reducible] def s_l10Fields_1_E (list2 : List Int) : (Unit ⊕ (Int × Bool)) → AExit × St := alt (fun e => ((.ret, ⟨[(2, B false)], []⟩) : AExit × St)) (fun e => (.exit 0, ⟨[(0, sl eI list2), (3, I e.1), (7, B e.2)], []⟩))
theorem s_l10Fields_1_l {list2 s e} (h : Loop (s_l10Fields_1_s list2) s = some e) : LoopX tab ow (.close [5004]) b_s_l10Fields_2 (s_l10Fields_1_S list2 s) = some (s_l10Fields_1_E list2 e) := by
  refine lrG (fun s o h => ?_) h
  simp only [s_l10Fields_1_s] at h
  simp +decide only [s_l10Fields_1_S, s_l10Fields_1_E, b_s_l10Fields_2, go_sem, reduceIte, Nat.reduceAdd]
  have d1 := @s_FieldOK_c
  all_goals exact go
noncomputable def s_l10Fields (list : (List Int)) : Option (Bool) :=
  (Loop (s_l10Fields_1_s list) (0 : Int)).bind (alt (fun e_2 =>
    some false) (fun e_3 =>
    some true))
theorem s_l10Fields_c {list r} (h : s_l10Fields list = some r) : Call tab ow 163 [sl eI list] [] = some (B r, []) := by
  rw [Call_run (af := a_s_l10Fields) rfl]
  unfold s_l10Fields at h
  simp +decide only [a_s_l10Fields, b_s_l10Fields, go_sem, reduceIte, Nat.reduceAdd]
  have d1 := @s_l10Fields_1_l
  all_goals exact go
noncomputable def s_ExtOK (a : Ext) : Option (Bool) :=
  (s_FieldOK a.A).bind fun r_ =>
  br r_ (
    (s_FieldOK a.B).bind fun r_2 =>
    some r_2) (
    some false)
theorem s_ExtOK_c {a r} (h : s_ExtOK a = some r) : Call tab ow 100 [.agg [I a.A, I a.B]] [] = some (B r, []) := by
  rw [Call_run (af := a_s_ExtOK) rfl]
  unfold s_ExtOK at h
  simp +decide only [a_s_ExtOK, b_s_ExtOK, go_sem, reduceIte, Nat.reduceAdd]
  have d1 := @s_FieldOK_c
  all_goals exact go
noncomputable def s_l02List_1_s (list2 : List Ext) : Int → Option ((Int) ⊕ (Unit ⊕ (Int × Bool)))
  | i =>
    br (decide (i < ((list2.length : Nat) : Int))) (
      (atL list2 i).bind fun x =>
      (s_ExtOK x).bind fun r_ =>
      br (!r_) (
        some (.inr (.inl ()))) (
        some (.inl (IntKind.wrap .i64 (i + (1 : Int)))))) (
      some (.inr (.inr (i, decide (i < ((list2.length : Nat) : Int))))))
@[reducible] def s_l02List_1_S (list2 : List Ext) (s : Int) : St := ⟨[(0, sl eExt list2), (3, I s)], []⟩
@[reducible] def s_l02List_1_E (list2 : List Ext) : (Unit ⊕ (Int × Bool)) → AExit × St := alt (fun e => ((.ret, ⟨[(2, B false)], []⟩) : AExit × St)) (fun e => (.exit 0, ⟨[(0, sl eExt list2), (3, I e.1), (7, B e.2)], []⟩))
theorem s_l02List_1_l {list2 s e} (h : Loop (s_l02List_1_s list2) s = some e) : LoopX tab ow (.close [5004]) b_s_l02List_2 (s_l02List_1_S list2 s) = some (s_l02List_1_E list2 e) := by
  refine lrG (fun s o h => ?_) h
  simp only [s_l02List_1_s] at h
  simp +decide only [s_l02List_1_S, s_l02List_1_E, b_s_l02List_2, go_sem, reduceIte, Nat.reduceAdd]
  have d1 := @s_ExtOK_c
  all_goals exact go
noncomputable def s_l02List (list : (List Ext)) : Option (Bool) :=
  (Loop (s_l02List_1_s list) (0 : Int)).bind (alt (fun e_2 =>
    some false) (fun e_3 =>
    some true))
theorem s_l02List_c {list r} (h : s_l02List list = some r) : Call tab ow 184 [sl eExt list] [] = some (B r, []) := by
  rw [Call_run (af := a_s_l02List) rfl]
  unfold s_l02List at h
  simp +decide only [a_s_l02List, b_s_l02List, go_sem, reduceIte, Nat.reduceAdd]
  have d1 := @s_l02List_1_l
  all_goals exact go
noncomputable def s_SourceOK (s : Source) : Option (Bool) :=
  br (decide (((s.Script.length : Nat) : Int) ≤ (64 : Int))) (
    (s_l02List s.Script).bind fun r_ =>
    br r_ (
      (s_l01In s.At (0 : Int) (1000000 : Int)).bind fun r_2 =>
      br r_2 (
        br (((s.State.length : Nat) : Int) == (32 : Int)) (
          (s_l01In s.Count (0 : Int) (1000000 : Int)).bind fun r_3 =>
          some r_3) (
          some false)) (
        some false)) (
      some false)) (
    some false)
theorem s_SourceOK_c {s r} (h : s_SourceOK s = some r) : Call tab ow 101 [.agg [sl eExt s.Script, I s.At, S s.State, I s.Count]] [] = some (B r, []) := by
  rw [Call_run (af := a_s_SourceOK) rfl]
  unfold s_SourceOK at h
  simp +decide only [a_s_SourceOK, b_s_SourceOK, go_sem, reduceIte, Nat.reduceAdd]
  have d1 := @s_l02List_c
  have d2 := @s_l01In_c
  all_goals exact go
noncomputable def s_l05Spent (s : Source) (n : Int) : Option (Bool) :=
  br (decide (s.At > (IntKind.wrap .i64 ((1000000 : Int) - n)))) (
    some true) (
    some (decide (s.Count > (IntKind.wrap .i64 ((1000000 : Int) - n)))))
theorem s_l05Spent_c {s n r} (h : s_l05Spent s n = some r) : Call tab ow 104 [.agg [sl eExt s.Script, I s.At, S s.State, I s.Count], I n] [] = some (B r, []) := by
  rw [Call_run (af := a_s_l05Spent) rfl]
  unfold s_l05Spent at h
  simp +decide only [a_s_l05Spent, b_s_l05Spent, go_sem, reduceIte, Nat.reduceAdd]
  all_goals exact go
noncomputable def s_l12Ask (s : System) (t : Setting) (publics : (List Int)) (source : Source) : Option (Int) :=
  br (decide (((publics.length : Nat) : Int) > (4096 : Int))) (
    some (2 : Int)) (
    (s_SystemOK s).bind fun r_ =>
    br (!r_) (
      some (1 : Int)) (
      (s_SettingOK t).bind fun r_2 =>
      br (!r_2) (
        some (1 : Int)) (
        (s_l10Fields publics).bind fun r_3 =>
        br (!r_3) (
          some (1 : Int)) (
          (s_SourceOK source).bind fun r_4 =>
          br (!r_4) (
            some (1 : Int)) (
            br (((publics.length : Nat) : Int) != s.Publics) (
              some (17 : Int)) (
              (s_l05Spent source (200 : Int)).bind fun r_5 =>
              br r_5 (
                some (6 : Int)) (
                some (0 : Int))))))))
theorem s_l12Ask_c {s t publics source r} (h : s_l12Ask s t publics source = some r) : Call tab ow 68 [.agg [I s.Rows, I s.Cols, I s.Publics, sl eEntry s.A, sl eEntry s.B, sl eEntry s.C], .agg [I t.Rate, I t.Queries, I t.Grind], sl eI publics, .agg [sl eExt source.Script, I source.At, S source.State, I source.Count]] [] = some (I r, []) := by
  rw [Call_run (af := a_s_l12Ask) rfl]
  unfold s_l12Ask at h
  simp +decide only [a_s_l12Ask, b_s_l12Ask, go_sem, reduceIte, Nat.reduceAdd]
  have d1 := @s_SystemOK_c
  have d2 := @s_SettingOK_c
  have d3 := @s_l10Fields_c
  have d4 := @s_SourceOK_c
  have d5 := @s_l05Spent_c
  all_goals exact go
section
theorem s_l10Digest_k0 : mkR 2009 [] = rws eU8 [] := rfl
attribute [local go_sem] s_l10Digest_k0
theorem s_l10Digest_k1 : mkR 3006 [] = rws (eL eEntry) [] := rfl
attribute [local go_sem] s_l10Digest_k1
theorem s_l10Digest_k2 : mkR 12007 [] = rws eU8 [] := rfl
attribute [local go_sem] s_l10Digest_k2
noncomputable def s_l10Digest_2_s (l3 : List UInt8) (l4 : List (List Entry)) (t4 : Int) (c7 : Int) (c8 : Int) (c9 : Int) (c10 : List Entry) (c11 : List Entry) (c12 : List Entry) : (List UInt8) × Int → Option (((List UInt8) × Int) ⊕ (((List UInt8) × Int × Bool)))
  | (t3, t5) =>
    br (decide (0 ≤ t4)) (
      br (decide (t4.toNat < l4.length)) (
        (l4[t4.toNat]?).bind fun x2 =>
        br (decide (t5 < ((x2.length : Nat) : Int))) (
          br (decide (0 ≤ t4)) (
            br (decide (t4.toNat < l4.length)) (
              (l4[t4.toNat]?).bind fun x3 =>
              (atL x3 t5).bind fun x4 =>
              (s_l02Number x4.Value (4 : Int)).bind fun r_2 =>
              br (fits (([(UInt8.ofInt x4.Row), (UInt8.ofInt x4.Col)] : List UInt8).length + r_2.length) 1) (
                br (fits (t3.length + (([(UInt8.ofInt x4.Row), (UInt8.ofInt x4.Col)] : List UInt8) ++ r_2).length) 1) (
                  some (.inl ((t3 ++ (([(UInt8.ofInt x4.Row), (UInt8.ofInt x4.Col)] : List UInt8) ++ r_2)), (IntKind.wrap .i64 (t5 + (1 : Int)))))) (
                  none)) (
                none)) (
              none)) (
            none)) (
          some (.inr (t3, t5, decide (t5 < ((x2.length : Nat) : Int)))))) (
        none)) (
      none)
@[reducible] def s_l10Digest_2_S (l3 : List UInt8) (l4 : List (List Entry)) (t4 : Int) (c7 : Int) (c8 : Int) (c9 : Int) (c10 : List Entry) (c11 : List Entry) (c12 : List Entry) (s : (List UInt8) × Int) : St := ⟨[(3, S s.1), (4, .sl 3006 0 l4.length), (5, I t4), (6, I s.2)], [(1000, ⟨6, true, [[I c7, I c8, I c9, sl eEntry c10, sl eEntry c11, sl eEntry c12]]⟩), (2009, ⟨1, false, rws eU8 l3⟩), (3006, ⟨1, false, rws (eL eEntry) l4⟩)]⟩
@[reducible] def s_l10Digest_2_E (l3 : List UInt8) (l4 : List (List Entry)) (t4 : Int) (c7 : Int) (c8 : Int) (c9 : Int) (c10 : List Entry) (c11 : List Entry) (c12 : List Entry) : ((List UInt8) × Int × Bool) → AExit × St := fun e => (.exit 2, ⟨[(3, S e.1), (4, .sl 3006 0 l4.length), (5, I t4), (6, I e.2.1), (46, B e.2.2)], [(1000, ⟨6, true, [[I c7, I c8, I c9, sl eEntry c10, sl eEntry c11, sl eEntry c12]]⟩), (2009, ⟨1, false, rws eU8 l3⟩), (3006, ⟨1, false, rws (eL eEntry) l4⟩)]⟩)
theorem s_l10Digest_2_l {l3 l4 t4 c7 c8 c9 c10 c11 c12 s e} (h : Loop (s_l10Digest_2_s l3 l4 t4 c7 c8 c9 c10 c11 c12) s = some e) : LoopX tab ow (.close [11007,12007,12011]) b_s_l10Digest_8 (s_l10Digest_2_S l3 l4 t4 c7 c8 c9 c10 c11 c12 s) = some (s_l10Digest_2_E l3 l4 t4 c7 c8 c9 c10 c11 c12 e) := by
  refine lrG (fun s o h => ?_) h
  obtain ⟨_, _⟩ := s
  simp only [s_l10Digest_2_s] at h
  simp +decide only [s_l10Digest_2_S, s_l10Digest_2_E, b_s_l10Digest_8, go_sem, reduceIte, Nat.reduceAdd]
  have d1 := @s_l02Number_c
  all_goals exact go
noncomputable def s_l10Digest_1_s (l : List UInt8) (l2 : List (List Entry)) (c : Int) (c2 : Int) (c3 : Int) (c4 : List Entry) (c5 : List Entry) (c6 : List Entry) : (List UInt8) × Int → Option (((List UInt8) × Int) ⊕ (((List UInt8) × Int × Bool)))
  | (t, t2) =>
    br (decide (t2 < (3 : Int))) (
      br (decide (0 ≤ t2)) (
        br (decide (t2.toNat < l2.length)) (
          (l2[t2.toNat]?).bind fun x =>
          (s_l02Number ((x.length : Nat) : Int) (4 : Int)).bind fun r_ =>
          br (fits (t.length + r_.length) 1) (
            (Loop (s_l10Digest_2_s l l2 t2 c c2 c3 c4 c5 c6) ((t ++ r_), (0 : Int))).bind fun e_ =>
            some (.inl (e_.1, (IntKind.wrap .i64 (t2 + (1 : Int)))))) (
            none)) (
          none)) (
        none)) (
      some (.inr (t, t2, decide (t2 < (3 : Int)))))
@[reducible] def s_l10Digest_1_S (l : List UInt8) (l2 : List (List Entry)) (c : Int) (c2 : Int) (c3 : Int) (c4 : List Entry) (c5 : List Entry) (c6 : List Entry) (s : (List UInt8) × Int) : St := ⟨[(3, S s.1), (4, .sl 3006 0 l2.length), (5, I s.2)], [(1000, ⟨6, true, [[I c, I c2, I c3, sl eEntry c4, sl eEntry c5, sl eEntry c6]]⟩), (2009, ⟨1, false, rws eU8 l⟩), (3006, ⟨1, false, rws (eL eEntry) l2⟩)]⟩
@[reducible] def s_l10Digest_1_E (l : List UInt8) (l2 : List (List Entry)) (c : Int) (c2 : Int) (c3 : Int) (c4 : List Entry) (c5 : List Entry) (c6 : List Entry) : ((List UInt8) × Int × Bool) → AExit × St := fun e => (.exit 0, ⟨[(3, S e.1), (4, .sl 3006 0 l2.length), (5, I e.2.1), (28, B e.2.2)], [(1000, ⟨6, true, [[I c, I c2, I c3, sl eEntry c4, sl eEntry c5, sl eEntry c6]]⟩), (2009, ⟨1, false, rws eU8 l⟩), (3006, ⟨1, false, rws (eL eEntry) l2⟩)]⟩)
theorem s_l10Digest_1_l {l l2 c c2 c3 c4 c5 c6 s e} (h : Loop (s_l10Digest_1_s l l2 c c2 c3 c4 c5 c6) s = some e) : LoopX tab ow (.close [7006,11007,12007,12011]) b_s_l10Digest_4 (s_l10Digest_1_S l l2 c c2 c3 c4 c5 c6 s) = some (s_l10Digest_1_E l l2 c c2 c3 c4 c5 c6 e) := by
  refine lrG (fun s o h => ?_) h
  obtain ⟨_, _⟩ := s
  simp only [s_l10Digest_1_s] at h
  simp +decide only [s_l10Digest_1_S, s_l10Digest_1_E, b_s_l10Digest_4, go_sem, reduceIte, Nat.reduceAdd]
  have d1 := @s_l02Number_c
  have d2 := @s_l10Digest_2_l
  all_goals exact go
noncomputable def s_l10Digest (ListtoArray : System) : Option ((List UInt8)) :=
  br (fits ((([115, 121, 115, 116, 101, 109] : List UInt8)).length + ([(UInt8.ofInt ListtoArray.Rows), (UInt8.ofInt ListtoArray.Cols), (UInt8.ofInt ListtoArray.Publics)] : List UInt8).length) 1) (
    (Loop (s_l10Digest_1_s ([(UInt8.ofInt ListtoArray.Rows), (UInt8.ofInt ListtoArray.Cols), (UInt8.ofInt ListtoArray.Publics)] : List UInt8) ([ListtoArray.A, ListtoArray.B, ListtoArray.C] : List (List Entry)) ListtoArray.Rows ListtoArray.Cols ListtoArray.Publics ListtoArray.A ListtoArray.B ListtoArray.C) (((([115, 121, 115, 116, 101, 109] : List UInt8)) ++ ([(UInt8.ofInt ListtoArray.Rows), (UInt8.ofInt ListtoArray.Cols), (UInt8.ofInt ListtoArray.Publics)] : List UInt8)), (0 : Int))).bind fun e_2 =>
    (s_l03Hash e_2.1).bind fun r_3 =>
    some r_3) (
    none)
theorem s_l10Digest_c {ListtoArray r} (h : s_l10Digest ListtoArray = some r) : Call tab ow 164 [.agg [I ListtoArray.Rows, I ListtoArray.Cols, I ListtoArray.Publics, sl eEntry ListtoArray.A, sl eEntry ListtoArray.B, sl eEntry ListtoArray.C]] [] = some (S r, []) := by
  rw [Call_run (af := a_s_l10Digest) rfl]
  unfold s_l10Digest at h
  simp +decide only [a_s_l10Digest, b_s_l10Digest, go_sem, reduceIte, Nat.reduceAdd]
  have d1 := @s_l10Digest_1_l
  have d2 := @s_l03Hash_c
  all_goals exact go
end
section
theorem s_l12Start_k0 : mkR 2011 [] = rws eU8 [] := rfl
attribute [local go_sem] s_l12Start_k0
noncomputable def s_l12Start_1_s (l : List UInt8) (publics2 : List Int) (c : Int) (c2 : Int) (c3 : Int) (c4 : List Entry) (c5 : List Entry) (c6 : List Entry) (c7 : Int) (c8 : Int) (c9 : Int) (c10 : List Ext) (c11 : Int) (c12 : List UInt8) (c13 : Int) (c14 : Int) (c15 : List UInt8) (c16 : Int) : (List UInt8) × Int → Option (((List UInt8) × Int) ⊕ (((List UInt8) × Int × Bool)))
  | (text, i) =>
    br (decide (i < ((publics2.length : Nat) : Int))) (
      (atL publics2 i).bind fun x =>
      (s_l02Number x (4 : Int)).bind fun r_2 =>
      br (fits (text.length + r_2.length) 1) (
        some (.inl ((text ++ r_2), (IntKind.wrap .i64 (i + (1 : Int)))))) (
        none)) (
      some (.inr (text, i, decide (i < ((publics2.length : Nat) : Int)))))
@[reducible] def s_l12Start_1_S (l : List UInt8) (publics2 : List Int) (c : Int) (c2 : Int) (c3 : Int) (c4 : List Entry) (c5 : List Entry) (c6 : List Entry) (c7 : Int) (c8 : Int) (c9 : Int) (c10 : List Ext) (c11 : Int) (c12 : List UInt8) (c13 : Int) (c14 : Int) (c15 : List UInt8) (c16 : Int) (s : (List UInt8) × Int) : St := ⟨[(2, sl eI publics2), (7, .ptr 1002 0 0 1), (8, .ptr 1003 0 0 1), (9, S s.1), (10, I s.2)], [(1000, ⟨6, true, [[I c, I c2, I c3, sl eEntry c4, sl eEntry c5, sl eEntry c6]]⟩), (1001, ⟨3, true, [[I c7, I c8, I c9]]⟩), (1002, ⟨4, true, [[sl eExt c10, I c11, S c12, I c13]]⟩), (1003, ⟨4, true, [[.lit (.slice none 0 0), I c14, S c15, I c16]]⟩), (2011, ⟨1, false, rws eU8 l⟩)]⟩
@[reducible] def s_l12Start_1_E (l : List UInt8) (publics2 : List Int) (c : Int) (c2 : Int) (c3 : Int) (c4 : List Entry) (c5 : List Entry) (c6 : List Entry) (c7 : Int) (c8 : Int) (c9 : Int) (c10 : List Ext) (c11 : Int) (c12 : List UInt8) (c13 : Int) (c14 : Int) (c15 : List UInt8) (c16 : Int) : ((List UInt8) × Int × Bool) → AExit × St := fun e => (.exit 0, ⟨[(2, sl eI publics2), (7, .ptr 1002 0 0 1), (8, .ptr 1003 0 0 1), (9, S e.1), (10, I e.2.1), (28, B e.2.2)], [(1000, ⟨6, true, [[I c, I c2, I c3, sl eEntry c4, sl eEntry c5, sl eEntry c6]]⟩), (1001, ⟨3, true, [[I c7, I c8, I c9]]⟩), (1002, ⟨4, true, [[sl eExt c10, I c11, S c12, I c13]]⟩), (1003, ⟨4, true, [[.lit (.slice none 0 0), I c14, S c15, I c16]]⟩), (2011, ⟨1, false, rws eU8 l⟩)]⟩)
theorem s_l12Start_1_l {l publics2 c c2 c3 c4 c5 c6 c7 c8 c9 c10 c11 c12 c13 c14 c15 c16 s e} (h : Loop (s_l12Start_1_s l publics2 c c2 c3 c4 c5 c6 c7 c8 c9 c10 c11 c12 c13 c14 c15 c16) s = some e) : LoopX tab ow (.close [6005]) b_s_l12Start_3 (s_l12Start_1_S l publics2 c c2 c3 c4 c5 c6 c7 c8 c9 c10 c11 c12 c13 c14 c15 c16 s) = some (s_l12Start_1_E l publics2 c c2 c3 c4 c5 c6 c7 c8 c9 c10 c11 c12 c13 c14 c15 c16 e) := by
  refine lrG (fun s o h => ?_) h
  obtain ⟨_, _⟩ := s
  simp only [s_l12Start_1_s] at h
  simp +decide only [s_l12Start_1_S, s_l12Start_1_E, b_s_l12Start_3, go_sem, reduceIte, Nat.reduceAdd]
  have d1 := @s_l02Number_c
  all_goals exact go
noncomputable def s_l12Start (s : System) (t : Setting) (publics : (List Int)) (source : Source) : Option (Source) :=
  (s_l10Digest s).bind fun r_ =>
  br (fits (r_.length + ([(UInt8.ofInt t.Rate), (UInt8.ofInt t.Queries), (UInt8.ofInt t.Grind)] : List UInt8).length) 1) (
    (Loop (s_l12Start_1_s ([(UInt8.ofInt t.Rate), (UInt8.ofInt t.Queries), (UInt8.ofInt t.Grind)] : List UInt8) publics s.Rows s.Cols s.Publics s.A s.B s.C t.Rate t.Queries t.Grind source.Script source.At source.State source.Count (0 : Int) (([] : List UInt8)) (0 : Int)) ((r_ ++ ([(UInt8.ofInt t.Rate), (UInt8.ofInt t.Queries), (UInt8.ofInt t.Grind)] : List UInt8)), (0 : Int))).bind fun e_ =>
    (s_l05Absorb source e_.1).bind fun r_3 =>
    some r_3) (
    none)
theorem s_l12Start_c {s t publics source r} (h : s_l12Start s t publics source = some r) : Call tab ow 70 [.agg [I s.Rows, I s.Cols, I s.Publics, sl eEntry s.A, sl eEntry s.B, sl eEntry s.C], .agg [I t.Rate, I t.Queries, I t.Grind], sl eI publics, .agg [sl eExt source.Script, I source.At, S source.State, I source.Count]] [] = some (.agg [sl eExt r.Script, I r.At, S r.State, I r.Count], []) := by
  rw [Call_run (af := a_s_l12Start) rfl]
  unfold s_l12Start at h
  simp +decide only [a_s_l12Start, b_s_l12Start, go_sem, reduceIte, Nat.reduceAdd]
  have d1 := @s_l10Digest_c
  have d2 := @s_l12Start_1_l
  have d3 := @s_l05Absorb_c
  all_goals exact go
end
end Go.AI.Fn

set_option linter.unusedVariables false
set_option linter.unusedSimpArgs false
set_option maxRecDepth 100000
set_option maxHeartbeats 1000000
namespace Go.AI.Fn
noncomputable def s_Start (s : System) (t : Setting) (publics : (List Int)) (source : Source) : Option (Source × Int) :=
  br (decide (((publics.length : Nat) : Int) > (4096 : Int))) (
    some ((Source.mk ([] : List Ext) (0 : Int) (([] : List UInt8)) (0 : Int)), (2 : Int))) (
    (s_l12Ask s t publics source).bind fun r_ =>
    br (r_ != (0 : Int)) (
      some ((Source.mk ([] : List Ext) (0 : Int) (([] : List UInt8)) (0 : Int)), r_)) (
      (s_l12Start s t publics source).bind fun r_2 =>
      (s_l05Own r_2).bind fun r_3 =>
      some (r_3, (0 : Int))))
theorem s_Start_c {s t publics source r} (h : s_Start s t publics source = some r) : Call tab ow 14 [.agg [I s.Rows, I s.Cols, I s.Publics, sl eEntry s.A, sl eEntry s.B, sl eEntry s.C], .agg [I t.Rate, I t.Queries, I t.Grind], sl eI publics, .agg [sl eExt source.Script, I source.At, S source.State, I source.Count]] [] = some (.tup [.agg [sl eExt r.1.Script, I r.1.At, S r.1.State, I r.1.Count], I r.2], []) := by
  rw [Call_run (af := a_s_Start) rfl]
  unfold s_Start at h
  simp +decide only [a_s_Start, b_s_Start, go_sem, reduceIte, Nat.reduceAdd]
  have d1 := @s_l12Ask_c
  have d2 := @s_l12Start_c
  have d3 := @s_l05Own_c
  all_goals exact go
noncomputable def s_ExtsOf (code : (List UInt8)) (n : Int) : Option ((List Ext)) :=
  (s_l00Source code).bind fun r_ =>
  (s_l00Src_exts n r_).bind fun r_2 =>
  some r_2.1
theorem s_ExtsOf_c {code n r} (h : s_ExtsOf code n = some r) : Call tab ow 15 [sl eU8 code, I n] [] = some (sl eExt r, []) := by
  rw [Call_run (af := a_s_ExtsOf) rfl]
  unfold s_ExtsOf at h
  simp +decide only [a_s_ExtsOf, b_s_ExtsOf, go_sem, reduceIte, Nat.reduceAdd]
  have d1 := @s_l00Source_c
  have d2 := @s_l00Src_exts_c
  all_goals exact go
noncomputable def i_one : Option (Ext) :=
  some (Ext.mk (1 : Int) (0 : Int))
theorem i_one_c {r} (h : i_one = some r) : Call tab ow 172 [] [] = some (.agg [I r.A, I r.B], []) := by
  rw [Call_run (af := a_i_one) rfl]
  unfold i_one at h
  simp +decide only [a_i_one, b_i_one, go_sem, reduceIte, Nat.reduceAdd]
  all_goals exact go
noncomputable def i_sub (a : Int) (b : Int) : Option (Int) :=
  some ((IntKind.wrap .i64 ((IntKind.wrap .i64 (a - b)) + (2130706433 : Int))).tmod (2130706433 : Int))
theorem i_sub_c {a b r} (h : i_sub a b = some r) : Call tab ow 248 [I a, I b] [] = some (I r, []) := by
  rw [Call_run (af := a_i_sub) rfl]
  unfold i_sub at h
  simp +decide only [a_i_sub, b_i_sub, go_sem, reduceIte, Nat.reduceAdd]
  all_goals exact go
noncomputable def i_Ext_minus (a : Ext) (b : Ext) : Option (Ext) :=
  (i_sub a.A b.A).bind fun r_ =>
  (i_sub a.B b.B).bind fun r_2 =>
  some (Ext.mk r_ r_2)
theorem i_Ext_minus_c {a b r} (h : i_Ext_minus a b = some r) : Call tab ow 173 [.agg [I a.A, I a.B], .agg [I b.A, I b.B]] [] = some (.agg [I r.A, I r.B], []) := by
  rw [Call_run (af := a_i_Ext_minus) rfl]
  unfold i_Ext_minus at h
  simp +decide only [a_i_Ext_minus, b_i_Ext_minus, go_sem, reduceIte, Nat.reduceAdd]
  have d1 := @i_sub_c
  all_goals exact go
noncomputable def i_mul (a : Int) (b : Int) : Option (Int) :=
  some ((IntKind.wrap .i64 (a * b)).tmod (2130706433 : Int))
theorem i_mul_c {a b r} (h : i_mul a b = some r) : Call tab ow 176 [I a, I b] [] = some (I r, []) := by
  rw [Call_run (af := a_i_mul) rfl]
  unfold i_mul at h
  simp +decide only [a_i_mul, b_i_mul, go_sem, reduceIte, Nat.reduceAdd]
  all_goals exact go
noncomputable def i_add (a : Int) (b : Int) : Option (Int) :=
  some ((IntKind.wrap .i64 (a + b)).tmod (2130706433 : Int))
theorem i_add_c {a b r} (h : i_add a b = some r) : Call tab ow 175 [I a, I b] [] = some (I r, []) := by
  rw [Call_run (af := a_i_add) rfl]
  unfold i_add at h
  simp +decide only [a_i_add, b_i_add, go_sem, reduceIte, Nat.reduceAdd]
  all_goals exact go
noncomputable def i_Ext_times (a : Ext) (b : Ext) : Option (Ext) :=
  (i_mul a.A b.A).bind fun r_ =>
  (i_mul a.B b.B).bind fun r_2 =>
  (i_mul (3 : Int) r_2).bind fun r_3 =>
  (i_add r_ r_3).bind fun r_4 =>
  (i_mul a.A b.B).bind fun r_5 =>
  (i_mul a.B b.A).bind fun r_6 =>
  (i_add r_5 r_6).bind fun r_7 =>
  some (Ext.mk r_4 r_7)
theorem i_Ext_times_c {a b r} (h : i_Ext_times a b = some r) : Call tab ow 83 [.agg [I a.A, I a.B], .agg [I b.A, I b.B]] [] = some (.agg [I r.A, I r.B], []) := by
  rw [Call_run (af := a_i_Ext_times) rfl]
  unfold i_Ext_times at h
  simp +decide only [a_i_Ext_times, b_i_Ext_times, go_sem, reduceIte, Nat.reduceAdd]
  have d1 := @i_mul_c
  have d2 := @i_add_c
  all_goals exact go
section
theorem i_eqTable_k0 : mkR 2001 [] = rws eExt [] := rfl
attribute [local go_sem] i_eqTable_k0
theorem i_eqTable_k1 : mkR 6000 [] = rws eExt [] := rfl
attribute [local go_sem] i_eqTable_k1
theorem i_eqTable_k2 : mkR 6001 [] = rws eExt [] := rfl
attribute [local go_sem] i_eqTable_k2
theorem i_eqTable_k3 : mkR 10006 [] = rws eExt [] := rfl
attribute [local go_sem] i_eqTable_k3
theorem i_eqTable_k4 : mkR 10012 [] = rws eExt [] := rfl
attribute [local go_sem] i_eqTable_k4
noncomputable def i_eqTable_2_s (t4 : List Ext) (t5 : Int) (t6 : Int) (t7 : List Ext) (t8 : Int) (c : Int) (c2 : Int) : (List Ext) × (List Ext) × Int → Option (((List Ext) × (List Ext) × Int) ⊕ (((List Ext) × (List Ext) × Int × Bool)))
  | (l, l2, t9) =>
    br (decide (t9 < t8)) (
      (atL t7 t9).bind fun x2 =>
      (i_one).bind fun r_2 =>
      (i_Ext_minus r_2 (Ext.mk c c2)).bind fun r_3 =>
      (i_Ext_times x2 r_3).bind fun r_4 =>
      br (fits ((l ++ ([r_4] : List Ext)).length) 16) (
        (i_Ext_times x2 (Ext.mk c c2)).bind fun r_5 =>
        br (fits ((l2 ++ ([r_5] : List Ext)).length) 16) (
          some (.inl ((l ++ ([r_4] : List Ext)), (l2 ++ ([r_5] : List Ext)), (IntKind.wrap .i64 (t9 + (1 : Int)))))) (
          none)) (
        none)) (
      some (.inr (l, l2, t9, decide (t9 < t8))))
@[reducible] def i_eqTable_2_S (t4 : List Ext) (t5 : Int) (t6 : Int) (t7 : List Ext) (t8 : Int) (c : Int) (c2 : Int) (s : (List Ext) × (List Ext) × Int) : St := ⟨[(5, .ptr 5002 0 0 1), (6, .sl 6000 0 s.1.length), (7, .sl 6001 0 s.2.1.length), (12, sl eExt t4), (13, I t5), (14, I t6), (20, sl eExt t7), (21, I t8), (22, I s.2.2)], [(5002, ⟨2, true, [[I c, I c2]]⟩), (6000, ⟨2, false, rws eExt s.1⟩), (6001, ⟨2, false, rws eExt s.2.1⟩)]⟩
@[reducible] def i_eqTable_2_E (t4 : List Ext) (t5 : Int) (t6 : Int) (t7 : List Ext) (t8 : Int) (c : Int) (c2 : Int) : ((List Ext) × (List Ext) × Int × Bool) → AExit × St := fun e => (.exit 2, ⟨[(5, .ptr 5002 0 0 1), (6, .sl 6000 0 e.1.length), (7, .sl 6001 0 e.2.1.length), (12, sl eExt t4), (13, I t5), (14, I t6), (20, sl eExt t7), (21, I t8), (22, I e.2.2.1), (23, B e.2.2.2)], [(5002, ⟨2, true, [[I c, I c2]]⟩), (6000, ⟨2, false, rws eExt e.1⟩), (6001, ⟨2, false, rws eExt e.2.1⟩)]⟩)
theorem i_eqTable_2_l {t4 t5 t6 t7 t8 c c2 s e} (h : Loop (i_eqTable_2_s t4 t5 t6 t7 t8 c c2) s = some e) : LoopX tab ow (.close [9002,10002,10004,10005,10006,10007,10011,10012,10013]) b_i_eqTable_7 (i_eqTable_2_S t4 t5 t6 t7 t8 c c2 s) = some (i_eqTable_2_E t4 t5 t6 t7 t8 c c2 e) := by
  refine lrG (fun s o h => ?_) h
  obtain ⟨_, _, _⟩ := s
  simp only [i_eqTable_2_s] at h
  simp +decide only [i_eqTable_2_S, i_eqTable_2_E, b_i_eqTable_7, go_sem, reduceIte, Nat.reduceAdd]
  have d1 := @i_one_c
  have d2 := @i_Ext_minus_c
  have d3 := @i_Ext_times_c
  all_goals exact go
noncomputable def i_eqTable_1_s (t : List Ext) (t2 : Int) : (List Ext) × Int → Option (((List Ext) × Int) ⊕ (((List Ext) × Int × Bool)))
  | (out, t3) =>
    br (decide (t3 < t2)) (
      (atL t t3).bind fun x =>
      (Loop (i_eqTable_2_s t t2 t3 out ((out.length : Nat) : Int) x.A x.B) (([] : List Ext), ([] : List Ext), (0 : Int))).bind fun e_ =>
      br (fits ((e_.1 ++ e_.2.1).length) 16) (
        some (.inl ((e_.1 ++ e_.2.1), (IntKind.wrap .i64 (t3 + (1 : Int)))))) (
        none)) (
      some (.inr (out, t3, decide (t3 < t2))))
@[reducible] def i_eqTable_1_S (t : List Ext) (t2 : Int) (s : (List Ext) × Int) : St := ⟨[(3, sl eExt s.1), (12, sl eExt t), (13, I t2), (14, I s.2)], []⟩
@[reducible] def i_eqTable_1_E (t : List Ext) (t2 : Int) : ((List Ext) × Int × Bool) → AExit × St := fun e => (.exit 0, ⟨[(3, sl eExt e.1), (12, sl eExt t), (13, I t2), (14, I e.2.1), (15, B e.2.2)], []⟩)
theorem i_eqTable_1_l {t t2 s e} (h : Loop (i_eqTable_1_s t t2) s = some e) : LoopX tab ow (.close [5002,6000,6001,9002,10002,10004,10005,10006,10007,10011,10012,10013,12002,2001]) b_i_eqTable_3 (i_eqTable_1_S t t2 s) = some (i_eqTable_1_E t t2 e) := by
  refine lrG (fun s o h => ?_) h
  obtain ⟨_, _⟩ := s
  simp only [i_eqTable_1_s] at h
  simp +decide only [i_eqTable_1_S, i_eqTable_1_E, b_i_eqTable_3, go_sem, reduceIte, Nat.reduceAdd]
  have d1 := @i_eqTable_2_l
  all_goals exact go
noncomputable def i_eqTable (point : (List Ext)) : Option ((List Ext)) :=
  (i_one).bind fun r_ =>
  (Loop (i_eqTable_1_s point ((point.length : Nat) : Int)) (([r_] : List Ext), (0 : Int))).bind fun e_2 =>
  some e_2.1
theorem i_eqTable_c {point r} (h : i_eqTable point = some r) : Call tab ow 79 [sl eExt point] [] = some (sl eExt r, []) := by
  rw [Call_run (af := a_i_eqTable) rfl]
  unfold i_eqTable at h
  simp +decide only [a_i_eqTable, b_i_eqTable, go_sem, reduceIte, Nat.reduceAdd]
  have d1 := @i_one_c
  have d2 := @i_eqTable_1_l
  all_goals exact go
end
noncomputable def i_Ext_scaled (a : Ext) (n : Int) : Option (Ext) :=
  (i_mul a.A n).bind fun r_ =>
  (i_mul a.B n).bind fun r_2 =>
  some (Ext.mk r_ r_2)
theorem i_Ext_scaled_c {a n r} (h : i_Ext_scaled a n = some r) : Call tab ow 84 [.agg [I a.A, I a.B], I n] [] = some (.agg [I r.A, I r.B], []) := by
  rw [Call_run (af := a_i_Ext_scaled) rfl]
  unfold i_Ext_scaled at h
  simp +decide only [a_i_Ext_scaled, b_i_Ext_scaled, go_sem, reduceIte, Nat.reduceAdd]
  have d1 := @i_mul_c
  all_goals exact go
noncomputable def i_Ext_plus (a : Ext) (b : Ext) : Option (Ext) :=
  (i_add a.A b.A).bind fun r_ =>
  (i_add a.B b.B).bind fun r_2 =>
  some (Ext.mk r_ r_2)
theorem i_Ext_plus_c {a b r} (h : i_Ext_plus a b = some r) : Call tab ow 82 [.agg [I a.A, I a.B], .agg [I b.A, I b.B]] [] = some (.agg [I r.A, I r.B], []) := by
  rw [Call_run (af := a_i_Ext_plus) rfl]
  unfold i_Ext_plus at h
  simp +decide only [a_i_Ext_plus, b_i_Ext_plus, go_sem, reduceIte, Nat.reduceAdd]
  have d1 := @i_add_c
  all_goals exact go
section
theorem i_boundTable_k0 : ∀ k, repR 2003 k [I (0 : Int), I (0 : Int)] = rws eExt (List.replicate k (Ext.mk (0 : Int) (0 : Int))) := fun _ => repT eExt (Ext.mk (0 : Int) (0 : Int)) _ _
attribute [local go_sem] i_boundTable_k0
noncomputable def i_boundTable_1_s (rows : List Ext) (t : List Entry) (t2 : List Entry) (t3 : List Entry) (t4 : Int) (t5 : List Entry) (t6 : Int) (c : Int) (c2 : Int) (c3 : Int) (c4 : List Entry) (c5 : List Entry) (c6 : List Entry) (c7 : Int) (c8 : Int) (c9 : Int) (c10 : Int) (c11 : Int) (c12 : Int) : (List Ext) × Int → Option (((List Ext) × Int) ⊕ (((List Ext) × Int × Bool)))
  | (l, t7) =>
    br (decide (t7 < t6)) (
      (atL t5 t7).bind fun x =>
      br (decide (0 ≤ x.Col)) (
        br (decide (x.Col.toNat < l.length)) (
          (l[x.Col.toNat]?).bind fun x2 =>
          (atL rows x.Row).bind fun x3 =>
          (i_Ext_times (Ext.mk c7 c8) x3).bind fun r_3 =>
          (i_Ext_scaled r_3 x.Value).bind fun r_4 =>
          (i_Ext_plus x2 r_4).bind fun r_5 =>
          br (decide (0 ≤ x.Col)) (
            br (decide (x.Col.toNat < l.length)) (
              (l[x.Col.toNat]?).bind fun x4 =>
              some (.inl ((l.set x.Col.toNat r_5), (IntKind.wrap .i64 (t7 + (1 : Int)))))) (
              none)) (
            none)) (
          none)) (
        none)) (
      some (.inr (l, t7, decide (t7 < t6))))
@[reducible] def i_boundTable_1_S (rows : List Ext) (t : List Entry) (t2 : List Entry) (t3 : List Entry) (t4 : Int) (t5 : List Entry) (t6 : Int) (c : Int) (c2 : Int) (c3 : Int) (c4 : List Entry) (c5 : List Entry) (c6 : List Entry) (c7 : Int) (c8 : Int) (c9 : Int) (c10 : Int) (c11 : Int) (c12 : Int) (s : (List Ext) × Int) : St := ⟨[(5, .ptr 1001 0 0 1), (7, .sl 2003 0 s.1.length), (8, sl eExt rows), (9, I (0 : Int)), (20, .agg [sl eEntry t, sl eEntry t2, sl eEntry t3]), (21, I t4), (25, sl eEntry t5), (26, I t6), (27, I s.2)], [(1000, ⟨6, true, [[I c, I c2, I c3, sl eEntry c4, sl eEntry c5, sl eEntry c6]]⟩), (1001, ⟨6, true, [[I c7, I c8, I c9, I c10, I c11, I c12]]⟩), (2003, ⟨2, false, rws eExt s.1⟩)]⟩
@[reducible] def i_boundTable_1_E (rows : List Ext) (t : List Entry) (t2 : List Entry) (t3 : List Entry) (t4 : Int) (t5 : List Entry) (t6 : Int) (c : Int) (c2 : Int) (c3 : Int) (c4 : List Entry) (c5 : List Entry) (c6 : List Entry) (c7 : Int) (c8 : Int) (c9 : Int) (c10 : Int) (c11 : Int) (c12 : Int) : ((List Ext) × Int × Bool) → AExit × St := fun e => (.exit 2, ⟨[(5, .ptr 1001 0 0 1), (7, .sl 2003 0 e.1.length), (8, sl eExt rows), (9, I (0 : Int)), (20, .agg [sl eEntry t, sl eEntry t2, sl eEntry t3]), (21, I t4), (25, sl eEntry t5), (26, I t6), (27, I e.2.1), (28, B e.2.2)], [(1000, ⟨6, true, [[I c, I c2, I c3, sl eEntry c4, sl eEntry c5, sl eEntry c6]]⟩), (1001, ⟨6, true, [[I c7, I c8, I c9, I c10, I c11, I c12]]⟩), (2003, ⟨2, false, rws eExt e.1⟩)]⟩)
theorem i_boundTable_1_l {rows t t2 t3 t4 t5 t6 c c2 c3 c4 c5 c6 c7 c8 c9 c10 c11 c12 s e} (h : Loop (i_boundTable_1_s rows t t2 t3 t4 t5 t6 c c2 c3 c4 c5 c6 c7 c8 c9 c10 c11 c12) s = some e) : LoopX tab ow (.close [8002,9016,9019,9020]) b_i_boundTable_6 (i_boundTable_1_S rows t t2 t3 t4 t5 t6 c c2 c3 c4 c5 c6 c7 c8 c9 c10 c11 c12 s) = some (i_boundTable_1_E rows t t2 t3 t4 t5 t6 c c2 c3 c4 c5 c6 c7 c8 c9 c10 c11 c12 e) := by
  refine lrG (fun s o h => ?_) h
  obtain ⟨_, _⟩ := s
  simp only [i_boundTable_1_s] at h
  simp +decide only [i_boundTable_1_S, i_boundTable_1_E, b_i_boundTable_6, go_sem, reduceIte, Nat.reduceAdd, Int.reduceAdd, Int.reduceMul, Int.reduceSub]
  have d1 := @i_Ext_times_c
  have d2 := @i_Ext_scaled_c
  have d3 := @i_Ext_plus_c
  all_goals exact go
noncomputable def i_boundTable_2_s (rows2 : List Ext) (t8 : List Entry) (t9 : List Entry) (t10 : List Entry) (t11 : List Entry) (t12 : Int) (c13 : Int) (c14 : Int) (c15 : Int) (c16 : List Entry) (c17 : List Entry) (c18 : List Entry) (c19 : Int) (c20 : Int) (c21 : Int) (c22 : Int) (c23 : Int) (c24 : Int) : (List Ext) × Int → Option (((List Ext) × Int) ⊕ (((List Ext) × Int × Bool)))
  | (l2, t13) =>
    br (decide (t13 < t12)) (
      (atL t11 t13).bind fun x5 =>
      br (decide (0 ≤ x5.Col)) (
        br (decide (x5.Col.toNat < l2.length)) (
          (l2[x5.Col.toNat]?).bind fun x6 =>
          (atL rows2 x5.Row).bind fun x7 =>
          (i_Ext_times (Ext.mk c21 c22) x7).bind fun r_6 =>
          (i_Ext_scaled r_6 x5.Value).bind fun r_7 =>
          (i_Ext_plus x6 r_7).bind fun r_8 =>
          br (decide (0 ≤ x5.Col)) (
            br (decide (x5.Col.toNat < l2.length)) (
              (l2[x5.Col.toNat]?).bind fun x8 =>
              some (.inl ((l2.set x5.Col.toNat r_8), (IntKind.wrap .i64 (t13 + (1 : Int)))))) (
              none)) (
            none)) (
          none)) (
        none)) (
      some (.inr (l2, t13, decide (t13 < t12))))
@[reducible] def i_boundTable_2_S (rows2 : List Ext) (t8 : List Entry) (t9 : List Entry) (t10 : List Entry) (t11 : List Entry) (t12 : Int) (c13 : Int) (c14 : Int) (c15 : Int) (c16 : List Entry) (c17 : List Entry) (c18 : List Entry) (c19 : Int) (c20 : Int) (c21 : Int) (c22 : Int) (c23 : Int) (c24 : Int) (s : (List Ext) × Int) : St := ⟨[(5, .ptr 1001 0 0 1), (7, .sl 2003 0 s.1.length), (8, sl eExt rows2), (9, I (1 : Int)), (20, .agg [sl eEntry t8, sl eEntry t9, sl eEntry t10]), (21, I (1 : Int)), (25, sl eEntry t11), (26, I t12), (27, I s.2)], [(1000, ⟨6, true, [[I c13, I c14, I c15, sl eEntry c16, sl eEntry c17, sl eEntry c18]]⟩), (1001, ⟨6, true, [[I c19, I c20, I c21, I c22, I c23, I c24]]⟩), (2003, ⟨2, false, rws eExt s.1⟩)]⟩
@[reducible] def i_boundTable_2_E (rows2 : List Ext) (t8 : List Entry) (t9 : List Entry) (t10 : List Entry) (t11 : List Entry) (t12 : Int) (c13 : Int) (c14 : Int) (c15 : Int) (c16 : List Entry) (c17 : List Entry) (c18 : List Entry) (c19 : Int) (c20 : Int) (c21 : Int) (c22 : Int) (c23 : Int) (c24 : Int) : ((List Ext) × Int × Bool) → AExit × St := fun e => (.exit 2, ⟨[(5, .ptr 1001 0 0 1), (7, .sl 2003 0 e.1.length), (8, sl eExt rows2), (9, I (1 : Int)), (20, .agg [sl eEntry t8, sl eEntry t9, sl eEntry t10]), (21, I (1 : Int)), (25, sl eEntry t11), (26, I t12), (27, I e.2.1), (28, B e.2.2)], [(1000, ⟨6, true, [[I c13, I c14, I c15, sl eEntry c16, sl eEntry c17, sl eEntry c18]]⟩), (1001, ⟨6, true, [[I c19, I c20, I c21, I c22, I c23, I c24]]⟩), (2003, ⟨2, false, rws eExt e.1⟩)]⟩)
theorem i_boundTable_2_l {rows2 t8 t9 t10 t11 t12 c13 c14 c15 c16 c17 c18 c19 c20 c21 c22 c23 c24 s e} (h : Loop (i_boundTable_2_s rows2 t8 t9 t10 t11 t12 c13 c14 c15 c16 c17 c18 c19 c20 c21 c22 c23 c24) s = some e) : LoopX tab ow (.close [8002,9016,9019,9020]) b_i_boundTable_6 (i_boundTable_2_S rows2 t8 t9 t10 t11 t12 c13 c14 c15 c16 c17 c18 c19 c20 c21 c22 c23 c24 s) = some (i_boundTable_2_E rows2 t8 t9 t10 t11 t12 c13 c14 c15 c16 c17 c18 c19 c20 c21 c22 c23 c24 e) := by
  refine lrG (fun s o h => ?_) h
  obtain ⟨_, _⟩ := s
  simp only [i_boundTable_2_s] at h
  simp +decide only [i_boundTable_2_S, i_boundTable_2_E, b_i_boundTable_6, go_sem, reduceIte, Nat.reduceAdd, Int.reduceAdd, Int.reduceMul, Int.reduceSub]
  have d1 := @i_Ext_times_c
  have d2 := @i_Ext_scaled_c
  have d3 := @i_Ext_plus_c
  all_goals exact go
noncomputable def i_boundTable_3_s (rows3 : List Ext) (t14 : List Entry) (t15 : List Entry) (t16 : List Entry) (t17 : List Entry) (t18 : Int) (c25 : Int) (c26 : Int) (c27 : Int) (c28 : List Entry) (c29 : List Entry) (c30 : List Entry) (c31 : Int) (c32 : Int) (c33 : Int) (c34 : Int) (c35 : Int) (c36 : Int) : (List Ext) × Int → Option (((List Ext) × Int) ⊕ (((List Ext) × Int × Bool)))
  | (l3, t19) =>
    br (decide (t19 < t18)) (
      (atL t17 t19).bind fun x9 =>
      br (decide (0 ≤ x9.Col)) (
        br (decide (x9.Col.toNat < l3.length)) (
          (l3[x9.Col.toNat]?).bind fun x10 =>
          (atL rows3 x9.Row).bind fun x11 =>
          (i_Ext_times (Ext.mk c35 c36) x11).bind fun r_9 =>
          (i_Ext_scaled r_9 x9.Value).bind fun r_10 =>
          (i_Ext_plus x10 r_10).bind fun r_11 =>
          br (decide (0 ≤ x9.Col)) (
            br (decide (x9.Col.toNat < l3.length)) (
              (l3[x9.Col.toNat]?).bind fun x12 =>
              some (.inl ((l3.set x9.Col.toNat r_11), (IntKind.wrap .i64 (t19 + (1 : Int)))))) (
              none)) (
            none)) (
          none)) (
        none)) (
      some (.inr (l3, t19, decide (t19 < t18))))
@[reducible] def i_boundTable_3_S (rows3 : List Ext) (t14 : List Entry) (t15 : List Entry) (t16 : List Entry) (t17 : List Entry) (t18 : Int) (c25 : Int) (c26 : Int) (c27 : Int) (c28 : List Entry) (c29 : List Entry) (c30 : List Entry) (c31 : Int) (c32 : Int) (c33 : Int) (c34 : Int) (c35 : Int) (c36 : Int) (s : (List Ext) × Int) : St := ⟨[(5, .ptr 1001 0 0 1), (7, .sl 2003 0 s.1.length), (8, sl eExt rows3), (9, I (2 : Int)), (20, .agg [sl eEntry t14, sl eEntry t15, sl eEntry t16]), (21, I (2 : Int)), (25, sl eEntry t17), (26, I t18), (27, I s.2)], [(1000, ⟨6, true, [[I c25, I c26, I c27, sl eEntry c28, sl eEntry c29, sl eEntry c30]]⟩), (1001, ⟨6, true, [[I c31, I c32, I c33, I c34, I c35, I c36]]⟩), (2003, ⟨2, false, rws eExt s.1⟩)]⟩
@[reducible] def i_boundTable_3_E (rows3 : List Ext) (t14 : List Entry) (t15 : List Entry) (t16 : List Entry) (t17 : List Entry) (t18 : Int) (c25 : Int) (c26 : Int) (c27 : Int) (c28 : List Entry) (c29 : List Entry) (c30 : List Entry) (c31 : Int) (c32 : Int) (c33 : Int) (c34 : Int) (c35 : Int) (c36 : Int) : ((List Ext) × Int × Bool) → AExit × St := fun e => (.exit 2, ⟨[(5, .ptr 1001 0 0 1), (7, .sl 2003 0 e.1.length), (8, sl eExt rows3), (9, I (2 : Int)), (20, .agg [sl eEntry t14, sl eEntry t15, sl eEntry t16]), (21, I (2 : Int)), (25, sl eEntry t17), (26, I t18), (27, I e.2.1), (28, B e.2.2)], [(1000, ⟨6, true, [[I c25, I c26, I c27, sl eEntry c28, sl eEntry c29, sl eEntry c30]]⟩), (1001, ⟨6, true, [[I c31, I c32, I c33, I c34, I c35, I c36]]⟩), (2003, ⟨2, false, rws eExt e.1⟩)]⟩)
theorem i_boundTable_3_l {rows3 t14 t15 t16 t17 t18 c25 c26 c27 c28 c29 c30 c31 c32 c33 c34 c35 c36 s e} (h : Loop (i_boundTable_3_s rows3 t14 t15 t16 t17 t18 c25 c26 c27 c28 c29 c30 c31 c32 c33 c34 c35 c36) s = some e) : LoopX tab ow (.close [8002,9016,9019,9020]) b_i_boundTable_6 (i_boundTable_3_S rows3 t14 t15 t16 t17 t18 c25 c26 c27 c28 c29 c30 c31 c32 c33 c34 c35 c36 s) = some (i_boundTable_3_E rows3 t14 t15 t16 t17 t18 c25 c26 c27 c28 c29 c30 c31 c32 c33 c34 c35 c36 e) := by
  refine lrG (fun s o h => ?_) h
  obtain ⟨_, _⟩ := s
  simp only [i_boundTable_3_s] at h
  simp +decide only [i_boundTable_3_S, i_boundTable_3_E, b_i_boundTable_6, go_sem, reduceIte, Nat.reduceAdd, Int.reduceAdd, Int.reduceMul, Int.reduceSub]
  have d1 := @i_Ext_times_c
  have d2 := @i_Ext_scaled_c
  have d3 := @i_Ext_plus_c
  all_goals exact go
noncomputable def i_boundTable (s : System) (rx : (List Ext)) (by_ : (Ext × Ext × Ext)) : Option ((List Ext)) :=
  br (decide (0 ≤ s.Cols)) (
    br (mkOK (shl64 .i64 (1 : Int) s.Cols) (shl64 .i64 (1 : Int) s.Cols) 16) (
      (i_eqTable rx).bind fun r_ =>
      (i_System_matrices s).bind fun r_2 =>
      (Loop (i_boundTable_1_s r_ r_2.1 r_2.2.1 r_2.2.2 (0 : Int) r_2.1 ((r_2.1.length : Nat) : Int) s.Rows s.Cols s.Publics s.A s.B s.C by_.1.A by_.1.B by_.2.1.A by_.2.1.B by_.2.2.A by_.2.2.B) ((List.replicate ((shl64 .i64 (1 : Int) s.Cols).toNat) (Ext.mk (0 : Int) (0 : Int))), (0 : Int))).bind fun e_ =>
      (Loop (i_boundTable_2_s r_ r_2.1 r_2.2.1 r_2.2.2 r_2.2.1 ((r_2.2.1.length : Nat) : Int) s.Rows s.Cols s.Publics s.A s.B s.C by_.1.A by_.1.B by_.2.1.A by_.2.1.B by_.2.2.A by_.2.2.B) (e_.1, (0 : Int))).bind fun e_2 =>
      (Loop (i_boundTable_3_s r_ r_2.1 r_2.2.1 r_2.2.2 r_2.2.2 ((r_2.2.2.length : Nat) : Int) s.Rows s.Cols s.Publics s.A s.B s.C by_.1.A by_.1.B by_.2.1.A by_.2.1.B by_.2.2.A by_.2.2.B) (e_2.1, (0 : Int))).bind fun e_3 =>
      some e_3.1) (
      none)) (
    none)
theorem i_boundTable_c {s rx by_ r} (h : i_boundTable s rx by_ = some r) : Call tab ow 75 [.agg [I s.Rows, I s.Cols, I s.Publics, sl eEntry s.A, sl eEntry s.B, sl eEntry s.C], sl eExt rx, .agg [I by_.1.A, I by_.1.B, I by_.2.1.A, I by_.2.1.B, I by_.2.2.A, I by_.2.2.B]] [] = some (sl eExt r, []) := by
  rw [Call_run (af := a_i_boundTable) rfl]
  unfold i_boundTable at h
  simp +decide only [a_i_boundTable, b_i_boundTable, go_sem, reduceIte, Nat.reduceAdd, Int.reduceAdd, Int.reduceMul, Int.reduceSub]
  obtain ⟨hb, h⟩ := brg h
  refine br_t hb ?_
  obtain ⟨hb, h⟩ := brg h
  refine br_t hb ?_
  obtain ⟨r_, h1, h⟩ := bd h
  refine call_aftD (i_eqTable_c h1) ?_
  simp +decide only [go_sem, reduceIte, Nat.reduceAdd, Int.reduceAdd, Int.reduceMul, Int.reduceSub]
  obtain ⟨r_2, h1, h⟩ := bd h
  refine call_aft (i_System_matrices_c h1) ?_
  simp +decide only [go_sem, reduceIte, Nat.reduceAdd, Int.reduceAdd, Int.reduceMul, Int.reduceSub]
  refine unroll_of ?_
  simp +decide only [b_i_boundTable_3, go_sem, reduceIte, Nat.reduceAdd, Int.reduceAdd, Int.reduceMul, Int.reduceSub]
  obtain ⟨e_, h1, h⟩ := bd h
  refine goR_of (i_boundTable_1_l h1) ?_
  simp +decide only [go_sem, reduceIte, Nat.reduceAdd, Int.reduceAdd, Int.reduceMul, Int.reduceSub]
  refine unroll_of ?_
  simp +decide only [b_i_boundTable_3, go_sem, reduceIte, Nat.reduceAdd, Int.reduceAdd, Int.reduceMul, Int.reduceSub]
  obtain ⟨e_2, h1, h⟩ := bd h
  refine goR_of (i_boundTable_2_l h1) ?_
  simp +decide only [go_sem, reduceIte, Nat.reduceAdd, Int.reduceAdd, Int.reduceMul, Int.reduceSub]
  refine unroll_of ?_
  simp +decide only [b_i_boundTable_3, go_sem, reduceIte, Nat.reduceAdd, Int.reduceAdd, Int.reduceMul, Int.reduceSub]
  obtain ⟨e_3, h1, h⟩ := bd h
  refine goR_of (i_boundTable_3_l h1) ?_
  simp +decide only [go_sem, reduceIte, Nat.reduceAdd, Int.reduceAdd, Int.reduceMul, Int.reduceSub]
  refine unroll_of ?_
  simp +decide only [b_i_boundTable_3, go_sem, reduceIte, Nat.reduceAdd, Int.reduceAdd, Int.reduceMul, Int.reduceSub]
  obtain rfl := Option.some.inj h
  first | rfl | (simp only [List.length_set, go_sem]; done)
end
noncomputable def i_BoundTable (s : System) (rx : (List Ext)) (ra : Ext) (rb : Ext) (rc : Ext) : Option ((List Ext) × Int) :=
  br (decide (((rx.length : Nat) : Int) > (4096 : Int))) (
    some (([] : List Ext), (2 : Int))) (
    (i_SystemOK s).bind fun r_ =>
    br (!r_) (
      some (([] : List Ext), (1 : Int))) (
      (i_are_i_Ext_ExtOK rx).bind fun r_2 =>
      br (!r_2) (
        some (([] : List Ext), (1 : Int))) (
        (i_ExtOK ra).bind fun r_3 =>
        br (!r_3) (
          some (([] : List Ext), (1 : Int))) (
          (i_ExtOK rb).bind fun r_4 =>
          br (!r_4) (
            some (([] : List Ext), (1 : Int))) (
            (i_ExtOK rc).bind fun r_5 =>
            br (!r_5) (
              some (([] : List Ext), (1 : Int))) (
              br (((rx.length : Nat) : Int) != s.Rows) (
                some (([] : List Ext), (8 : Int))) (
                (i_boundTable s rx (ra, rb, rc)).bind fun r_6 =>
                some (r_6, (0 : Int)))))))))
theorem i_BoundTable_c {s rx ra rb rc r} (h : i_BoundTable s rx ra rb rc = some r) : Call tab ow 16 [.agg [I s.Rows, I s.Cols, I s.Publics, sl eEntry s.A, sl eEntry s.B, sl eEntry s.C], sl eExt rx, .agg [I ra.A, I ra.B], .agg [I rb.A, I rb.B], .agg [I rc.A, I rc.B]] [] = some (.tup [sl eExt r.1, I r.2], []) := by
  rw [Call_run (af := a_i_BoundTable) rfl]
  unfold i_BoundTable at h
  simp +decide only [a_i_BoundTable, b_i_BoundTable, go_sem, reduceIte, Nat.reduceAdd]
  have d1 := @i_SystemOK_c
  have d2 := @i_are_i_Ext_ExtOK_c
  have d3 := @i_ExtOK_c
  have d4 := @i_boundTable_c
  all_goals exact go
noncomputable def i_isPower (n : Int) (most : Int) : Option (Bool) :=
  (i_in n (1 : Int) most).bind fun r_ =>
  br r_ (
    some ((and64 .i64 n (IntKind.wrap .i64 (n - (1 : Int)))) == (0 : Int))) (
    some false)
theorem i_isPower_c {n most r} (h : i_isPower n most = some r) : Call tab ow 171 [I n, I most] [] = some (B r, []) := by
  rw [Call_run (af := a_i_isPower) rfl]
  unfold i_isPower at h
  simp +decide only [a_i_isPower, b_i_isPower, go_sem, reduceIte, Nat.reduceAdd]
  have d1 := @i_in_c
  all_goals exact go
noncomputable def i_TableOK (list : (List Ext)) : Option (Bool) :=
  (i_isPower ((list.length : Nat) : Int) (64 : Int)).bind fun r_ =>
  br r_ (
    (i_are_i_Ext_ExtOK list).bind fun r_2 =>
    some r_2) (
    some false)
theorem i_TableOK_c {list r} (h : i_TableOK list = some r) : Call tab ow 76 [sl eExt list] [] = some (B r, []) := by
  rw [Call_run (af := a_i_TableOK) rfl]
  unfold i_TableOK at h
  simp +decide only [a_i_TableOK, b_i_TableOK, go_sem, reduceIte, Nat.reduceAdd]
  have d1 := @i_isPower_c
  have d2 := @i_are_i_Ext_ExtOK_c
  all_goals exact go
noncomputable def i_isPoint (list : (List Ext)) : Option (Bool) :=
  br (decide (((list.length : Nat) : Int) ≤ (6 : Int))) (
    (i_are_i_Ext_ExtOK list).bind fun r_ =>
    some r_) (
    some false)
theorem i_isPoint_c {list r} (h : i_isPoint list = some r) : Call tab ow 77 [sl eExt list] [] = some (B r, []) := by
  rw [Call_run (af := a_i_isPoint) rfl]
  unfold i_isPoint at h
  simp +decide only [a_i_isPoint, b_i_isPoint, go_sem, reduceIte, Nat.reduceAdd]
  have d1 := @i_are_i_Ext_ExtOK_c
  all_goals exact go
noncomputable def i_dot_1_s (b2 : List Ext) (t : List Ext) (t2 : Int) (c : Int) (c2 : Int) : Int × Int × Int → Option ((Int × Int × Int) ⊕ ((Int × Bool × Int × Int)))
  | (t3, c3, c4) =>
    br (decide (t3 < t2)) (
      (atL t t3).bind fun x =>
      (atL b2 t3).bind fun x2 =>
      (i_Ext_times x x2).bind fun r_ =>
      (i_Ext_plus (Ext.mk c3 c4) r_).bind fun r_2 =>
      some (.inl ((IntKind.wrap .i64 (t3 + (1 : Int))), r_2.A, r_2.B))) (
      some (.inr (t3, decide (t3 < t2), c3, c4)))
@[reducible] def i_dot_1_S (b2 : List Ext) (t : List Ext) (t2 : Int) (c : Int) (c2 : Int) (s : Int × Int × Int) : St := ⟨[(1, sl eExt b2), (4, .ptr 1000 0 0 1), (5, .ptr 2001 0 0 1), (9, sl eExt t), (10, I t2), (11, I s.1)], [(1000, ⟨2, true, [[I c, I c2]]⟩), (2001, ⟨2, true, [[I s.2.1, I s.2.2]]⟩)]⟩
@[reducible] def i_dot_1_E (b2 : List Ext) (t : List Ext) (t2 : Int) (c : Int) (c2 : Int) : (Int × Bool × Int × Int) → AExit × St := fun e => (.exit 0, ⟨[(1, sl eExt b2), (4, .ptr 1000 0 0 1), (5, .ptr 2001 0 0 1), (9, sl eExt t), (10, I t2), (11, I e.1), (12, B e.2.1)], [(1000, ⟨2, true, [[I c, I c2]]⟩), (2001, ⟨2, true, [[I e.2.2.1, I e.2.2.2]]⟩)]⟩)
theorem i_dot_1_l {b2 t t2 c c2 s e} (h : Loop (i_dot_1_s b2 t t2 c c2) s = some e) : LoopX tab ow (.close [5003,6006,6007]) b_i_dot_3 (i_dot_1_S b2 t t2 c c2 s) = some (i_dot_1_E b2 t t2 c c2 e) := by
  refine lrG (fun s o h => ?_) h
  obtain ⟨_, _, _⟩ := s
  simp only [i_dot_1_s] at h
  simp +decide only [i_dot_1_S, i_dot_1_E, b_i_dot_3, go_sem, reduceIte, Nat.reduceAdd]
  have d1 := @i_Ext_times_c
  have d2 := @i_Ext_plus_c
  all_goals exact go
noncomputable def i_dot (a : (List Ext)) (b : (List Ext)) : Option (Ext) :=
  (Loop (i_dot_1_s b a ((a.length : Nat) : Int) (0 : Int) (0 : Int)) ((0 : Int), (0 : Int), (0 : Int))).bind fun e_ =>
  some (Ext.mk e_.2.2.1 e_.2.2.2)
theorem i_dot_c {a b r} (h : i_dot a b = some r) : Call tab ow 78 [sl eExt a, sl eExt b] [] = some (.agg [I r.A, I r.B], []) := by
  rw [Call_run (af := a_i_dot) rfl]
  unfold i_dot at h
  simp +decide only [a_i_dot, b_i_dot, go_sem, reduceIte, Nat.reduceAdd]
  have d1 := @i_dot_1_l
  all_goals exact go
noncomputable def i_TableAt (table : (List Ext)) (point : (List Ext)) : Option (Ext × Int) :=
  br (decide (((table.length : Nat) : Int) > (4096 : Int))) (
    some ((Ext.mk (0 : Int) (0 : Int)), (2 : Int))) (
    br (decide (((point.length : Nat) : Int) > (4096 : Int))) (
      some ((Ext.mk (0 : Int) (0 : Int)), (2 : Int))) (
      (i_TableOK table).bind fun r_ =>
      br (!r_) (
        some ((Ext.mk (0 : Int) (0 : Int)), (1 : Int))) (
        (i_isPoint point).bind fun r_2 =>
        br (!r_2) (
          some ((Ext.mk (0 : Int) (0 : Int)), (1 : Int))) (
          br (decide (0 ≤ ((point.length : Nat) : Int))) (
            br (((table.length : Nat) : Int) != (shl64 .i64 (1 : Int) ((point.length : Nat) : Int))) (
              some ((Ext.mk (0 : Int) (0 : Int)), (8 : Int))) (
              (i_eqTable point).bind fun r_3 =>
              (i_dot table r_3).bind fun r_4 =>
              some (r_4, (0 : Int)))) (
            none)))))
theorem i_TableAt_c {table point r} (h : i_TableAt table point = some r) : Call tab ow 17 [sl eExt table, sl eExt point] [] = some (.tup [.agg [I r.1.A, I r.1.B], I r.2], []) := by
  rw [Call_run (af := a_i_TableAt) rfl]
  unfold i_TableAt at h
  simp +decide only [a_i_TableAt, b_i_TableAt, go_sem, reduceIte, Nat.reduceAdd]
  have d1 := @i_TableOK_c
  have d2 := @i_isPoint_c
  have d3 := @i_eqTable_c
  have d4 := @i_dot_c
  all_goals exact go
noncomputable def i_MatrixAt_1_s (t : List Ext) (t2 : List Ext) (t3 : List Entry) (t4 : Int) (c : Int) (c2 : Int) : Int × Int × Int → Option ((Int × Int × Int) ⊕ ((Int × Bool × Int × Int)))
  | (t5, c3, c4) =>
    br (decide (t5 < t4)) (
      (atL t3 t5).bind fun x =>
      (atL t x.Row).bind fun x2 =>
      (atL t2 x.Col).bind fun x3 =>
      (i_Ext_times x2 x3).bind fun r_8 =>
      (i_Ext_scaled r_8 x.Value).bind fun r_9 =>
      (i_Ext_plus (Ext.mk c3 c4) r_9).bind fun r_10 =>
      some (.inl ((IntKind.wrap .i64 (t5 + (1 : Int))), r_10.A, r_10.B))) (
      some (.inr (t5, decide (t5 < t4), c3, c4)))
@[reducible] def i_MatrixAt_1_S (t : List Ext) (t2 : List Ext) (t3 : List Entry) (t4 : Int) (c : Int) (c2 : Int) (s : Int × Int × Int) : St := ⟨[(6, .ptr 1000 0 0 1), (8, sl eExt t), (9, sl eExt t2), (10, .ptr 8005 0 0 1), (66, sl eEntry t3), (67, I t4), (68, I s.1)], [(1000, ⟨2, true, [[I c, I c2]]⟩), (8005, ⟨2, true, [[I s.2.1, I s.2.2]]⟩)]⟩
@[reducible] def i_MatrixAt_1_E (t : List Ext) (t2 : List Ext) (t3 : List Entry) (t4 : Int) (c : Int) (c2 : Int) : (Int × Bool × Int × Int) → AExit × St := fun e => (.exit 1, ⟨[(6, .ptr 1000 0 0 1), (8, sl eExt t), (9, sl eExt t2), (10, .ptr 8005 0 0 1), (66, sl eEntry t3), (67, I t4), (68, I e.1), (69, B e.2.1)], [(1000, ⟨2, true, [[I c, I c2]]⟩), (8005, ⟨2, true, [[I e.2.2.1, I e.2.2.2]]⟩)]⟩)
theorem i_MatrixAt_1_l {t t2 t3 t4 c c2 s e} (h : Loop (i_MatrixAt_1_s t t2 t3 t4 c c2) s = some e) : LoopX tab ow (.close [11002,12011,12014,12015]) b_i_MatrixAt_9 (i_MatrixAt_1_S t t2 t3 t4 c c2 s) = some (i_MatrixAt_1_E t t2 t3 t4 c c2 e) := by
  refine lrG (fun s o h => ?_) h
  obtain ⟨_, _, _⟩ := s
  simp only [i_MatrixAt_1_s] at h
  simp +decide only [i_MatrixAt_1_S, i_MatrixAt_1_E, b_i_MatrixAt_9, go_sem, reduceIte, Nat.reduceAdd]
  have d1 := @i_Ext_times_c
  have d2 := @i_Ext_scaled_c
  have d3 := @i_Ext_plus_c
  all_goals exact go
noncomputable def i_MatrixAt (ListtoArray : (List Entry)) (a : (List Ext)) (a2 : (List Ext)) : Option (Ext × Int) :=
  br (decide (((ListtoArray.length : Nat) : Int) > (4096 : Int))) (
    some ((Ext.mk (0 : Int) (0 : Int)), (2 : Int))) (
    br (decide (((a.length : Nat) : Int) > (4096 : Int))) (
      some ((Ext.mk (0 : Int) (0 : Int)), (2 : Int))) (
      br (decide (((a2.length : Nat) : Int) > (4096 : Int))) (
        some ((Ext.mk (0 : Int) (0 : Int)), (2 : Int))) (
        (i_in ((a.length : Nat) : Int) (1 : Int) (5 : Int)).bind fun r_ =>
        br (!r_) (
          some ((Ext.mk (0 : Int) (0 : Int)), (4 : Int))) (
          (i_in ((a2.length : Nat) : Int) (1 : Int) (5 : Int)).bind fun r_2 =>
          br (!r_2) (
            some ((Ext.mk (0 : Int) (0 : Int)), (4 : Int))) (
            br (decide (0 ≤ ((a.length : Nat) : Int))) (
              br (decide (0 ≤ ((a2.length : Nat) : Int))) (
                (i_isMatrix ListtoArray (shl64 .i64 (1 : Int) ((a.length : Nat) : Int)) (shl64 .i64 (1 : Int) ((a2.length : Nat) : Int))).bind fun r_3 =>
                br (!r_3) (
                  some ((Ext.mk (0 : Int) (0 : Int)), (1 : Int))) (
                  (i_are_i_Ext_ExtOK a).bind fun r_4 =>
                  br (!r_4) (
                    some ((Ext.mk (0 : Int) (0 : Int)), (1 : Int))) (
                    (i_are_i_Ext_ExtOK a2).bind fun r_5 =>
                    br (!r_5) (
                      some ((Ext.mk (0 : Int) (0 : Int)), (1 : Int))) (
                      (i_eqTable a).bind fun r_6 =>
                      (i_eqTable a2).bind fun r_7 =>
                      (Loop (i_MatrixAt_1_s r_6 r_7 ListtoArray ((ListtoArray.length : Nat) : Int) (0 : Int) (0 : Int)) ((0 : Int), (0 : Int), (0 : Int))).bind fun e_ =>
                      some ((Ext.mk e_.2.2.1 e_.2.2.2), (0 : Int)))))) (
                none)) (
              none))))))
theorem i_MatrixAt_c {ListtoArray a a2 r} (h : i_MatrixAt ListtoArray a a2 = some r) : Call tab ow 18 [sl eEntry ListtoArray, sl eExt a, sl eExt a2] [] = some (.tup [.agg [I r.1.A, I r.1.B], I r.2], []) := by
  rw [Call_run (af := a_i_MatrixAt) rfl]
  unfold i_MatrixAt at h
  simp +decide only [a_i_MatrixAt, b_i_MatrixAt, go_sem, reduceIte, Nat.reduceAdd]
  have d1 := @i_in_c
  have d2 := @i_isMatrix_c
  have d3 := @i_are_i_Ext_ExtOK_c
  have d4 := @i_eqTable_c
  have d5 := @i_MatrixAt_1_l
  all_goals exact go
noncomputable def i_areLists (a : (List Ext)) (b : (List Ext)) : Option (Int) :=
  br (decide (((a.length : Nat) : Int) > (4096 : Int))) (
    some (2 : Int)) (
    br (decide (((b.length : Nat) : Int) > (4096 : Int))) (
      some (2 : Int)) (
      (i_are_i_Ext_ExtOK a).bind fun r_ =>
      br (!r_) (
        some (1 : Int)) (
        (i_are_i_Ext_ExtOK b).bind fun r_2 =>
        br (!r_2) (
          some (1 : Int)) (
          some (0 : Int)))))
theorem i_areLists_c {a b r} (h : i_areLists a b = some r) : Call tab ow 85 [sl eExt a, sl eExt b] [] = some (I r, []) := by
  rw [Call_run (af := a_i_areLists) rfl]
  unfold i_areLists at h
  simp +decide only [a_i_areLists, b_i_areLists, go_sem, reduceIte, Nat.reduceAdd]
  have d1 := @i_are_i_Ext_ExtOK_c
  all_goals exact go
noncomputable def i_ExtDot (a : (List Ext)) (b : (List Ext)) : Option (Ext × Int) :=
  (i_areLists a b).bind fun r_ =>
  br (r_ != (0 : Int)) (
    some ((Ext.mk (0 : Int) (0 : Int)), r_)) (
    br (((a.length : Nat) : Int) != ((b.length : Nat) : Int)) (
      some ((Ext.mk (0 : Int) (0 : Int)), (8 : Int))) (
      (i_dot a b).bind fun r_2 =>
      some (r_2, (0 : Int))))
theorem i_ExtDot_c {a b r} (h : i_ExtDot a b = some r) : Call tab ow 19 [sl eExt a, sl eExt b] [] = some (.tup [.agg [I r.1.A, I r.1.B], I r.2], []) := by
  rw [Call_run (af := a_i_ExtDot) rfl]
  unfold i_ExtDot at h
  simp +decide only [a_i_ExtDot, b_i_ExtDot, go_sem, reduceIte, Nat.reduceAdd]
  have d1 := @i_areLists_c
  have d2 := @i_dot_c
  all_goals exact go
noncomputable def w_sameExts_1_s (a2 : List Ext) (b2 : List Ext) : Int → Option ((Int) ⊕ (Unit ⊕ (Int × Bool)))
  | i =>
    br (decide (i < ((a2.length : Nat) : Int))) (
      (atL a2 i).bind fun x =>
      (atL b2 i).bind fun x2 =>
      br (x.A == x2.A) (
        br (x.B == x2.B) (
          some (.inl (IntKind.wrap .i64 (i + (1 : Int))))) (
          some (.inr (.inl ())))) (
        some (.inr (.inl ())))) (
      some (.inr (.inr (i, decide (i < ((a2.length : Nat) : Int))))))
@[reducible] def w_sameExts_1_S (a2 : List Ext) (b2 : List Ext) (s : Int) : St := ⟨[(0, sl eExt a2), (1, sl eExt b2), (5, I s)], []⟩
@[reducible] def w_sameExts_1_E (a2 : List Ext) (b2 : List Ext) : (Unit ⊕ (Int × Bool)) → AExit × St := alt (fun e => ((.ret, ⟨[(4, B false)], []⟩) : AExit × St)) (fun e => (.exit 0, ⟨[(0, sl eExt a2), (1, sl eExt b2), (5, I e.1), (14, B e.2)], []⟩))
theorem w_sameExts_1_l {a2 b2 s e} (h : Loop (w_sameExts_1_s a2 b2) s = some e) : LoopX tab ow (.close []) b_w_sameExts_4 (w_sameExts_1_S a2 b2 s) = some (w_sameExts_1_E a2 b2 e) := by
  refine lrG (fun s o h => ?_) h
  simp only [w_sameExts_1_s] at h
  simp +decide only [w_sameExts_1_S, w_sameExts_1_E, b_w_sameExts_4, go_sem, reduceIte, Nat.reduceAdd]
  all_goals exact go
noncomputable def w_sameExts (a : (List Ext)) (b : (List Ext)) : Option (Bool) :=
  br (((a.length : Nat) : Int) != ((b.length : Nat) : Int)) (
    some false) (
    (Loop (w_sameExts_1_s a b) (0 : Int)).bind (alt (fun e_2 =>
      some false) (fun e_3 =>
      some true)))
theorem w_sameExts_c {a b r} (h : w_sameExts a b = some r) : Call tab ow 33 [sl eExt a, sl eExt b] [] = some (B r, []) := by
  rw [Call_run (af := a_w_sameExts) rfl]
  unfold w_sameExts at h
  simp +decide only [a_w_sameExts, b_w_sameExts, go_sem, reduceIte, Nat.reduceAdd]
  have d1 := @w_sameExts_1_l
  all_goals exact go
noncomputable def w_sameSource (a : Source) (b : Source) : Option (Bool) :=
  (w_sameExts a.Script b.Script).bind fun r_ =>
  br r_ (
    br (a.At == b.At) (
      br (a.State == b.State) (
        some (a.Count == b.Count)) (
        some false)) (
      some false)) (
    some false)
theorem w_sameSource_c {a b r} (h : w_sameSource a b = some r) : Call tab ow 20 [.agg [sl eExt a.Script, I a.At, S a.State, I a.Count], .agg [sl eExt b.Script, I b.At, S b.State, I b.Count]] [] = some (B r, []) := by
  rw [Call_run (af := a_w_sameSource) rfl]
  unfold w_sameSource at h
  simp +decide only [a_w_sameSource, b_w_sameSource, go_sem, reduceIte, Nat.reduceAdd]
  have d1 := @w_sameExts_c
  all_goals exact go
section
theorem w_FnStarts_k0 : mkR 12000 [] = rws eU8 [] := rfl
attribute [local go_sem] w_FnStarts_k0
theorem w_FnStarts_k1 : mkR 18004 [] = rws eExt [] := rfl
attribute [local go_sem] w_FnStarts_k1
noncomputable def w_FnStarts (ListtoArray : (List UInt8)) (a : (List UInt8)) : Option (Bool) :=
  br (decide (((ListtoArray.length : Nat) : Int) > (1048576 : Int))) (
    some true) (
    br (decide (((a.length : Nat) : Int) > (1048576 : Int))) (
      some true) (
      (s_SystemDrawn ListtoArray).bind fun r_ =>
      (s_SettingOf a).bind fun r_2 =>
      (s_NumbersOf a r_.Publics).bind fun r_3 =>
      (s_SourceOf ListtoArray).bind fun r_4 =>
      (i_Start r_ r_2 r_3 r_4).bind fun r_5 =>
      (s_Start r_ r_2 r_3 r_4).bind fun r_6 =>
      (s_ExtsOf a r_.Rows).bind fun r_7 =>
      (s_ExtsOf ListtoArray r_.Cols).bind fun r_8 =>
      br (fits ((([(3 : UInt8)] : List UInt8) ++ a).length) 1) (
        (s_ExtsOf (([(3 : UInt8)] : List UInt8) ++ a) (3 : Int)).bind fun r_9 =>
        (atL r_9 (0 : Int)).bind fun x =>
        (atL r_9 (1 : Int)).bind fun x2 =>
        (atL r_9 (2 : Int)).bind fun x3 =>
        (i_BoundTable r_ r_7 x x2 x3).bind fun r_10 =>
        (i_TableAt r_10.1 r_8).bind fun r_11 =>
        (i_MatrixAt r_.A r_7 r_8).bind fun r_12 =>
        (i_MatrixAt r_.B r_7 r_8).bind fun r_13 =>
        (i_MatrixAt r_.C r_7 r_8).bind fun r_14 =>
        (i_ExtDot r_9 ([r_12.1, r_13.1, r_14.1] : List Ext)).bind fun r_15 =>
        br (r_5.2 == (0 : Int)) (
          (w_sameSource r_5.1 r_6.1).bind fun r_16 =>
          br r_16 (
            br (r_10.2 == (0 : Int)) (
              br (r_11.2 == (0 : Int)) (
                br (r_12.2 == (0 : Int)) (
                  br (r_13.2 == (0 : Int)) (
                    br (r_14.2 == (0 : Int)) (
                      br (r_15.2 == (0 : Int)) (
                        br (r_11.1.A == r_15.1.A) (
                          br (r_11.1.B == r_15.1.B) (
                            some true) (
                            some false)) (
                          some false)) (
                        some false)) (
                      some false)) (
                    some false)) (
                  some false)) (
                some false)) (
              some false)) (
            some false)) (
          some false)) (
        none)))
theorem w_FnStarts_c {ListtoArray a r} (h : w_FnStarts ListtoArray a = some r) : Call tab ow 3 [sl eU8 ListtoArray, sl eU8 a] [] = some (B r, []) := by
  rw [Call_run (af := a_w_FnStarts) rfl]
  unfold w_FnStarts at h
  simp +decide only [a_w_FnStarts, b_w_FnStarts, go_sem, reduceIte, Nat.reduceAdd]
  have d1 := @s_SystemDrawn_c
  have d2 := @s_SettingOf_c
  have d3 := @s_NumbersOf_c
  have d4 := @s_SourceOf_c
  have d5 := @i_Start_c
  have d6 := @s_Start_c
  have d7 := @s_ExtsOf_c
  have d8 := @i_BoundTable_c
  have d9 := @i_TableAt_c
  have d10 := @i_MatrixAt_c
  have d11 := @i_ExtDot_c
  have d12 := @w_sameSource_c
  all_goals exact go
end
end Go.AI.Fn

