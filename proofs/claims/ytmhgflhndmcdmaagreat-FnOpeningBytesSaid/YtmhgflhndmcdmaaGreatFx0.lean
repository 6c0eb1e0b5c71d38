/- Walks through the program, with open values. -/
import Derived.Test.YtmhgflhndmcdmaaGreatStr
set_option linter.unusedVariables false
set_option linter.unusedSimpArgs false
set_option maxRecDepth 100000
set_option maxHeartbeats 1000000
namespace Go.AI.Fn
noncomputable def s_l00Source (code : (List UInt8)) : Option (l00Src) :=
  some (l00Src.mk code (0 : Int) (((code.length : Nat) : Int).tmod (1000 : Int)))
theorem s_l00Source_c {code r} (h : s_l00Source code = some r) : Call tab ow 59 [sl eU8 code] [] = some (.ptr 0 0 0 1, [⟨3, true, [[sl eU8 r.code, I r.at_, I r.seed]]⟩]) := by
  rw [Call_run (af := a_s_l00Source) rfl]
  unfold s_l00Source at h
  simp +decide only [a_s_l00Source, b_s_l00Source, go_sem, reduceIte, Nat.reduceAdd]
  all_goals exact go
noncomputable def s_l00Src_byte (m : l00Src) : Option (Int × l00Src) :=
  br (decide ((IntKind.wrap .i64 (m.at_ + (1 : Int))) ≤ ((m.code.length : Nat) : Int))) (
    (atL m.code (IntKind.wrap .i64 ((IntKind.wrap .i64 (m.at_ + (1 : Int))) - (1 : Int)))).bind fun x =>
    (atL m.code (IntKind.wrap .i64 ((IntKind.wrap .i64 (m.at_ + (1 : Int))) - (1 : Int)))).bind fun x2 =>
    some ((IntKind.wrap .i64 (x2.toNat : Int)), (l00Src.mk m.code (IntKind.wrap .i64 (m.at_ + (1 : Int))) ((IntKind.wrap .i64 ((IntKind.wrap .i64 ((IntKind.wrap .i64 (m.seed * (31 : Int))) + (IntKind.wrap .i64 (x.toNat : Int)))) + (7 : Int))).tmod (2147483648 : Int))))) (
    br (decide ((IntKind.wrap .i64 (m.at_ + (1 : Int))) > (3000 : Int))) (
      some ((0 : Int), (l00Src.mk m.code (IntKind.wrap .i64 (m.at_ + (1 : Int))) m.seed))) (
      some (((IntKind.wrap .i64 (((IntKind.wrap .i64 ((IntKind.wrap .i64 (m.seed * (1103515245 : Int))) + (12345 : Int))).tmod (2147483648 : Int)).tdiv (65536 : Int))).tmod (256 : Int)), (l00Src.mk m.code (IntKind.wrap .i64 (m.at_ + (1 : Int))) ((IntKind.wrap .i64 ((IntKind.wrap .i64 (m.seed * (1103515245 : Int))) + (12345 : Int))).tmod (2147483648 : Int))))))
theorem s_l00Src_byte_c {m r} (h : s_l00Src_byte m = some r) : Call tab ow 239 [.ptr 0 0 0 1] [⟨3, true, [[sl eU8 m.code, I m.at_, I m.seed]]⟩] = some (I r.1, [⟨3, true, [[sl eU8 r.2.code, I r.2.at_, I r.2.seed]]⟩]) := by
  rw [Call_run (af := a_s_l00Src_byte) rfl]
  unfold s_l00Src_byte at h
  simp +decide only [a_s_l00Src_byte, b_s_l00Src_byte, go_sem, reduceIte, Nat.reduceAdd]
  all_goals exact go
noncomputable def s_l00Src_next (n : Int) (m : l00Src) : Option (Int × l00Src) :=
  br (decide (n ≤ (1 : Int))) (
    some ((0 : Int), m)) (
    br (decide (n ≤ (256 : Int))) (
      (s_l00Src_byte m).bind fun r_ =>
      br (decide (n ≠ 0)) (
        some ((r_.1.tmod n), r_.2)) (
        none)) (
      (s_l00Src_byte m).bind fun r_2 =>
      (s_l00Src_byte r_2.2).bind fun r_3 =>
      (s_l00Src_byte r_3.2).bind fun r_4 =>
      br (decide (n ≠ 0)) (
        some (((IntKind.wrap .i64 ((IntKind.wrap .i64 ((IntKind.wrap .i64 (r_2.1 * (65536 : Int))) + (IntKind.wrap .i64 (r_3.1 * (256 : Int))))) + r_4.1)).tmod n), r_4.2)) (
        none)))
theorem s_l00Src_next_c {n m r} (h : s_l00Src_next n m = some r) : Call tab ow 149 [.ptr 0 0 0 1, I n] [⟨3, true, [[sl eU8 m.code, I m.at_, I m.seed]]⟩] = some (I r.1, [⟨3, true, [[sl eU8 r.2.code, I r.2.at_, I r.2.seed]]⟩]) := by
  rw [Call_run (af := a_s_l00Src_next) rfl]
  unfold s_l00Src_next at h
  simp +decide only [a_s_l00Src_next, b_s_l00Src_next, go_sem, reduceIte, Nat.reduceAdd]
  have d1 := @s_l00Src_byte_c
  all_goals exact go
noncomputable def s_l00Src_chance (n : Int) (m : l00Src) : Option (Bool × l00Src) :=
  (s_l00Src_next n m).bind fun r_ =>
  some ((r_.1 == (IntKind.wrap .i64 (n - (1 : Int)))), r_.2)
theorem s_l00Src_chance_c {n m r} (h : s_l00Src_chance n m = some r) : Call tab ow 154 [.ptr 0 0 0 1, I n] [⟨3, true, [[sl eU8 m.code, I m.at_, I m.seed]]⟩] = some (B r.1, [⟨3, true, [[sl eU8 r.2.code, I r.2.at_, I r.2.seed]]⟩]) := by
  rw [Call_run (af := a_s_l00Src_chance) rfl]
  unfold s_l00Src_chance at h
  simp +decide only [a_s_l00Src_chance, b_s_l00Src_chance, go_sem, reduceIte, Nat.reduceAdd]
  have d1 := @s_l00Src_next_c
  all_goals exact go
noncomputable def s_l00Src_field_1_s : Int × Int × (List UInt8) × Int × Int → Option ((Int × Int × (List UInt8) × Int × Int) ⊕ ((Int × Int × Bool × (List UInt8) × Int × Int)))
  | (n, i, c, c2, c3) =>
    br (decide (i < (5 : Int))) (
      (s_l00Src_next (256 : Int) (l00Src.mk c c2 c3)).bind fun r_4 =>
      some (.inl (((IntKind.wrap .i64 ((IntKind.wrap .i64 (n * (256 : Int))) + r_4.1)).tmod (2130706433 : Int)), (IntKind.wrap .i64 (i + (1 : Int))), r_4.2.code, r_4.2.at_, r_4.2.seed))) (
      some (.inr (n, i, decide (i < (5 : Int)), c, c2, c3)))
@[reducible] def s_l00Src_field_1_S (s : Int × Int × (List UInt8) × Int × Int) : St := ⟨[(0, .ptr 0 0 0 1), (3, I s.1), (4, I s.2.1)], [(0, ⟨3, true, [[sl eU8 s.2.2.1, I s.2.2.2.1, I s.2.2.2.2]]⟩)]⟩
@[reducible] def s_l00Src_field_1_E : (Int × Int × Bool × (List UInt8) × Int × Int) → AExit × St := fun e => (.exit 1, ⟨[(0, .ptr 0 0 0 1), (3, I e.1), (4, I e.2.1), (17, B e.2.2.1)], [(0, ⟨3, true, [[sl eU8 e.2.2.2.1, I e.2.2.2.2.1, I e.2.2.2.2.2]]⟩)]⟩)
theorem s_l00Src_field_1_l { s e} (h : Loop (s_l00Src_field_1_s) s = some e) : LoopX tab ow (.close [11003]) b_s_l00Src_field_8 (s_l00Src_field_1_S s) = some (s_l00Src_field_1_E e) := by
  refine lrG (fun s o h => ?_) h
  obtain ⟨_, _, _, _, _⟩ := s
  simp only [s_l00Src_field_1_s] at h
  simp +decide only [s_l00Src_field_1_S, s_l00Src_field_1_E, b_s_l00Src_field_8, go_sem, reduceIte, Nat.reduceAdd]
  have d1 := @s_l00Src_next_c
  all_goals exact go
noncomputable def s_l00Src_field (m : l00Src) : Option (Int × l00Src) :=
  (s_l00Src_next (5 : Int) m).bind fun r_ =>
  br (r_.1 == (0 : Int)) (
    (s_l00Src_next (4 : Int) r_.2).bind fun r_2 =>
    some (r_2.1, r_2.2)) (
    br (r_.1 == (1 : Int)) (
      (s_l00Src_next (3 : Int) r_.2).bind fun r_3 =>
      some ((IntKind.wrap .i64 ((2130706432 : Int) - r_3.1)), r_3.2)) (
      (Loop (s_l00Src_field_1_s) ((0 : Int), (0 : Int), r_.2.code, r_.2.at_, r_.2.seed)).bind fun e_ =>
      some (e_.1, (l00Src.mk e_.2.2.2.1 e_.2.2.2.2.1 e_.2.2.2.2.2))))
theorem s_l00Src_field_c {m r} (h : s_l00Src_field m = some r) : Call tab ow 151 [.ptr 0 0 0 1] [⟨3, true, [[sl eU8 m.code, I m.at_, I m.seed]]⟩] = some (I r.1, [⟨3, true, [[sl eU8 r.2.code, I r.2.at_, I r.2.seed]]⟩]) := by
  rw [Call_run (af := a_s_l00Src_field) rfl]
  unfold s_l00Src_field at h
  simp +decide only [a_s_l00Src_field, b_s_l00Src_field, go_sem, reduceIte, Nat.reduceAdd]
  have d1 := @s_l00Src_next_c
  have d2 := @s_l00Src_field_1_l
  all_goals exact go
noncomputable def s_l00Src_setting (m : l00Src) : Option (Setting × l00Src) :=
  (s_l00Src_next (2 : Int) m).bind fun r_ =>
  (s_l00Src_next (3 : Int) r_.2).bind fun r_2 =>
  (s_l00Src_next (3 : Int) r_2.2).bind fun r_3 =>
  some ((Setting.mk (IntKind.wrap .i64 ((1 : Int) + r_.1)) (IntKind.wrap .i64 ((1 : Int) + r_2.1)) r_3.1), r_3.2)
theorem s_l00Src_setting_c {m r} (h : s_l00Src_setting m = some r) : Call tab ow 61 [.ptr 0 0 0 1] [⟨3, true, [[sl eU8 m.code, I m.at_, I m.seed]]⟩] = some (.agg [I r.1.Rate, I r.1.Queries, I r.1.Grind], [⟨3, true, [[sl eU8 r.2.code, I r.2.at_, I r.2.seed]]⟩]) := by
  rw [Call_run (af := a_s_l00Src_setting) rfl]
  unfold s_l00Src_setting at h
  simp +decide only [a_s_l00Src_setting, b_s_l00Src_setting, go_sem, reduceIte, Nat.reduceAdd]
  have d1 := @s_l00Src_next_c
  all_goals exact go
noncomputable def s_SettingOf (code : (List UInt8)) : Option (Setting) :=
  (s_l00Source code).bind fun r_ =>
  (s_l00Src_setting r_).bind fun r_2 =>
  some r_2.1
theorem s_SettingOf_c {code r} (h : s_SettingOf code = some r) : Call tab ow 10 [sl eU8 code] [] = some (.agg [I r.Rate, I r.Queries, I r.Grind], []) := by
  rw [Call_run (af := a_s_SettingOf) rfl]
  unfold s_SettingOf at h
  simp +decide only [a_s_SettingOf, b_s_SettingOf, go_sem, reduceIte, Nat.reduceAdd]
  have d1 := @s_l00Source_c
  have d2 := @s_l00Src_setting_c
  all_goals exact go
noncomputable def s_l00Src_pick (list : (List (List UInt8))) (m : l00Src) : Option ((List UInt8) × l00Src) :=
  br (((list.length : Nat) : Int) == (0 : Int)) (
    some ((([] : List UInt8)), m)) (
    (s_l00Src_next ((list.length : Nat) : Int) m).bind fun r_ =>
    (atL list r_.1).bind fun x =>
    some (x, r_.2))
theorem s_l00Src_pick_c {list m r} (h : s_l00Src_pick list m = some r) : Call tab ow 153 [.ptr 0 0 0 1, sl eS list] [⟨3, true, [[sl eU8 m.code, I m.at_, I m.seed]]⟩] = some (S r.1, [⟨3, true, [[sl eU8 r.2.code, I r.2.at_, I r.2.seed]]⟩]) := by
  rw [Call_run (af := a_s_l00Src_pick) rfl]
  unfold s_l00Src_pick at h
  simp +decide only [a_s_l00Src_pick, b_s_l00Src_pick, go_sem, reduceIte, Nat.reduceAdd]
  have d1 := @s_l00Src_next_c
  all_goals exact go
noncomputable def s_l03Lanes_1_s (m : List Int) (t2 : List UInt8) : (List Int) × Int → Option (((List Int) × Int) ⊕ (((List Int) × Int × Bool)))
  | (m2, i) =>
    br (decide (i < ((t2.length : Nat) : Int))) (
      br (decide (0 ≤ (IntKind.wrap .i64 (i.tdiv (8 : Int)))) && decide ((IntKind.wrap .i64 (i.tdiv (8 : Int))).toNat < 25)) (
        (m2[(IntKind.wrap .i64 (i.tdiv (8 : Int))).toNat]?).bind fun x =>
        (atL t2 i).bind fun c =>
        br (decide (0 ≤ (IntKind.wrap .u64 (IntKind.wrap .i64 ((8 : Int) * (i.tmod (8 : Int))))))) (
          br (decide (0 ≤ (IntKind.wrap .i64 (i.tdiv (8 : Int)))) && decide ((IntKind.wrap .i64 (i.tdiv (8 : Int))).toNat < 25)) (
            br (decide ((IntKind.wrap .i64 (i.tdiv (8 : Int))).toNat < m2.length)) (
              some (.inl ((m2.set ((IntKind.wrap .i64 (i.tdiv (8 : Int))).toNat) (or64 .u64 x (shl64 .u64 (IntKind.wrap .u64 (c.toNat : Int)) (IntKind.wrap .u64 (IntKind.wrap .i64 ((8 : Int) * (i.tmod (8 : Int)))))))), (IntKind.wrap .i64 (i + (1 : Int)))))) (
              none)) (
            none)) (
          none)) (
        none)) (
      some (.inr (m2, i, decide (i < ((t2.length : Nat) : Int)))))
@[reducible] def s_l03Lanes_1_S (m : List Int) (t2 : List UInt8) (s : (List Int) × Int) : St := ⟨[(0, S t2), (2, .ptr 1000 0 0 1), (3, .ptr 2001 0 0 1), (4, I s.2)], [(1000, ⟨25, true, [ar .u64 m]⟩), (2001, ⟨25, true, [ar .u64 s.1]⟩)]⟩
@[reducible] def s_l03Lanes_1_E (m : List Int) (t2 : List UInt8) : ((List Int) × Int × Bool) → AExit × St := fun e => (.exit 0, ⟨[(0, S t2), (2, .ptr 1000 0 0 1), (3, .ptr 2001 0 0 1), (4, I e.2.1), (9, B e.2.2)], [(1000, ⟨25, true, [ar .u64 m]⟩), (2001, ⟨25, true, [ar .u64 e.1]⟩)]⟩)
theorem s_l03Lanes_1_l {m t2 s e} (h : Loop (s_l03Lanes_1_s m t2) s = some e) : LoopX tab ow (.close []) b_s_l03Lanes_3 (s_l03Lanes_1_S m t2 s) = some (s_l03Lanes_1_E m t2 e) := by
  refine lrG (fun s o h => ?_) h
  obtain ⟨_, _⟩ := s
  simp only [s_l03Lanes_1_s] at h
  simp +decide only [s_l03Lanes_1_S, s_l03Lanes_1_E, b_s_l03Lanes_3, go_sem, reduceIte, Nat.reduceAdd]
  all_goals exact go
noncomputable def s_l03Lanes (t : (List UInt8)) : Option ((List Int)) :=
  (Loop (s_l03Lanes_1_s (nZ 25) t) ((nZ 25), (0 : Int))).bind fun e_ =>
  br (decide (e_.1.length = 25)) (
    br (decide (e_.1.length = 25)) (
      br (decide (e_.1.length = 25)) (
        some e_.1) (
        none)) (
      none)) (
    none)
theorem s_l03Lanes_c {t r} (h : s_l03Lanes t = some r) : Call tab ow 286 [S t] [] = some (.agg (ar .u64 r), []) := by
  rw [Call_run (af := a_s_l03Lanes) rfl]
  unfold s_l03Lanes at h
  simp +decide only [a_s_l03Lanes, b_s_l03Lanes, go_sem, reduceIte, Nat.reduceAdd]
  have d1 := @s_l03Lanes_1_l
  all_goals exact go
noncomputable def s_l03Rounds : Option ((List Int)) :=
  some ([1, 32898, 9223372036854808714, 9223372039002292224, 32907, 2147483649, 9223372039002292353, 9223372036854808585, 138, 136, 2147516425, 2147483658, 2147516555, 9223372036854775947, 9223372036854808713, 9223372036854808579, 9223372036854808578, 9223372036854775936, 32778, 9223372039002259466, 9223372039002292353, 9223372036854808704, 2147483649, 9223372039002292232] : List Int)
theorem s_l03Rounds_c {r} (h : s_l03Rounds = some r) : Call tab ow 303 [] [] = some (.agg (ar .u64 r), []) := by
  rw [Call_run (af := a_s_l03Rounds) rfl]
  unfold s_l03Rounds at h
  simp +decide only [a_s_l03Rounds, b_s_l03Rounds, go_sem, reduceIte, Nat.reduceAdd]
  all_goals exact go
noncomputable def s_l03Shifts : Option ((List Int)) :=
  some ([0, 1, 62, 28, 27, 36, 44, 6, 55, 20, 3, 10, 43, 25, 39, 41, 45, 15, 21, 8, 18, 2, 61, 56, 14] : List Int)
theorem s_l03Shifts_c {r} (h : s_l03Shifts = some r) : Call tab ow 304 [] [] = some (.agg (ar .u64 r), []) := by
  rw [Call_run (af := a_s_l03Shifts) rfl]
  unfold s_l03Shifts at h
  simp +decide only [a_s_l03Shifts, b_s_l03Shifts, go_sem, reduceIte, Nat.reduceAdd]
  all_goals exact go
noncomputable def s_l03Turn (x : Int) (n : Int) : Option (Int) :=
  br (n == (0 : Int)) (
    some x) (
    br (decide (0 ≤ n)) (
      br (decide (0 ≤ (IntKind.wrap .u64 ((64 : Int) - n)))) (
        some (or64 .u64 (shl64 .u64 x n) (shr64 .u64 x (IntKind.wrap .u64 ((64 : Int) - n))))) (
        none)) (
      none))
theorem s_l03Turn_c {x n r} (h : s_l03Turn x n = some r) : Call tab ow 305 [.lit (.int .u64 x), .lit (.int .u64 n)] [] = some (.lit (.int .u64 r), []) := by
  rw [Call_run (af := a_s_l03Turn) rfl]
  unfold s_l03Turn at h
  simp +decide only [a_s_l03Turn, b_s_l03Turn, go_sem, reduceIte, Nat.reduceAdd]
  all_goals exact go
noncomputable def s_l03Permute_2_s (m5 : List Int) (m6 : List Int) (m7 : List Int) (m8 : List Int) (t2 : Int) : (List Int) × Int → Option (((List Int) × Int) ⊕ (((List Int) × Int × Bool)))
  | (m9, t3) =>
    br (decide (t3 < (5 : Int))) (
      br (decide (0 ≤ t3) && decide (t3.toNat < 25)) (
        (m5[t3.toNat]?).bind fun x =>
        br (decide (0 ≤ (IntKind.wrap .i64 (t3 + (5 : Int)))) && decide ((IntKind.wrap .i64 (t3 + (5 : Int))).toNat < 25)) (
          (m5[(IntKind.wrap .i64 (t3 + (5 : Int))).toNat]?).bind fun x2 =>
          br (decide (0 ≤ (IntKind.wrap .i64 (t3 + (10 : Int)))) && decide ((IntKind.wrap .i64 (t3 + (10 : Int))).toNat < 25)) (
            (m5[(IntKind.wrap .i64 (t3 + (10 : Int))).toNat]?).bind fun x3 =>
            br (decide (0 ≤ (IntKind.wrap .i64 (t3 + (15 : Int)))) && decide ((IntKind.wrap .i64 (t3 + (15 : Int))).toNat < 25)) (
              (m5[(IntKind.wrap .i64 (t3 + (15 : Int))).toNat]?).bind fun x4 =>
              br (decide (0 ≤ (IntKind.wrap .i64 (t3 + (20 : Int)))) && decide ((IntKind.wrap .i64 (t3 + (20 : Int))).toNat < 25)) (
                (m5[(IntKind.wrap .i64 (t3 + (20 : Int))).toNat]?).bind fun x5 =>
                br (decide (0 ≤ t3) && decide (t3.toNat < 5)) (
                  br (decide (t3.toNat < m9.length)) (
                    some (.inl ((m9.set t3.toNat (xor64 .u64 (xor64 .u64 (xor64 .u64 (xor64 .u64 x x2) x3) x4) x5)), (IntKind.wrap .i64 (t3 + (1 : Int)))))) (
                    none)) (
                  none)) (
                none)) (
              none)) (
            none)) (
          none)) (
        none)) (
      some (.inr (m9, t3, decide (t3 < (5 : Int)))))
@[reducible] def s_l03Permute_2_S (m5 : List Int) (m6 : List Int) (m7 : List Int) (m8 : List Int) (t2 : Int) (s : (List Int) × Int) : St := ⟨[(1, .ptr 1000 0 0 1), (2, .ptr 1001 0 0 1), (3, .ptr 2001 0 0 1), (4, .ptr 3001 0 0 1), (5, I t2), (6, .ptr 7001 0 0 1), (7, I s.2)], [(1000, ⟨25, true, [ar .u64 m5]⟩), (1001, ⟨25, true, [ar .u64 m6]⟩), (2001, ⟨24, true, [ar .u64 m7]⟩), (3001, ⟨25, true, [ar .u64 m8]⟩), (7001, ⟨5, true, [ar .u64 s.1]⟩)]⟩
@[reducible] def s_l03Permute_2_E (m5 : List Int) (m6 : List Int) (m7 : List Int) (m8 : List Int) (t2 : Int) : ((List Int) × Int × Bool) → AExit × St := fun e => (.exit 2, ⟨[(1, .ptr 1000 0 0 1), (2, .ptr 1001 0 0 1), (3, .ptr 2001 0 0 1), (4, .ptr 3001 0 0 1), (5, I t2), (6, .ptr 7001 0 0 1), (7, I e.2.1), (22, B e.2.2)], [(1000, ⟨25, true, [ar .u64 m5]⟩), (1001, ⟨25, true, [ar .u64 m6]⟩), (2001, ⟨24, true, [ar .u64 m7]⟩), (3001, ⟨25, true, [ar .u64 m8]⟩), (7001, ⟨5, true, [ar .u64 e.1]⟩)]⟩)
theorem s_l03Permute_2_l {m5 m6 m7 m8 t2 s e} (h : Loop (s_l03Permute_2_s m5 m6 m7 m8 t2) s = some e) : LoopX tab ow (.close []) b_s_l03Permute_8 (s_l03Permute_2_S m5 m6 m7 m8 t2 s) = some (s_l03Permute_2_E m5 m6 m7 m8 t2 e) := by
  refine lrG (fun s o h => ?_) h
  obtain ⟨_, _⟩ := s
  simp only [s_l03Permute_2_s] at h
  simp +decide only [s_l03Permute_2_S, s_l03Permute_2_E, b_s_l03Permute_8, go_sem, reduceIte, Nat.reduceAdd]
  all_goals exact go
noncomputable def s_l03Permute_3_s (m11 : List Int) (m12 : List Int) (m13 : List Int) (m14 : List Int) (t4 : Int) : (List Int) × Int → Option (((List Int) × Int) ⊕ (((List Int) × Int × Bool)))
  | (m10, t5) =>
    br (decide (t5 < (25 : Int))) (
      br (decide (0 ≤ t5) && decide (t5.toNat < 25)) (
        (m10[t5.toNat]?).bind fun x6 =>
        br (decide (0 ≤ ((IntKind.wrap .i64 (t5 + (4 : Int))).tmod (5 : Int))) && decide (((IntKind.wrap .i64 (t5 + (4 : Int))).tmod (5 : Int)).toNat < 5)) (
          (m14[((IntKind.wrap .i64 (t5 + (4 : Int))).tmod (5 : Int)).toNat]?).bind fun x7 =>
          br (decide (0 ≤ ((IntKind.wrap .i64 (t5 + (1 : Int))).tmod (5 : Int))) && decide (((IntKind.wrap .i64 (t5 + (1 : Int))).tmod (5 : Int)).toNat < 5)) (
            (m14[((IntKind.wrap .i64 (t5 + (1 : Int))).tmod (5 : Int)).toNat]?).bind fun x8 =>
            (s_l03Turn x8 (1 : Int)).bind fun r_3 =>
            br (decide (0 ≤ t5) && decide (t5.toNat < 25)) (
              br (decide (t5.toNat < m10.length)) (
                some (.inl ((m10.set t5.toNat (xor64 .u64 x6 (xor64 .u64 x7 r_3))), (IntKind.wrap .i64 (t5 + (1 : Int)))))) (
                none)) (
              none)) (
            none)) (
          none)) (
        none)) (
      some (.inr (m10, t5, decide (t5 < (25 : Int)))))
@[reducible] def s_l03Permute_3_S (m11 : List Int) (m12 : List Int) (m13 : List Int) (m14 : List Int) (t4 : Int) (s : (List Int) × Int) : St := ⟨[(1, .ptr 1000 0 0 1), (2, .ptr 1001 0 0 1), (3, .ptr 2001 0 0 1), (4, .ptr 3001 0 0 1), (5, I t4), (6, .ptr 7001 0 0 1), (8, I s.2)], [(1000, ⟨25, true, [ar .u64 s.1]⟩), (1001, ⟨25, true, [ar .u64 m11]⟩), (2001, ⟨24, true, [ar .u64 m12]⟩), (3001, ⟨25, true, [ar .u64 m13]⟩), (7001, ⟨5, true, [ar .u64 m14]⟩)]⟩
@[reducible] def s_l03Permute_3_E (m11 : List Int) (m12 : List Int) (m13 : List Int) (m14 : List Int) (t4 : Int) : ((List Int) × Int × Bool) → AExit × St := fun e => (.exit 4, ⟨[(1, .ptr 1000 0 0 1), (2, .ptr 1001 0 0 1), (3, .ptr 2001 0 0 1), (4, .ptr 3001 0 0 1), (5, I t4), (6, .ptr 7001 0 0 1), (8, I e.2.1), (51, B e.2.2)], [(1000, ⟨25, true, [ar .u64 e.1]⟩), (1001, ⟨25, true, [ar .u64 m11]⟩), (2001, ⟨24, true, [ar .u64 m12]⟩), (3001, ⟨25, true, [ar .u64 m13]⟩), (7001, ⟨5, true, [ar .u64 m14]⟩)]⟩)
theorem s_l03Permute_3_l {m11 m12 m13 m14 t4 s e} (h : Loop (s_l03Permute_3_s m11 m12 m13 m14 t4) s = some e) : LoopX tab ow (.close [15013]) b_s_l03Permute_12 (s_l03Permute_3_S m11 m12 m13 m14 t4 s) = some (s_l03Permute_3_E m11 m12 m13 m14 t4 e) := by
  refine lrG (fun s o h => ?_) h
  obtain ⟨_, _⟩ := s
  simp only [s_l03Permute_3_s] at h
  simp +decide only [s_l03Permute_3_S, s_l03Permute_3_E, b_s_l03Permute_12, go_sem, reduceIte, Nat.reduceAdd]
  have d1 := @s_l03Turn_c
  all_goals exact go
noncomputable def s_l03Permute_5_s (m21 : List Int) (m22 : List Int) (m23 : List Int) (m24 : List Int) (m25 : List Int) (t8 : Int) (t9 : Int) : (List Int) × Int → Option (((List Int) × Int) ⊕ (((List Int) × Int × Bool)))
  | (m26, t10) =>
    br (decide (t10 < (5 : Int))) (
      br (decide (0 ≤ (IntKind.wrap .i64 (t9 + (IntKind.wrap .i64 ((5 : Int) * t10))))) && decide ((IntKind.wrap .i64 (t9 + (IntKind.wrap .i64 ((5 : Int) * t10)))).toNat < 25)) (
        (m21[(IntKind.wrap .i64 (t9 + (IntKind.wrap .i64 ((5 : Int) * t10)))).toNat]?).bind fun x9 =>
        br (decide (0 ≤ (IntKind.wrap .i64 (t9 + (IntKind.wrap .i64 ((5 : Int) * t10))))) && decide ((IntKind.wrap .i64 (t9 + (IntKind.wrap .i64 ((5 : Int) * t10)))).toNat < 25)) (
          (m24[(IntKind.wrap .i64 (t9 + (IntKind.wrap .i64 ((5 : Int) * t10)))).toNat]?).bind fun x10 =>
          (s_l03Turn x9 x10).bind fun r_4 =>
          br (decide (0 ≤ (IntKind.wrap .i64 (t10 + (IntKind.wrap .i64 ((5 : Int) * ((IntKind.wrap .i64 ((IntKind.wrap .i64 ((2 : Int) * t9)) + (IntKind.wrap .i64 ((3 : Int) * t10)))).tmod (5 : Int))))))) && decide ((IntKind.wrap .i64 (t10 + (IntKind.wrap .i64 ((5 : Int) * ((IntKind.wrap .i64 ((IntKind.wrap .i64 ((2 : Int) * t9)) + (IntKind.wrap .i64 ((3 : Int) * t10)))).tmod (5 : Int)))))).toNat < 25)) (
            br (decide ((IntKind.wrap .i64 (t10 + (IntKind.wrap .i64 ((5 : Int) * ((IntKind.wrap .i64 ((IntKind.wrap .i64 ((2 : Int) * t9)) + (IntKind.wrap .i64 ((3 : Int) * t10)))).tmod (5 : Int)))))).toNat < m26.length)) (
              some (.inl ((m26.set ((IntKind.wrap .i64 (t10 + (IntKind.wrap .i64 ((5 : Int) * ((IntKind.wrap .i64 ((IntKind.wrap .i64 ((2 : Int) * t9)) + (IntKind.wrap .i64 ((3 : Int) * t10)))).tmod (5 : Int)))))).toNat) r_4), (IntKind.wrap .i64 (t10 + (1 : Int)))))) (
              none)) (
            none)) (
          none)) (
        none)) (
      some (.inr (m26, t10, decide (t10 < (5 : Int)))))
@[reducible] def s_l03Permute_5_S (m21 : List Int) (m22 : List Int) (m23 : List Int) (m24 : List Int) (m25 : List Int) (t8 : Int) (t9 : Int) (s : (List Int) × Int) : St := ⟨[(1, .ptr 1000 0 0 1), (2, .ptr 1001 0 0 1), (3, .ptr 2001 0 0 1), (4, .ptr 3001 0 0 1), (5, I t8), (9, .ptr 16001 0 0 1), (10, I t9), (11, I s.2)], [(1000, ⟨25, true, [ar .u64 m21]⟩), (1001, ⟨25, true, [ar .u64 m22]⟩), (2001, ⟨24, true, [ar .u64 m23]⟩), (3001, ⟨25, true, [ar .u64 m24]⟩), (7001, ⟨5, true, [ar .u64 m25]⟩), (16001, ⟨25, true, [ar .u64 s.1]⟩)]⟩
@[reducible] def s_l03Permute_5_E (m21 : List Int) (m22 : List Int) (m23 : List Int) (m24 : List Int) (m25 : List Int) (t8 : Int) (t9 : Int) : ((List Int) × Int × Bool) → AExit × St := fun e => (.exit 8, ⟨[(1, .ptr 1000 0 0 1), (2, .ptr 1001 0 0 1), (3, .ptr 2001 0 0 1), (4, .ptr 3001 0 0 1), (5, I t8), (9, .ptr 16001 0 0 1), (10, I t9), (11, I e.2.1), (77, B e.2.2)], [(1000, ⟨25, true, [ar .u64 m21]⟩), (1001, ⟨25, true, [ar .u64 m22]⟩), (2001, ⟨24, true, [ar .u64 m23]⟩), (3001, ⟨25, true, [ar .u64 m24]⟩), (7001, ⟨5, true, [ar .u64 m25]⟩), (16001, ⟨25, true, [ar .u64 e.1]⟩)]⟩)
theorem s_l03Permute_5_l {m21 m22 m23 m24 m25 t8 t9 s e} (h : Loop (s_l03Permute_5_s m21 m22 m23 m24 m25 t8 t9) s = some e) : LoopX tab ow (.close [23021]) b_s_l03Permute_20 (s_l03Permute_5_S m21 m22 m23 m24 m25 t8 t9 s) = some (s_l03Permute_5_E m21 m22 m23 m24 m25 t8 t9 e) := by
  refine lrG (fun s o h => ?_) h
  obtain ⟨_, _⟩ := s
  simp only [s_l03Permute_5_s] at h
  simp +decide only [s_l03Permute_5_S, s_l03Permute_5_E, b_s_l03Permute_20, go_sem, reduceIte, Nat.reduceAdd]
  have d1 := @s_l03Turn_c
  all_goals exact go
noncomputable def s_l03Permute_4_s (m15 : List Int) (m16 : List Int) (m17 : List Int) (m18 : List Int) (m19 : List Int) (t6 : Int) : (List Int) × Int → Option (((List Int) × Int) ⊕ (((List Int) × Int × Bool)))
  | (m20, t7) =>
    br (decide (t7 < (5 : Int))) (
      (Loop (s_l03Permute_5_s m15 m16 m17 m18 m19 t6 t7) (m20, (0 : Int))).bind fun e_3 =>
      some (.inl (e_3.1, (IntKind.wrap .i64 (t7 + (1 : Int)))))) (
      some (.inr (m20, t7, decide (t7 < (5 : Int)))))
@[reducible] def s_l03Permute_4_S (m15 : List Int) (m16 : List Int) (m17 : List Int) (m18 : List Int) (m19 : List Int) (t6 : Int) (s : (List Int) × Int) : St := ⟨[(1, .ptr 1000 0 0 1), (2, .ptr 1001 0 0 1), (3, .ptr 2001 0 0 1), (4, .ptr 3001 0 0 1), (5, I t6), (9, .ptr 16001 0 0 1), (10, I s.2)], [(1000, ⟨25, true, [ar .u64 m15]⟩), (1001, ⟨25, true, [ar .u64 m16]⟩), (2001, ⟨24, true, [ar .u64 m17]⟩), (3001, ⟨25, true, [ar .u64 m18]⟩), (7001, ⟨5, true, [ar .u64 m19]⟩), (16001, ⟨25, true, [ar .u64 s.1]⟩)]⟩
@[reducible] def s_l03Permute_4_E (m15 : List Int) (m16 : List Int) (m17 : List Int) (m18 : List Int) (m19 : List Int) (t6 : Int) : ((List Int) × Int × Bool) → AExit × St := fun e => (.exit 6, ⟨[(1, .ptr 1000 0 0 1), (2, .ptr 1001 0 0 1), (3, .ptr 2001 0 0 1), (4, .ptr 3001 0 0 1), (5, I t6), (9, .ptr 16001 0 0 1), (10, I e.2.1), (73, B e.2.2)], [(1000, ⟨25, true, [ar .u64 m15]⟩), (1001, ⟨25, true, [ar .u64 m16]⟩), (2001, ⟨24, true, [ar .u64 m17]⟩), (3001, ⟨25, true, [ar .u64 m18]⟩), (7001, ⟨5, true, [ar .u64 m19]⟩), (16001, ⟨25, true, [ar .u64 e.1]⟩)]⟩)
theorem s_l03Permute_4_l {m15 m16 m17 m18 m19 t6 s e} (h : Loop (s_l03Permute_4_s m15 m16 m17 m18 m19 t6) s = some e) : LoopX tab ow (.close [23021]) b_s_l03Permute_17 (s_l03Permute_4_S m15 m16 m17 m18 m19 t6 s) = some (s_l03Permute_4_E m15 m16 m17 m18 m19 t6 e) := by
  refine lrG (fun s o h => ?_) h
  obtain ⟨_, _⟩ := s
  simp only [s_l03Permute_4_s] at h
  simp +decide only [s_l03Permute_4_S, s_l03Permute_4_E, b_s_l03Permute_17, go_sem, reduceIte, Nat.reduceAdd]
  have d1 := @s_l03Permute_5_l
  all_goals exact go
noncomputable def s_l03Permute_7_s (m34 : List Int) (m35 : List Int) (m36 : List Int) (m37 : List Int) (m38 : List Int) (t13 : Int) (t14 : Int) : (List Int) × Int → Option (((List Int) × Int) ⊕ (((List Int) × Int × Bool)))
  | (m33, t15) =>
    br (decide (t15 < (5 : Int))) (
      br (decide (0 ≤ (IntKind.wrap .i64 (t14 + (IntKind.wrap .i64 ((5 : Int) * t15))))) && decide ((IntKind.wrap .i64 (t14 + (IntKind.wrap .i64 ((5 : Int) * t15)))).toNat < 25)) (
        (m38[(IntKind.wrap .i64 (t14 + (IntKind.wrap .i64 ((5 : Int) * t15)))).toNat]?).bind fun x11 =>
        br (decide (0 ≤ (IntKind.wrap .i64 (((IntKind.wrap .i64 (t14 + (1 : Int))).tmod (5 : Int)) + (IntKind.wrap .i64 ((5 : Int) * t15))))) && decide ((IntKind.wrap .i64 (((IntKind.wrap .i64 (t14 + (1 : Int))).tmod (5 : Int)) + (IntKind.wrap .i64 ((5 : Int) * t15)))).toNat < 25)) (
          (m38[(IntKind.wrap .i64 (((IntKind.wrap .i64 (t14 + (1 : Int))).tmod (5 : Int)) + (IntKind.wrap .i64 ((5 : Int) * t15)))).toNat]?).bind fun x12 =>
          br (decide (0 ≤ (IntKind.wrap .i64 (((IntKind.wrap .i64 (t14 + (2 : Int))).tmod (5 : Int)) + (IntKind.wrap .i64 ((5 : Int) * t15))))) && decide ((IntKind.wrap .i64 (((IntKind.wrap .i64 (t14 + (2 : Int))).tmod (5 : Int)) + (IntKind.wrap .i64 ((5 : Int) * t15)))).toNat < 25)) (
            (m38[(IntKind.wrap .i64 (((IntKind.wrap .i64 (t14 + (2 : Int))).tmod (5 : Int)) + (IntKind.wrap .i64 ((5 : Int) * t15)))).toNat]?).bind fun x13 =>
            br (decide (0 ≤ (IntKind.wrap .i64 (t14 + (IntKind.wrap .i64 ((5 : Int) * t15))))) && decide ((IntKind.wrap .i64 (t14 + (IntKind.wrap .i64 ((5 : Int) * t15)))).toNat < 25)) (
              br (decide ((IntKind.wrap .i64 (t14 + (IntKind.wrap .i64 ((5 : Int) * t15)))).toNat < m33.length)) (
                some (.inl ((m33.set ((IntKind.wrap .i64 (t14 + (IntKind.wrap .i64 ((5 : Int) * t15)))).toNat) (xor64 .u64 x11 (and64 .u64 (not64 .u64 x12) x13))), (IntKind.wrap .i64 (t15 + (1 : Int)))))) (
                none)) (
              none)) (
            none)) (
          none)) (
        none)) (
      some (.inr (m33, t15, decide (t15 < (5 : Int)))))
@[reducible] def s_l03Permute_7_S (m34 : List Int) (m35 : List Int) (m36 : List Int) (m37 : List Int) (m38 : List Int) (t13 : Int) (t14 : Int) (s : (List Int) × Int) : St := ⟨[(1, .ptr 1000 0 0 1), (2, .ptr 1001 0 0 1), (3, .ptr 2001 0 0 1), (4, .ptr 3001 0 0 1), (5, I t13), (9, .ptr 16001 0 0 1), (12, I t14), (13, I s.2)], [(1000, ⟨25, true, [ar .u64 s.1]⟩), (1001, ⟨25, true, [ar .u64 m34]⟩), (2001, ⟨24, true, [ar .u64 m35]⟩), (3001, ⟨25, true, [ar .u64 m36]⟩), (7001, ⟨5, true, [ar .u64 m37]⟩), (16001, ⟨25, true, [ar .u64 m38]⟩)]⟩
@[reducible] def s_l03Permute_7_E (m34 : List Int) (m35 : List Int) (m36 : List Int) (m37 : List Int) (m38 : List Int) (t13 : Int) (t14 : Int) : ((List Int) × Int × Bool) → AExit × St := fun e => (.exit 12, ⟨[(1, .ptr 1000 0 0 1), (2, .ptr 1001 0 0 1), (3, .ptr 2001 0 0 1), (4, .ptr 3001 0 0 1), (5, I t13), (9, .ptr 16001 0 0 1), (12, I t14), (13, I e.2.1), (108, B e.2.2)], [(1000, ⟨25, true, [ar .u64 e.1]⟩), (1001, ⟨25, true, [ar .u64 m34]⟩), (2001, ⟨24, true, [ar .u64 m35]⟩), (3001, ⟨25, true, [ar .u64 m36]⟩), (7001, ⟨5, true, [ar .u64 m37]⟩), (16001, ⟨25, true, [ar .u64 m38]⟩)]⟩)
theorem s_l03Permute_7_l {m34 m35 m36 m37 m38 t13 t14 s e} (h : Loop (s_l03Permute_7_s m34 m35 m36 m37 m38 t13 t14) s = some e) : LoopX tab ow (.close []) b_s_l03Permute_27 (s_l03Permute_7_S m34 m35 m36 m37 m38 t13 t14 s) = some (s_l03Permute_7_E m34 m35 m36 m37 m38 t13 t14 e) := by
  refine lrG (fun s o h => ?_) h
  obtain ⟨_, _⟩ := s
  simp only [s_l03Permute_7_s] at h
  simp +decide only [s_l03Permute_7_S, s_l03Permute_7_E, b_s_l03Permute_27, go_sem, reduceIte, Nat.reduceAdd]
  all_goals exact go
noncomputable def s_l03Permute_6_s (m28 : List Int) (m29 : List Int) (m30 : List Int) (m31 : List Int) (m32 : List Int) (t11 : Int) : (List Int) × Int → Option (((List Int) × Int) ⊕ (((List Int) × Int × Bool)))
  | (m27, t12) =>
    br (decide (t12 < (5 : Int))) (
      (Loop (s_l03Permute_7_s m28 m29 m30 m31 m32 t11 t12) (m27, (0 : Int))).bind fun e_5 =>
      some (.inl (e_5.1, (IntKind.wrap .i64 (t12 + (1 : Int)))))) (
      some (.inr (m27, t12, decide (t12 < (5 : Int)))))
@[reducible] def s_l03Permute_6_S (m28 : List Int) (m29 : List Int) (m30 : List Int) (m31 : List Int) (m32 : List Int) (t11 : Int) (s : (List Int) × Int) : St := ⟨[(1, .ptr 1000 0 0 1), (2, .ptr 1001 0 0 1), (3, .ptr 2001 0 0 1), (4, .ptr 3001 0 0 1), (5, I t11), (9, .ptr 16001 0 0 1), (12, I s.2)], [(1000, ⟨25, true, [ar .u64 s.1]⟩), (1001, ⟨25, true, [ar .u64 m28]⟩), (2001, ⟨24, true, [ar .u64 m29]⟩), (3001, ⟨25, true, [ar .u64 m30]⟩), (7001, ⟨5, true, [ar .u64 m31]⟩), (16001, ⟨25, true, [ar .u64 m32]⟩)]⟩
@[reducible] def s_l03Permute_6_E (m28 : List Int) (m29 : List Int) (m30 : List Int) (m31 : List Int) (m32 : List Int) (t11 : Int) : ((List Int) × Int × Bool) → AExit × St := fun e => (.exit 10, ⟨[(1, .ptr 1000 0 0 1), (2, .ptr 1001 0 0 1), (3, .ptr 2001 0 0 1), (4, .ptr 3001 0 0 1), (5, I t11), (9, .ptr 16001 0 0 1), (12, I e.2.1), (104, B e.2.2)], [(1000, ⟨25, true, [ar .u64 e.1]⟩), (1001, ⟨25, true, [ar .u64 m28]⟩), (2001, ⟨24, true, [ar .u64 m29]⟩), (3001, ⟨25, true, [ar .u64 m30]⟩), (7001, ⟨5, true, [ar .u64 m31]⟩), (16001, ⟨25, true, [ar .u64 m32]⟩)]⟩)
theorem s_l03Permute_6_l {m28 m29 m30 m31 m32 t11 s e} (h : Loop (s_l03Permute_6_s m28 m29 m30 m31 m32 t11) s = some e) : LoopX tab ow (.close []) b_s_l03Permute_24 (s_l03Permute_6_S m28 m29 m30 m31 m32 t11 s) = some (s_l03Permute_6_E m28 m29 m30 m31 m32 t11 e) := by
  refine lrG (fun s o h => ?_) h
  obtain ⟨_, _⟩ := s
  simp only [s_l03Permute_6_s] at h
  simp +decide only [s_l03Permute_6_S, s_l03Permute_6_E, b_s_l03Permute_24, go_sem, reduceIte, Nat.reduceAdd]
  have d1 := @s_l03Permute_7_l
  all_goals exact go
noncomputable def s_l03Permute_1_s (m2 : List Int) (m3 : List Int) (m4 : List Int) : (List Int) × Int → Option (((List Int) × Int) ⊕ (((List Int) × Int × Bool)))
  | (m, t) =>
    br (decide (t < (24 : Int))) (
      (Loop (s_l03Permute_2_s m m2 m3 m4 t) ((nZ 5), (0 : Int))).bind fun e_ =>
      (Loop (s_l03Permute_3_s m2 m3 m4 e_.1 t) (m, (0 : Int))).bind fun e_2 =>
      (Loop (s_l03Permute_4_s e_2.1 m2 m3 m4 e_.1 t) ((nZ 25), (0 : Int))).bind fun e_4 =>
      (Loop (s_l03Permute_6_s m2 m3 m4 e_.1 e_4.1 t) (e_2.1, (0 : Int))).bind fun e_6 =>
      (e_6.1[0]?).bind fun x14 =>
      br (decide (0 ≤ t) && decide (t.toNat < 24)) (
        (m3[t.toNat]?).bind fun x15 =>
        br (decide (0 < e_6.1.length)) (
          some (.inl ((e_6.1.set 0 (xor64 .u64 x14 x15)), (IntKind.wrap .i64 (t + (1 : Int)))))) (
          none)) (
        none)) (
      some (.inr (m, t, decide (t < (24 : Int)))))
@[reducible] def s_l03Permute_1_S (m2 : List Int) (m3 : List Int) (m4 : List Int) (s : (List Int) × Int) : St := ⟨[(1, .ptr 1000 0 0 1), (2, .ptr 1001 0 0 1), (3, .ptr 2001 0 0 1), (4, .ptr 3001 0 0 1), (5, I s.2)], [(1000, ⟨25, true, [ar .u64 s.1]⟩), (1001, ⟨25, true, [ar .u64 m2]⟩), (2001, ⟨24, true, [ar .u64 m3]⟩), (3001, ⟨25, true, [ar .u64 m4]⟩)]⟩
@[reducible] def s_l03Permute_1_E (m2 : List Int) (m3 : List Int) (m4 : List Int) : ((List Int) × Int × Bool) → AExit × St := fun e => (.exit 0, ⟨[(1, .ptr 1000 0 0 1), (2, .ptr 1001 0 0 1), (3, .ptr 2001 0 0 1), (4, .ptr 3001 0 0 1), (5, I e.2.1), (17, B e.2.2)], [(1000, ⟨25, true, [ar .u64 e.1]⟩), (1001, ⟨25, true, [ar .u64 m2]⟩), (2001, ⟨24, true, [ar .u64 m3]⟩), (3001, ⟨25, true, [ar .u64 m4]⟩)]⟩)
theorem s_l03Permute_1_l {m2 m3 m4 s e} (h : Loop (s_l03Permute_1_s m2 m3 m4) s = some e) : LoopX tab ow (.close [7001,15013,16001,23021]) b_s_l03Permute_4 (s_l03Permute_1_S m2 m3 m4 s) = some (s_l03Permute_1_E m2 m3 m4 e) := by
  refine lrG (fun s o h => ?_) h
  obtain ⟨_, _⟩ := s
  simp only [s_l03Permute_1_s] at h
  simp +decide only [s_l03Permute_1_S, s_l03Permute_1_E, b_s_l03Permute_4, go_sem, reduceIte, Nat.reduceAdd]
  have d1 := @s_l03Permute_2_l
  have d2 := @s_l03Permute_3_l
  have d3 := @s_l03Permute_4_l
  have d4 := @s_l03Permute_6_l
  all_goals exact go
noncomputable def s_l03Permute (ListtoArray : (List Int)) : Option ((List Int)) :=
  br (decide (ListtoArray.length = 25)) (
    (s_l03Rounds).bind fun r_ =>
    br (decide (r_.length = 24)) (
      (s_l03Shifts).bind fun r_2 =>
      br (decide (r_2.length = 25)) (
        (Loop (s_l03Permute_1_s (nZ 25) r_ r_2) (ListtoArray, (0 : Int))).bind fun e_7 =>
        br (decide (e_7.1.length = 25)) (
          br (decide (e_7.1.length = 25)) (
            br (decide (e_7.1.length = 25)) (
              some e_7.1) (
              none)) (
            none)) (
          none)) (
        none)) (
      none)) (
    none)
theorem s_l03Permute_c {ListtoArray r} (h : s_l03Permute ListtoArray = some r) : Call tab ow 287 [.agg (ar .u64 ListtoArray)] [] = some (.agg (ar .u64 r), []) := by
  rw [Call_run (af := a_s_l03Permute) rfl]
  unfold s_l03Permute at h
  simp +decide only [a_s_l03Permute, b_s_l03Permute, go_sem, reduceIte, Nat.reduceAdd]
  have d1 := @s_l03Rounds_c
  have d2 := @s_l03Shifts_c
  have d3 := @s_l03Permute_1_l
  all_goals exact go
section
theorem s_l03Text_k0 : mkR 2000 [] = rws eU8 [] := rfl
attribute [local go_sem] s_l03Text_k0
theorem s_l03Text_k1 : mkR 6011 [] = rws eU8 [] := rfl
attribute [local go_sem] s_l03Text_k1
noncomputable def s_l03Text_1_s (m : List Int) (n2 : Int) : (List UInt8) × Int → Option (((List UInt8) × Int) ⊕ (((List UInt8) × Int × Bool)))
  | (l, i) =>
    br (decide (i < n2)) (
      br (decide (0 ≤ (IntKind.wrap .i64 (i.tdiv (8 : Int)))) && decide ((IntKind.wrap .i64 (i.tdiv (8 : Int))).toNat < 25)) (
        (m[(IntKind.wrap .i64 (i.tdiv (8 : Int))).toNat]?).bind fun x =>
        br (decide (0 ≤ (IntKind.wrap .u64 (IntKind.wrap .i64 ((8 : Int) * (i.tmod (8 : Int))))))) (
          br (fits ((l ++ ([(UInt8.ofInt (shr64 .u64 x (IntKind.wrap .u64 (IntKind.wrap .i64 ((8 : Int) * (i.tmod (8 : Int)))))))] : List UInt8)).length) 1) (
            some (.inl ((l ++ ([(UInt8.ofInt (shr64 .u64 x (IntKind.wrap .u64 (IntKind.wrap .i64 ((8 : Int) * (i.tmod (8 : Int)))))))] : List UInt8)), (IntKind.wrap .i64 (i + (1 : Int)))))) (
            none)) (
          none)) (
        none)) (
      some (.inr (l, i, decide (i < n2))))
@[reducible] def s_l03Text_1_S (m : List Int) (n2 : Int) (s : (List UInt8) × Int) : St := ⟨[(1, I n2), (2, .ptr 1000 0 0 1), (5, .sl 2000 0 s.1.length), (6, I s.2)], [(1000, ⟨25, true, [ar .u64 m]⟩), (2000, ⟨1, false, rws eU8 s.1⟩)]⟩
@[reducible] def s_l03Text_1_E (m : List Int) (n2 : Int) : ((List UInt8) × Int × Bool) → AExit × St := fun e => (.exit 0, ⟨[(1, I n2), (2, .ptr 1000 0 0 1), (5, .sl 2000 0 e.1.length), (6, I e.2.1), (10, B e.2.2)], [(1000, ⟨25, true, [ar .u64 m]⟩), (2000, ⟨1, false, rws eU8 e.1⟩)]⟩)
theorem s_l03Text_1_l {m n2 s e} (h : Loop (s_l03Text_1_s m n2) s = some e) : LoopX tab ow (.close [6011,6012]) b_s_l03Text_3 (s_l03Text_1_S m n2 s) = some (s_l03Text_1_E m n2 e) := by
  refine lrG (fun s o h => ?_) h
  obtain ⟨_, _⟩ := s
  simp only [s_l03Text_1_s] at h
  simp +decide only [s_l03Text_1_S, s_l03Text_1_E, b_s_l03Text_3, go_sem, reduceIte, Nat.reduceAdd]
  all_goals exact go
noncomputable def s_l03Text (a : (List Int)) (n : Int) : Option ((List UInt8)) :=
  br (decide (a.length = 25)) (
    (Loop (s_l03Text_1_s a n) (([] : List UInt8), (0 : Int))).bind fun e_ =>
    some e_.1) (
    none)
theorem s_l03Text_c {a n r} (h : s_l03Text a n = some r) : Call tab ow 288 [.agg (ar .u64 a), I n] [] = some (S r, []) := by
  rw [Call_run (af := a_s_l03Text) rfl]
  unfold s_l03Text at h
  simp +decide only [a_s_l03Text, b_s_l03Text, go_sem, reduceIte, Nat.reduceAdd]
  have d1 := @s_l03Text_1_l
  all_goals exact go
end
section
theorem s_l03Hash_k0 : mkR 2002 [] = rws eU8 [] := rfl
attribute [local go_sem] s_l03Hash_k0
theorem s_l03Hash_k1 : mkR 4001 [] = rws eU8 [] := rfl
attribute [local go_sem] s_l03Hash_k1
noncomputable def s_l03Hash_1_s (l2 : List UInt8) : (List UInt8) → Option (((List UInt8)) ⊕ (((List UInt8) × Bool)))
  | l =>
    br ((((l.length : Nat) : Int).tmod (136 : Int)) != (0 : Int)) (
      br (fits ((l ++ ([(0 : UInt8)] : List UInt8)).length) 1) (
        some (.inl (l ++ ([(0 : UInt8)] : List UInt8)))) (
        none)) (
      some (.inr (l, ((((l.length : Nat) : Int).tmod (136 : Int)) != (0 : Int)))))
@[reducible] def s_l03Hash_1_S (l2 : List UInt8) (s : (List UInt8)) : St := ⟨[(3, .sl 2001 0 s.length)], [(2001, ⟨1, false, rws eU8 s⟩), (2002, ⟨1, false, rws eU8 l2⟩)]⟩
@[reducible] def s_l03Hash_1_E (l2 : List UInt8) : ((List UInt8) × Bool) → AExit × St := fun e => (.exit 0, ⟨[(3, .sl 2001 0 e.1.length), (15, B e.2)], [(2001, ⟨1, false, rws eU8 e.1⟩), (2002, ⟨1, false, rws eU8 l2⟩)]⟩)
theorem s_l03Hash_1_l {l2 s e} (h : Loop (s_l03Hash_1_s l2) s = some e) : LoopX tab ow (.close [4001,4002]) b_s_l03Hash_2 (s_l03Hash_1_S l2 s) = some (s_l03Hash_1_E l2 e) := by
  refine lrG (fun s o h => ?_) h
  simp only [s_l03Hash_1_s] at h
  simp +decide only [s_l03Hash_1_S, s_l03Hash_1_E, b_s_l03Hash_2, go_sem, reduceIte, Nat.reduceAdd]
  all_goals exact go
noncomputable def s_l03Hash_3_s (l4 : List UInt8) (m4 : List Int) (m5 : List UInt8) (at_2 : Int) : (List Int) × Int → Option (((List Int) × Int) ⊕ (((List Int) × Int × Bool)))
  | (m3, i) =>
    br (decide (i < (25 : Int))) (
      br (decide (0 ≤ i) && decide (i.toNat < 25)) (
        (m3[i.toNat]?).bind fun x3 =>
        br (decide (0 ≤ i) && decide (i.toNat < 25)) (
          (m4[i.toNat]?).bind fun x4 =>
          br (decide (0 ≤ i) && decide (i.toNat < 25)) (
            br (decide (i.toNat < m3.length)) (
              some (.inl ((m3.set i.toNat (xor64 .u64 x3 x4)), (IntKind.wrap .i64 (i + (1 : Int)))))) (
              none)) (
            none)) (
          none)) (
        none)) (
      some (.inr (m3, i, decide (i < (25 : Int)))))
@[reducible] def s_l03Hash_3_S (l4 : List UInt8) (m4 : List Int) (m5 : List UInt8) (at_2 : Int) (s : (List Int) × Int) : St := ⟨[(3, sl eU8 m5), (4, .ptr 6001 0 0 1), (5, I at_2), (6, .ptr 10007 0 0 1), (7, I s.2)], [(2002, ⟨1, false, rws eU8 l4⟩), (6001, ⟨25, true, [ar .u64 s.1]⟩), (10007, ⟨25, true, [ar .u64 m4]⟩)]⟩
@[reducible] def s_l03Hash_3_E (l4 : List UInt8) (m4 : List Int) (m5 : List UInt8) (at_2 : Int) : ((List Int) × Int × Bool) → AExit × St := fun e => (.exit 4, ⟨[(3, sl eU8 m5), (4, .ptr 6001 0 0 1), (5, I at_2), (6, .ptr 10007 0 0 1), (7, I e.2.1), (42, B e.2.2)], [(2002, ⟨1, false, rws eU8 l4⟩), (6001, ⟨25, true, [ar .u64 e.1]⟩), (10007, ⟨25, true, [ar .u64 m4]⟩)]⟩)
theorem s_l03Hash_3_l {l4 m4 m5 at_2 s e} (h : Loop (s_l03Hash_3_s l4 m4 m5 at_2) s = some e) : LoopX tab ow (.close []) b_s_l03Hash_11 (s_l03Hash_3_S l4 m4 m5 at_2 s) = some (s_l03Hash_3_E l4 m4 m5 at_2 e) := by
  refine lrG (fun s o h => ?_) h
  obtain ⟨_, _⟩ := s
  simp only [s_l03Hash_3_s] at h
  simp +decide only [s_l03Hash_3_S, s_l03Hash_3_E, b_s_l03Hash_11, go_sem, reduceIte, Nat.reduceAdd]
  all_goals exact go
noncomputable def s_l03Hash_2_s (l3 : List UInt8) (m2 : List UInt8) : (List Int) × Int → Option (((List Int) × Int) ⊕ (((List Int) × Int × Bool)))
  | (m, at_) =>
    br (decide (at_ < ((m2.length : Nat) : Int))) (
      (subL m2 at_ (IntKind.wrap .i64 (at_ + (136 : Int)))).bind fun y =>
      (s_l03Lanes y).bind fun r_ =>
      br (decide (r_.length = 25)) (
        (Loop (s_l03Hash_3_s l3 r_ m2 at_) (m, (0 : Int))).bind fun e_2 =>
        br (decide (e_2.1.length = 25)) (
          (s_l03Permute e_2.1).bind fun r_2 =>
          br (decide (r_2.length = 25) && decide (e_2.1.length = 25)) (
            some (.inl (r_2, (IntKind.wrap .i64 (at_ + (136 : Int)))))) (
            none)) (
          none)) (
        none)) (
      some (.inr (m, at_, decide (at_ < ((m2.length : Nat) : Int)))))
@[reducible] def s_l03Hash_2_S (l3 : List UInt8) (m2 : List UInt8) (s : (List Int) × Int) : St := ⟨[(3, sl eU8 m2), (4, .ptr 6001 0 0 1), (5, I s.2)], [(2002, ⟨1, false, rws eU8 l3⟩), (6001, ⟨25, true, [ar .u64 s.1]⟩)]⟩
@[reducible] def s_l03Hash_2_E (l3 : List UInt8) (m2 : List UInt8) : ((List Int) × Int × Bool) → AExit × St := fun e => (.exit 2, ⟨[(3, sl eU8 m2), (4, .ptr 6001 0 0 1), (5, I e.2.1), (31, B e.2.2)], [(2002, ⟨1, false, rws eU8 l3⟩), (6001, ⟨25, true, [ar .u64 e.1]⟩)]⟩)
theorem s_l03Hash_2_l {l3 m2 s e} (h : Loop (s_l03Hash_2_s l3 m2) s = some e) : LoopX tab ow (.close [10006,10007,15001,2001]) b_s_l03Hash_7 (s_l03Hash_2_S l3 m2 s) = some (s_l03Hash_2_E l3 m2 e) := by
  refine lrG (fun s o h => ?_) h
  obtain ⟨_, _⟩ := s
  simp only [s_l03Hash_2_s] at h
  simp +decide only [s_l03Hash_2_S, s_l03Hash_2_E, b_s_l03Hash_7, go_sem, reduceIte, Nat.reduceAdd]
  have d1 := @s_l03Lanes_c
  have d2 := @s_l03Hash_3_l
  have d3 := @s_l03Permute_c
  all_goals exact go
noncomputable def s_l03Hash (b : (List UInt8)) : Option ((List UInt8)) :=
  br (fits b.length 1) (
    br (fits ((b ++ ([(1 : UInt8)] : List UInt8)).length) 1) (
      (Loop (s_l03Hash_1_s ([(1 : UInt8)] : List UInt8)) (b ++ ([(1 : UInt8)] : List UInt8))).bind fun e_ =>
      br (decide (0 ≤ (IntKind.wrap .i64 (((e_.1.length : Nat) : Int) - (1 : Int))))) (
        br (decide ((IntKind.wrap .i64 (((e_.1.length : Nat) : Int) - (1 : Int))).toNat < e_.1.length)) (
          (e_.1[(IntKind.wrap .i64 (((e_.1.length : Nat) : Int) - (1 : Int))).toNat]?).bind fun x =>
          br (decide (0 ≤ (IntKind.wrap .i64 (((e_.1.length : Nat) : Int) - (1 : Int))))) (
            br (decide ((IntKind.wrap .i64 (((e_.1.length : Nat) : Int) - (1 : Int))).toNat < e_.1.length)) (
              (e_.1[(IntKind.wrap .i64 (((e_.1.length : Nat) : Int) - (1 : Int))).toNat]?).bind fun x2 =>
              (Loop (s_l03Hash_2_s ([(1 : UInt8)] : List UInt8) (e_.1.set ((IntKind.wrap .i64 (((e_.1.length : Nat) : Int) - (1 : Int))).toNat) (UInt8.ofInt (or64 .u8 (x.toNat : Int) (128 : Int))))) ((nZ 25), (0 : Int))).bind fun e_3 =>
              br (decide (e_3.1.length = 25)) (
                (s_l03Text e_3.1 (32 : Int)).bind fun r_3 =>
                some r_3) (
                none)) (
              none)) (
            none)) (
          none)) (
        none)) (
      none)) (
    none)
theorem s_l03Hash_c {b r} (h : s_l03Hash b = some r) : Call tab ow 240 [S b] [] = some (S r, []) := by
  rw [Call_run (af := a_s_l03Hash) rfl]
  unfold s_l03Hash at h
  simp +decide only [a_s_l03Hash, b_s_l03Hash, go_sem, reduceIte, Nat.reduceAdd]
  have d1 := @s_l03Hash_1_l
  have d2 := @s_l03Hash_2_l
  have d3 := @s_l03Text_c
  all_goals exact go
end
noncomputable def s_l05New (label : (List UInt8)) (list : (List Ext)) : Option (Source) :=
  br (fits ((([115, 111, 117, 114, 99, 101] : List UInt8)).length + label.length) 1) (
    (s_l03Hash ((([115, 111, 117, 114, 99, 101] : List UInt8)) ++ label)).bind fun r_ =>
    some (Source.mk list (0 : Int) r_ (0 : Int))) (
    none)
theorem s_l05New_c {label list r} (h : s_l05New label list = some r) : Call tab ow 152 [S label, sl eExt list] [] = some (.agg [sl eExt r.Script, I r.At, S r.State, I r.Count], []) := by
  rw [Call_run (af := a_s_l05New) rfl]
  unfold s_l05New at h
  simp +decide only [a_s_l05New, b_s_l05New, go_sem, reduceIte, Nat.reduceAdd]
  have d1 := @s_l03Hash_c
  all_goals exact go
noncomputable def s_l00Src_ext (m : l00Src) : Option (Ext × l00Src) :=
  (s_l00Src_chance (4 : Int) m).bind fun r_ =>
  br r_.1 (
    (s_l00Src_field r_.2).bind fun r_2 =>
    some ((Ext.mk r_2.1 (0 : Int)), r_2.2)) (
    (s_l00Src_field r_.2).bind fun r_3 =>
    (s_l00Src_field r_3.2).bind fun r_4 =>
    some ((Ext.mk r_3.1 r_4.1), r_4.2))
theorem s_l00Src_ext_c {m r} (h : s_l00Src_ext m = some r) : Call tab ow 166 [.ptr 0 0 0 1] [⟨3, true, [[sl eU8 m.code, I m.at_, I m.seed]]⟩] = some (.agg [I r.1.A, I r.1.B], [⟨3, true, [[sl eU8 r.2.code, I r.2.at_, I r.2.seed]]⟩]) := by
  rw [Call_run (af := a_s_l00Src_ext) rfl]
  unfold s_l00Src_ext at h
  simp +decide only [a_s_l00Src_ext, b_s_l00Src_ext, go_sem, reduceIte, Nat.reduceAdd]
  have d1 := @s_l00Src_chance_c
  have d2 := @s_l00Src_field_c
  all_goals exact go
section
theorem s_l00Src_exts_k0 : mkR 2000 [] = rws eExt [] := rfl
attribute [local go_sem] s_l00Src_exts_k0
theorem s_l00Src_exts_k1 : mkR 6003 [] = rws eExt [] := rfl
attribute [local go_sem] s_l00Src_exts_k1
noncomputable def s_l00Src_exts_1_s (n2 : Int) : (List Ext) × Int × (List UInt8) × Int × Int → Option (((List Ext) × Int × (List UInt8) × Int × Int) ⊕ (((List Ext) × Int × Bool × (List UInt8) × Int × Int)))
  | (l, i, c, c2, c3) =>
    br (decide (i < n2)) (
      (s_l00Src_ext (l00Src.mk c c2 c3)).bind fun r_ =>
      br (fits ((l ++ ([r_.1] : List Ext)).length) 16) (
        some (.inl ((l ++ ([r_.1] : List Ext)), (IntKind.wrap .i64 (i + (1 : Int))), r_.2.code, r_.2.at_, r_.2.seed))) (
        none)) (
      some (.inr (l, i, decide (i < n2), c, c2, c3)))
@[reducible] def s_l00Src_exts_1_S (n2 : Int) (s : (List Ext) × Int × (List UInt8) × Int × Int) : St := ⟨[(0, .ptr 0 0 0 1), (1, I n2), (5, .sl 2000 0 s.1.length), (6, I s.2.1)], [(0, ⟨3, true, [[sl eU8 s.2.2.1, I s.2.2.2.1, I s.2.2.2.2]]⟩), (2000, ⟨2, false, rws eExt s.1⟩)]⟩
@[reducible] def s_l00Src_exts_1_E (n2 : Int) : ((List Ext) × Int × Bool × (List UInt8) × Int × Int) → AExit × St := fun e => (.exit 0, ⟨[(0, .ptr 0 0 0 1), (1, I n2), (5, .sl 2000 0 e.1.length), (6, I e.2.1), (10, B e.2.2.1)], [(0, ⟨3, true, [[sl eU8 e.2.2.2.1, I e.2.2.2.2.1, I e.2.2.2.2.2]]⟩), (2000, ⟨2, false, rws eExt e.1⟩)]⟩)
theorem s_l00Src_exts_1_l {n2 s e} (h : Loop (s_l00Src_exts_1_s n2) s = some e) : LoopX tab ow (.close [6002,6003,6004]) b_s_l00Src_exts_3 (s_l00Src_exts_1_S n2 s) = some (s_l00Src_exts_1_E n2 e) := by
  refine lrG (fun s o h => ?_) h
  obtain ⟨_, _, _, _, _⟩ := s
  simp only [s_l00Src_exts_1_s] at h
  simp +decide only [s_l00Src_exts_1_S, s_l00Src_exts_1_E, b_s_l00Src_exts_3, go_sem, reduceIte, Nat.reduceAdd]
  have d1 := @s_l00Src_ext_c
  all_goals exact go
noncomputable def s_l00Src_exts (n : Int) (m : l00Src) : Option ((List Ext) × l00Src) :=
  (Loop (s_l00Src_exts_1_s n) (([] : List Ext), (0 : Int), m.code, m.at_, m.seed)).bind fun e_ =>
  some (e_.1, (l00Src.mk e_.2.2.2.1 e_.2.2.2.2.1 e_.2.2.2.2.2))
theorem s_l00Src_exts_c {n m r} (h : s_l00Src_exts n m = some r) : Call tab ow 71 [.ptr 0 0 0 1, I n] [⟨3, true, [[sl eU8 m.code, I m.at_, I m.seed]]⟩] = some (sl eExt r.1, [⟨3, true, [[sl eU8 r.2.code, I r.2.at_, I r.2.seed]]⟩]) := by
  rw [Call_run (af := a_s_l00Src_exts) rfl]
  unfold s_l00Src_exts at h
  simp +decide only [a_s_l00Src_exts, b_s_l00Src_exts, go_sem, reduceIte, Nat.reduceAdd]
  have d1 := @s_l00Src_exts_1_l
  all_goals exact go
end
section
theorem s_l02Number_k0 : mkR 2000 [] = rws eU8 [] := rfl
attribute [local go_sem] s_l02Number_k0
theorem s_l02Number_k1 : mkR 6007 [] = rws eU8 [] := rfl
attribute [local go_sem] s_l02Number_k1
noncomputable def s_l02Number_1_s (n2 : Int) : (List UInt8) × Int → Option (((List UInt8) × Int) ⊕ (((List UInt8) × Int × Bool)))
  | (l, i) =>
    br (decide (i ≥ (0 : Int))) (
      br (decide (0 ≤ (IntKind.wrap .u64 (IntKind.wrap .i64 ((8 : Int) * i))))) (
        br (fits ((l ++ ([(UInt8.ofInt (shr64 .i64 n2 (IntKind.wrap .u64 (IntKind.wrap .i64 ((8 : Int) * i)))))] : List UInt8)).length) 1) (
          some (.inl ((l ++ ([(UInt8.ofInt (shr64 .i64 n2 (IntKind.wrap .u64 (IntKind.wrap .i64 ((8 : Int) * i)))))] : List UInt8)), (IntKind.wrap .i64 (i - (1 : Int)))))) (
          none)) (
        none)) (
      some (.inr (l, i, decide (i ≥ (0 : Int)))))
@[reducible] def s_l02Number_1_S (n2 : Int) (s : (List UInt8) × Int) : St := ⟨[(0, I n2), (5, .sl 2000 0 s.1.length), (6, I s.2)], [(2000, ⟨1, false, rws eU8 s.1⟩)]⟩
@[reducible] def s_l02Number_1_E (n2 : Int) : ((List UInt8) × Int × Bool) → AExit × St := fun e => (.exit 0, ⟨[(0, I n2), (5, .sl 2000 0 e.1.length), (6, I e.2.1), (11, B e.2.2)], [(2000, ⟨1, false, rws eU8 e.1⟩)]⟩)
theorem s_l02Number_1_l {n2 s e} (h : Loop (s_l02Number_1_s n2) s = some e) : LoopX tab ow (.close [6007,6008]) b_s_l02Number_3 (s_l02Number_1_S n2 s) = some (s_l02Number_1_E n2 e) := by
  refine lrG (fun s o h => ?_) h
  obtain ⟨_, _⟩ := s
  simp only [s_l02Number_1_s] at h
  simp +decide only [s_l02Number_1_S, s_l02Number_1_E, b_s_l02Number_3, go_sem, reduceIte, Nat.reduceAdd]
  all_goals exact go
noncomputable def s_l02Number (n : Int) (size : Int) : Option ((List UInt8)) :=
  (Loop (s_l02Number_1_s n) (([] : List UInt8), (IntKind.wrap .i64 (size - (1 : Int))))).bind fun e_ =>
  some e_.1
theorem s_l02Number_c {n size r} (h : s_l02Number n size = some r) : Call tab ow 165 [I n, I size] [] = some (sl eU8 r, []) := by
  rw [Call_run (af := a_s_l02Number) rfl]
  unfold s_l02Number at h
  simp +decide only [a_s_l02Number, b_s_l02Number, go_sem, reduceIte, Nat.reduceAdd]
  have d1 := @s_l02Number_1_l
  all_goals exact go
end
noncomputable def s_l05Absorb (s : Source) (t : (List UInt8)) : Option (Source) :=
  br (fits (s.State.length + (([97, 98, 115, 111, 114, 98] : List UInt8)).length) 1) (
    (s_l02Number ((t.length : Nat) : Int) (4 : Int)).bind fun r_ =>
    br (fits ((s.State ++ (([97, 98, 115, 111, 114, 98] : List UInt8))).length + r_.length) 1) (
      br (fits (((s.State ++ (([97, 98, 115, 111, 114, 98] : List UInt8))) ++ r_).length + t.length) 1) (
        (s_l03Hash (((s.State ++ (([97, 98, 115, 111, 114, 98] : List UInt8))) ++ r_) ++ t)).bind fun r_2 =>
        some (Source.mk s.Script s.At r_2 (0 : Int))) (
        none)) (
      none)) (
    none)
theorem s_l05Absorb_c {s t r} (h : s_l05Absorb s t = some r) : Call tab ow 155 [.agg [sl eExt s.Script, I s.At, S s.State, I s.Count], S t] [] = some (.agg [sl eExt r.Script, I r.At, S r.State, I r.Count], []) := by
  rw [Call_run (af := a_s_l05Absorb) rfl]
  unfold s_l05Absorb at h
  simp +decide only [a_s_l05Absorb, b_s_l05Absorb, go_sem, reduceIte, Nat.reduceAdd]
  have d1 := @s_l02Number_c
  have d2 := @s_l03Hash_c
  all_goals exact go
noncomputable def s_l05Field_1_s (t2 : List UInt8) : Int × Int → Option ((Int × Int) ⊕ ((Int × Int × Bool)))
  | (n, i) =>
    br (decide (i < (8 : Int))) (
      (atL t2 i).bind fun c =>
      some (.inl (((IntKind.wrap .i64 ((IntKind.wrap .i64 (n * (256 : Int))) + (IntKind.wrap .i64 (c.toNat : Int)))).tmod (2130706433 : Int)), (IntKind.wrap .i64 (i + (1 : Int)))))) (
      some (.inr (n, i, decide (i < (8 : Int)))))
@[reducible] def s_l05Field_1_S (t2 : List UInt8) (s : Int × Int) : St := ⟨[(0, S t2), (3, I s.1), (4, I s.2)], []⟩
@[reducible] def s_l05Field_1_E (t2 : List UInt8) : (Int × Int × Bool) → AExit × St := fun e => (.exit 0, ⟨[(0, S t2), (3, I e.1), (4, I e.2.1), (6, B e.2.2)], []⟩)
theorem s_l05Field_1_l {t2 s e} (h : Loop (s_l05Field_1_s t2) s = some e) : LoopX tab ow (.close []) b_s_l05Field_3 (s_l05Field_1_S t2 s) = some (s_l05Field_1_E t2 e) := by
  refine lrG (fun s o h => ?_) h
  obtain ⟨_, _⟩ := s
  simp only [s_l05Field_1_s] at h
  simp +decide only [s_l05Field_1_S, s_l05Field_1_E, b_s_l05Field_3, go_sem, reduceIte, Nat.reduceAdd]
  all_goals exact go
noncomputable def s_l05Field (t : (List UInt8)) : Option (Int) :=
  (Loop (s_l05Field_1_s t) ((0 : Int), (0 : Int))).bind fun e_ =>
  some e_.1
theorem s_l05Field_c {t r} (h : s_l05Field t = some r) : Call tab ow 241 [S t] [] = some (I r, []) := by
  rw [Call_run (af := a_s_l05Field) rfl]
  unfold s_l05Field at h
  simp +decide only [a_s_l05Field, b_s_l05Field, go_sem, reduceIte, Nat.reduceAdd]
  have d1 := @s_l05Field_1_l
  all_goals exact go
noncomputable def s_l05Draw (s : Source) : Option (Source × Ext) :=
  br (decide (((s.Script.length : Nat) : Int) > (0 : Int))) (
    br (decide (((s.Script.length : Nat) : Int) ≠ 0)) (
      (atL s.Script (s.At.tmod ((s.Script.length : Nat) : Int))).bind fun x =>
      some ((Source.mk s.Script (IntKind.wrap .i64 (s.At + (1 : Int))) s.State s.Count), x)) (
      none)) (
    br (fits (s.State.length + (([100, 114, 97, 119] : List UInt8)).length) 1) (
      (s_l02Number s.Count (4 : Int)).bind fun r_ =>
      br (fits ((s.State ++ (([100, 114, 97, 119] : List UInt8))).length + r_.length) 1) (
        (s_l03Hash ((s.State ++ (([100, 114, 97, 119] : List UInt8))) ++ r_)).bind fun r_2 =>
        (subL r_2 (0 : Int) (8 : Int)).bind fun y =>
        (s_l05Field y).bind fun r_3 =>
        (subL r_2 (8 : Int) (16 : Int)).bind fun y2 =>
        (s_l05Field y2).bind fun r_4 =>
        some ((Source.mk s.Script s.At s.State (IntKind.wrap .i64 (s.Count + (1 : Int)))), (Ext.mk r_3 r_4))) (
        none)) (
      none))
theorem s_l05Draw_c {s r} (h : s_l05Draw s = some r) : Call tab ow 156 [.agg [sl eExt s.Script, I s.At, S s.State, I s.Count]] [] = some (.tup [.agg [sl eExt r.1.Script, I r.1.At, S r.1.State, I r.1.Count], .agg [I r.2.A, I r.2.B]], []) := by
  rw [Call_run (af := a_s_l05Draw) rfl]
  unfold s_l05Draw at h
  simp +decide only [a_s_l05Draw, b_s_l05Draw, go_sem, reduceIte, Nat.reduceAdd]
  have d1 := @s_l02Number_c
  have d2 := @s_l03Hash_c
  have d3 := @s_l05Field_c
  all_goals exact go
section
theorem s_l05Own_k0 : mkR 2000 [] = rws eExt [] := rfl
attribute [local go_sem] s_l05Own_k0
noncomputable def s_l05Own (s : Source) : Option (Source) :=
  br (fits ((([] : List Ext) ++ s.Script).length) 16) (
    some (Source.mk (([] : List Ext) ++ s.Script) s.At s.State s.Count)) (
    none)
theorem s_l05Own_c {s r} (h : s_l05Own s = some r) : Call tab ow 69 [.agg [sl eExt s.Script, I s.At, S s.State, I s.Count]] [] = some (.agg [sl eExt r.Script, I r.At, S r.State, I r.Count], []) := by
  rw [Call_run (af := a_s_l05Own) rfl]
  unfold s_l05Own at h
  simp +decide only [a_s_l05Own, b_s_l05Own, go_sem, reduceIte, Nat.reduceAdd]
  all_goals exact go
end
end Go.AI.Fn

set_option linter.unusedVariables false
set_option linter.unusedSimpArgs false
set_option maxRecDepth 100000
set_option maxHeartbeats 1000000
namespace Go.AI.Fn
section
theorem s_l00Src_source_k0 : mkR 2001 [] = rws eS [] := rfl
attribute [local go_sem] s_l00Src_source_k0
theorem s_l00Src_source_k1 : mkR 2003 [] = rws eExt [] := rfl
attribute [local go_sem] s_l00Src_source_k1
theorem s_l00Src_source_k2 : mkR 9002 [] = rws eS [] := rfl
attribute [local go_sem] s_l00Src_source_k2
noncomputable def s_l00Src_source_1_s (c4 : Int) (c5 : List UInt8) (c6 : Int) : Int × (List UInt8) × Int × Int × (List Ext) × Int × (List UInt8) × Int → Option ((Int × (List UInt8) × Int × Int × (List Ext) × Int × (List UInt8) × Int) ⊕ ((Int × Bool × (List UInt8) × Int × Int × (List Ext) × Int × (List UInt8) × Int)))
  | (i, c, c2, c3, c7, c8, c9, c10) =>
    br (decide (i > (0 : Int))) (
      (s_l00Src_chance (2 : Int) (l00Src.mk c c2 c3)).bind fun r_7 =>
      br r_7.1 (
        (s_l00Src_pick ([(([] : List UInt8)), (([116, 101, 120, 116] : List UInt8))] : List (List UInt8)) r_7.2).bind fun r_8 =>
        (s_l05Absorb (Source.mk c7 c8 c9 c10) r_8.1).bind fun r_9 =>
        some (.inl ((IntKind.wrap .i64 (i - (1 : Int))), r_8.2.code, r_8.2.at_, r_8.2.seed, r_9.Script, r_9.At, r_9.State, r_9.Count))) (
        (s_l05Draw (Source.mk c7 c8 c9 c10)).bind fun r_10 =>
        some (.inl ((IntKind.wrap .i64 (i - (1 : Int))), r_7.2.code, r_7.2.at_, r_7.2.seed, r_10.1.Script, r_10.1.At, r_10.1.State, r_10.1.Count)))) (
      some (.inr (i, decide (i > (0 : Int)), c, c2, c3, c7, c8, c9, c10)))
@[reducible] def s_l00Src_source_1_S (c4 : Int) (c5 : List UInt8) (c6 : Int) (s : Int × (List UInt8) × Int × Int × (List Ext) × Int × (List UInt8) × Int) : St := ⟨[(0, .ptr 0 0 0 1), (2, .ptr 1000 0 0 1), (3, .ptr 2005 0 0 1), (4, I s.1)], [(0, ⟨3, true, [[sl eU8 s.2.1, I s.2.2.1, I s.2.2.2.1]]⟩), (1000, ⟨4, true, [[.lit (.slice none 0 0), I c4, S c5, I c6]]⟩), (2001, dead), (2003, dead), (2005, ⟨4, true, [[sl eExt s.2.2.2.2.1, I s.2.2.2.2.2.1, S s.2.2.2.2.2.2.1, I s.2.2.2.2.2.2.2]]⟩)]⟩
@[reducible] def s_l00Src_source_1_E (c4 : Int) (c5 : List UInt8) (c6 : Int) : (Int × Bool × (List UInt8) × Int × Int × (List Ext) × Int × (List UInt8) × Int) → AExit × St := fun e => (.exit 0, ⟨[(0, .ptr 0 0 0 1), (2, .ptr 1000 0 0 1), (3, .ptr 2005 0 0 1), (4, I e.1), (21, B e.2.1)], [(0, ⟨3, true, [[sl eU8 e.2.2.1, I e.2.2.2.1, I e.2.2.2.2.1]]⟩), (1000, ⟨4, true, [[.lit (.slice none 0 0), I c4, S c5, I c6]]⟩), (2001, dead), (2003, dead), (2005, ⟨4, true, [[sl eExt e.2.2.2.2.2.1, I e.2.2.2.2.2.2.1, S e.2.2.2.2.2.2.2.1, I e.2.2.2.2.2.2.2.2]]⟩)]⟩)
theorem s_l00Src_source_1_l {c4 c5 c6 s e} (h : Loop (s_l00Src_source_1_s c4 c5 c6) s = some e) : LoopX tab ow (.close [8001,9002,9003,9004,10001]) b_s_l00Src_source_5 (s_l00Src_source_1_S c4 c5 c6 s) = some (s_l00Src_source_1_E c4 c5 c6 e) := by
  refine lrG (fun s o h => ?_) h
  obtain ⟨_, _, _, _, _, _, _, _⟩ := s
  simp only [s_l00Src_source_1_s] at h
  simp +decide only [s_l00Src_source_1_S, s_l00Src_source_1_E, b_s_l00Src_source_5, go_sem, reduceIte, Nat.reduceAdd]
  have d1 := @s_l00Src_chance_c
  have d2 := @s_l00Src_pick_c
  have d3 := @s_l05Absorb_c
  have d4 := @s_l05Draw_c
  all_goals exact go
noncomputable def s_l00Src_source_2_s (c14 : Int) (c15 : List UInt8) (c16 : Int) : Int × (List UInt8) × Int × Int × (List Ext) × Int × (List UInt8) × Int → Option ((Int × (List UInt8) × Int × Int × (List Ext) × Int × (List UInt8) × Int) ⊕ ((Int × Bool × (List UInt8) × Int × Int × (List Ext) × Int × (List UInt8) × Int)))
  | (i2, c11, c12, c13, c17, c18, c19, c20) =>
    br (decide (i2 > (0 : Int))) (
      (s_l00Src_chance (2 : Int) (l00Src.mk c11 c12 c13)).bind fun r_13 =>
      br r_13.1 (
        (s_l00Src_pick ([(([] : List UInt8)), (([116, 101, 120, 116] : List UInt8))] : List (List UInt8)) r_13.2).bind fun r_14 =>
        (s_l05Absorb (Source.mk c17 c18 c19 c20) r_14.1).bind fun r_15 =>
        some (.inl ((IntKind.wrap .i64 (i2 - (1 : Int))), r_14.2.code, r_14.2.at_, r_14.2.seed, r_15.Script, r_15.At, r_15.State, r_15.Count))) (
        (s_l05Draw (Source.mk c17 c18 c19 c20)).bind fun r_16 =>
        some (.inl ((IntKind.wrap .i64 (i2 - (1 : Int))), r_13.2.code, r_13.2.at_, r_13.2.seed, r_16.1.Script, r_16.1.At, r_16.1.State, r_16.1.Count)))) (
      some (.inr (i2, decide (i2 > (0 : Int)), c11, c12, c13, c17, c18, c19, c20)))
@[reducible] def s_l00Src_source_2_S (c14 : Int) (c15 : List UInt8) (c16 : Int) (s : Int × (List UInt8) × Int × Int × (List Ext) × Int × (List UInt8) × Int) : St := ⟨[(0, .ptr 0 0 0 1), (2, .ptr 1000 0 0 1), (3, .ptr 2005 0 0 1), (4, I s.1)], [(0, ⟨3, true, [[sl eU8 s.2.1, I s.2.2.1, I s.2.2.2.1]]⟩), (1000, ⟨4, true, [[.lit (.slice none 0 0), I c14, S c15, I c16]]⟩), (2001, dead), (2003, dead), (2005, ⟨4, true, [[sl eExt s.2.2.2.2.1, I s.2.2.2.2.2.1, S s.2.2.2.2.2.2.1, I s.2.2.2.2.2.2.2]]⟩)]⟩
@[reducible] def s_l00Src_source_2_E (c14 : Int) (c15 : List UInt8) (c16 : Int) : (Int × Bool × (List UInt8) × Int × Int × (List Ext) × Int × (List UInt8) × Int) → AExit × St := fun e => (.exit 0, ⟨[(0, .ptr 0 0 0 1), (2, .ptr 1000 0 0 1), (3, .ptr 2005 0 0 1), (4, I e.1), (21, B e.2.1)], [(0, ⟨3, true, [[sl eU8 e.2.2.1, I e.2.2.2.1, I e.2.2.2.2.1]]⟩), (1000, ⟨4, true, [[.lit (.slice none 0 0), I c14, S c15, I c16]]⟩), (2001, dead), (2003, dead), (2005, ⟨4, true, [[sl eExt e.2.2.2.2.2.1, I e.2.2.2.2.2.2.1, S e.2.2.2.2.2.2.2.1, I e.2.2.2.2.2.2.2.2]]⟩)]⟩)
theorem s_l00Src_source_2_l {c14 c15 c16 s e} (h : Loop (s_l00Src_source_2_s c14 c15 c16) s = some e) : LoopX tab ow (.close [8001,9002,9003,9004,10001]) b_s_l00Src_source_5 (s_l00Src_source_2_S c14 c15 c16 s) = some (s_l00Src_source_2_E c14 c15 c16 e) := by
  refine lrG (fun s o h => ?_) h
  obtain ⟨_, _, _, _, _, _, _, _⟩ := s
  simp only [s_l00Src_source_2_s] at h
  simp +decide only [s_l00Src_source_2_S, s_l00Src_source_2_E, b_s_l00Src_source_5, go_sem, reduceIte, Nat.reduceAdd]
  have d1 := @s_l00Src_chance_c
  have d2 := @s_l00Src_pick_c
  have d3 := @s_l05Absorb_c
  have d4 := @s_l05Draw_c
  all_goals exact go
noncomputable def s_l00Src_source (m : l00Src) : Option (Source × l00Src) :=
  (s_l00Src_pick ([(([] : List UInt8)), (([97] : List UInt8)), (([108, 97, 98, 101, 108] : List UInt8))] : List (List UInt8)) m).bind fun r_ =>
  (s_l05New r_.1 ([] : List Ext)).bind fun r_2 =>
  (s_l00Src_chance (3 : Int) r_.2).bind fun r_3 =>
  br r_3.1 (
    (s_l00Src_next (5 : Int) r_3.2).bind fun r_4 =>
    (s_l00Src_exts (IntKind.wrap .i64 ((1 : Int) + r_4.1)) r_4.2).bind fun r_5 =>
    (s_l00Src_next (4 : Int) r_5.2).bind fun r_6 =>
    (Loop (s_l00Src_source_1_s (0 : Int) (([] : List UInt8)) (0 : Int)) (r_6.1, r_6.2.code, r_6.2.at_, r_6.2.seed, r_5.1, r_2.At, r_2.State, r_2.Count)).bind fun e_ =>
    (s_l05Own (Source.mk e_.2.2.2.2.2.1 e_.2.2.2.2.2.2.1 e_.2.2.2.2.2.2.2.1 e_.2.2.2.2.2.2.2.2)).bind fun r_11 =>
    some (r_11, (l00Src.mk e_.2.2.1 e_.2.2.2.1 e_.2.2.2.2.1))) (
    (s_l00Src_next (4 : Int) r_3.2).bind fun r_12 =>
    (Loop (s_l00Src_source_2_s (0 : Int) (([] : List UInt8)) (0 : Int)) (r_12.1, r_12.2.code, r_12.2.at_, r_12.2.seed, r_2.Script, r_2.At, r_2.State, r_2.Count)).bind fun e_2 =>
    (s_l05Own (Source.mk e_2.2.2.2.2.2.1 e_2.2.2.2.2.2.2.1 e_2.2.2.2.2.2.2.2.1 e_2.2.2.2.2.2.2.2.2)).bind fun r_17 =>
    some (r_17, (l00Src.mk e_2.2.2.1 e_2.2.2.2.1 e_2.2.2.2.2.1)))
theorem s_l00Src_source_c {m r} (h : s_l00Src_source m = some r) : Call tab ow 63 [.ptr 0 0 0 1] [⟨3, true, [[sl eU8 m.code, I m.at_, I m.seed]]⟩] = some (.agg [sl eExt r.1.Script, I r.1.At, S r.1.State, I r.1.Count], [⟨3, true, [[sl eU8 r.2.code, I r.2.at_, I r.2.seed]]⟩]) := by
  rw [Call_run (af := a_s_l00Src_source) rfl]
  unfold s_l00Src_source at h
  simp +decide only [a_s_l00Src_source, b_s_l00Src_source, go_sem, reduceIte, Nat.reduceAdd]
  have d1 := @s_l00Src_pick_c
  have d2 := @s_l05New_c
  have d3 := @s_l00Src_chance_c
  have d4 := @s_l00Src_next_c
  have d5 := @s_l00Src_exts_c
  have d6 := @s_l00Src_source_1_l
  have d7 := @s_l05Own_c
  have d8 := @s_l00Src_source_2_l
  all_goals exact go
end
noncomputable def s_SourceOf (code : (List UInt8)) : Option (Source) :=
  (s_l00Source code).bind fun r_ =>
  (s_l00Src_source r_).bind fun r_2 =>
  some r_2.1
theorem s_SourceOf_c {code r} (h : s_SourceOf code = some r) : Call tab ow 12 [sl eU8 code] [] = some (.agg [sl eExt r.Script, I r.At, S r.State, I r.Count], []) := by
  rw [Call_run (af := a_s_SourceOf) rfl]
  unfold s_SourceOf at h
  simp +decide only [a_s_SourceOf, b_s_SourceOf, go_sem, reduceIte, Nat.reduceAdd]
  have d1 := @s_l00Source_c
  have d2 := @s_l00Src_source_c
  all_goals exact go
noncomputable def i_in (n : Int) (low : Int) (high : Int) : Option (Bool) :=
  br (decide (low ≤ n)) (
    some (decide (n ≤ high))) (
    some false)
theorem i_in_c {n low high r} (h : i_in n low high = some r) : Call tab ow 80 [I n, I low, I high] [] = some (B r, []) := by
  rw [Call_run (af := a_i_in) rfl]
  unfold i_in at h
  simp +decide only [a_i_in, b_i_in, go_sem, reduceIte, Nat.reduceAdd]
  all_goals exact go
noncomputable def i_SettingOK (t : Setting) : Option (Bool) :=
  (i_in t.Rate (1 : Int) (3 : Int)).bind fun r_ =>
  br r_ (
    (i_in t.Queries (1 : Int) (8 : Int)).bind fun r_2 =>
    br r_2 (
      (i_in t.Grind (0 : Int) (12 : Int)).bind fun r_3 =>
      some r_3) (
      some false)) (
    some false)
theorem i_SettingOK_c {t r} (h : i_SettingOK t = some r) : Call tab ow 129 [.agg [I t.Rate, I t.Queries, I t.Grind]] [] = some (B r, []) := by
  rw [Call_run (af := a_i_SettingOK) rfl]
  unfold i_SettingOK at h
  simp +decide only [a_i_SettingOK, b_i_SettingOK, go_sem, reduceIte, Nat.reduceAdd]
  have d1 := @i_in_c
  all_goals exact go
noncomputable def i_FieldOK (a : Int) : Option (Bool) :=
  (i_in a (0 : Int) (2130706432 : Int)).bind fun r_ =>
  some r_
theorem i_FieldOK_c {a r} (h : i_FieldOK a = some r) : Call tab ow 158 [I a] [] = some (B r, []) := by
  rw [Call_run (af := a_i_FieldOK) rfl]
  unfold i_FieldOK at h
  simp +decide only [a_i_FieldOK, b_i_FieldOK, go_sem, reduceIte, Nat.reduceAdd]
  have d1 := @i_in_c
  all_goals exact go
noncomputable def i_ExtOK (a : Ext) : Option (Bool) :=
  (i_FieldOK a.A).bind fun r_ =>
  br r_ (
    (i_FieldOK a.B).bind fun r_2 =>
    some r_2) (
    some false)
theorem i_ExtOK_c {a r} (h : i_ExtOK a = some r) : Call tab ow 74 [.agg [I a.A, I a.B]] [] = some (B r, []) := by
  rw [Call_run (af := a_i_ExtOK) rfl]
  unfold i_ExtOK at h
  simp +decide only [a_i_ExtOK, b_i_ExtOK, go_sem, reduceIte, Nat.reduceAdd]
  have d1 := @i_FieldOK_c
  all_goals exact go
noncomputable def i_are_i_Ext_1_ExtOK (x : Ext) : Option (Bool) :=
  (i_ExtOK x).bind fun r_ =>
  some (!r_)
theorem i_are_i_Ext_1_ExtOK_c {x r} (h : i_are_i_Ext_1_ExtOK x = some r) : Call tab ow 170 [.agg [I x.A, I x.B], .ptr 0 0 0 1] [⟨1, true, [[.fn 74 []]]⟩] = some (B r, [⟨1, true, [[.fn 74 []]]⟩]) := by
  rw [Call_run (af := a_i_are_i_Ext_1) rfl]
  unfold i_are_i_Ext_1_ExtOK at h
  simp +decide only [a_i_are_i_Ext_1, b_i_are_i_Ext_1, go_sem, reduceIte, Nat.reduceAdd]
  have d1 := @i_ExtOK_c
  all_goals exact go
noncomputable def slices_IndexFunc_Li_Ext_i_Ext_are_i_Ext_1_ExtOK_1_s (s2 : List Ext) (t : Int) : Int → Option ((Int) ⊕ (Int ⊕ (Int × Bool)))
  | t2 =>
    br (decide (t2 < t)) (
      (atL s2 t2).bind fun x =>
      (i_are_i_Ext_1_ExtOK x).bind fun r_ =>
      br r_ (
        some (.inr (.inl t2))) (
        some (.inl (IntKind.wrap .i64 (t2 + (1 : Int)))))) (
      some (.inr (.inr (t2, decide (t2 < t)))))
@[reducible] def slices_IndexFunc_Li_Ext_i_Ext_are_i_Ext_1_ExtOK_1_S (s2 : List Ext) (t : Int) (s : Int) : St := ⟨[(0, sl eExt s2), (1, .fn 170 [.ptr 0 0 0 1]), (7, I t), (8, I s)], [(0, ⟨1, true, [[.fn 74 []]]⟩)]⟩
@[reducible] def slices_IndexFunc_Li_Ext_i_Ext_are_i_Ext_1_ExtOK_1_E (s2 : List Ext) (t : Int) : (Int ⊕ (Int × Bool)) → AExit × St := alt (fun e => ((.ret, ⟨[(4, I e)], [(0, ⟨1, true, [[.fn 74 []]]⟩)]⟩) : AExit × St)) (fun e => (.exit 0, ⟨[(0, sl eExt s2), (1, .fn 170 [.ptr 0 0 0 1]), (7, I t), (8, I e.1), (9, B e.2)], [(0, ⟨1, true, [[.fn 74 []]]⟩)]⟩))
theorem slices_IndexFunc_Li_Ext_i_Ext_are_i_Ext_1_ExtOK_1_l {s2 t s e} (h : Loop (slices_IndexFunc_Li_Ext_i_Ext_are_i_Ext_1_ExtOK_1_s s2 t) s = some e) : LoopX tab ow (.close [5005]) b_slices_IndexFunc_Li_Ext_i_Ext_2 (slices_IndexFunc_Li_Ext_i_Ext_are_i_Ext_1_ExtOK_1_S s2 t s) = some (slices_IndexFunc_Li_Ext_i_Ext_are_i_Ext_1_ExtOK_1_E s2 t e) := by
  refine lrG (fun s o h => ?_) h
  simp only [slices_IndexFunc_Li_Ext_i_Ext_are_i_Ext_1_ExtOK_1_s] at h
  simp +decide only [slices_IndexFunc_Li_Ext_i_Ext_are_i_Ext_1_ExtOK_1_S, slices_IndexFunc_Li_Ext_i_Ext_are_i_Ext_1_ExtOK_1_E, b_slices_IndexFunc_Li_Ext_i_Ext_2, go_sem, reduceIte, Nat.reduceAdd]
  have d1 := @i_are_i_Ext_1_ExtOK_c
  all_goals exact go
noncomputable def slices_IndexFunc_Li_Ext_i_Ext_are_i_Ext_1_ExtOK (s : (List Ext)) : Option (Int) :=
  (Loop (slices_IndexFunc_Li_Ext_i_Ext_are_i_Ext_1_ExtOK_1_s s ((s.length : Nat) : Int)) (0 : Int)).bind (alt (fun e_2 =>
    some e_2) (fun e_3 =>
    some (-1 : Int)))
theorem slices_IndexFunc_Li_Ext_i_Ext_are_i_Ext_1_ExtOK_c {s r} (h : slices_IndexFunc_Li_Ext_i_Ext_are_i_Ext_1_ExtOK s = some r) : Call tab ow 247 [sl eExt s, .fn 170 [.ptr 0 0 0 1]] [⟨1, true, [[.fn 74 []]]⟩] = some (I r, [⟨1, true, [[.fn 74 []]]⟩]) := by
  rw [Call_run (af := a_slices_IndexFunc_Li_Ext_i_Ext) rfl]
  unfold slices_IndexFunc_Li_Ext_i_Ext_are_i_Ext_1_ExtOK at h
  simp +decide only [a_slices_IndexFunc_Li_Ext_i_Ext, b_slices_IndexFunc_Li_Ext_i_Ext, go_sem, reduceIte, Nat.reduceAdd]
  have d1 := @slices_IndexFunc_Li_Ext_i_Ext_are_i_Ext_1_ExtOK_1_l
  all_goals exact go
noncomputable def slices_ContainsFunc_Li_Ext_i_Ext_are_i_Ext_1_ExtOK (s : (List Ext)) : Option (Bool) :=
  (slices_IndexFunc_Li_Ext_i_Ext_are_i_Ext_1_ExtOK s).bind fun r_ =>
  some (decide (r_ ≥ (0 : Int)))
theorem slices_ContainsFunc_Li_Ext_i_Ext_are_i_Ext_1_ExtOK_c {s r} (h : slices_ContainsFunc_Li_Ext_i_Ext_are_i_Ext_1_ExtOK s = some r) : Call tab ow 169 [sl eExt s, .fn 170 [.ptr 0 0 0 1]] [⟨1, true, [[.fn 74 []]]⟩] = some (B r, [⟨1, true, [[.fn 74 []]]⟩]) := by
  rw [Call_run (af := a_slices_ContainsFunc_Li_Ext_i_Ext) rfl]
  unfold slices_ContainsFunc_Li_Ext_i_Ext_are_i_Ext_1_ExtOK at h
  simp +decide only [a_slices_ContainsFunc_Li_Ext_i_Ext, b_slices_ContainsFunc_Li_Ext_i_Ext, go_sem, reduceIte, Nat.reduceAdd]
  have d1 := @slices_IndexFunc_Li_Ext_i_Ext_are_i_Ext_1_ExtOK_c
  all_goals exact go
noncomputable def i_are_i_Ext_ExtOK (list : (List Ext)) : Option (Bool) :=
  (slices_ContainsFunc_Li_Ext_i_Ext_are_i_Ext_1_ExtOK list).bind fun r_ =>
  some (!r_)
theorem i_are_i_Ext_ExtOK_c {list r} (h : i_are_i_Ext_ExtOK list = some r) : Call tab ow 73 [.fn 74 [], sl eExt list] [] = some (B r, []) := by
  rw [Call_run (af := a_i_are_i_Ext) rfl]
  unfold i_are_i_Ext_ExtOK at h
  simp +decide only [a_i_are_i_Ext, b_i_are_i_Ext, go_sem, reduceIte, Nat.reduceAdd]
  have d1 := @slices_ContainsFunc_Li_Ext_i_Ext_are_i_Ext_1_ExtOK_c
  all_goals exact go
noncomputable def i_isHash (h_ : (List UInt8)) : Option (Bool) :=
  some (((h_.length : Nat) : Int) == (32 : Int))
theorem i_isHash_c {h_ r} (h : i_isHash h_ = some r) : Call tab ow 178 [S h_] [] = some (B r, []) := by
  rw [Call_run (af := a_i_isHash) rfl]
  unfold i_isHash at h
  simp +decide only [a_i_isHash, b_i_isHash, go_sem, reduceIte, Nat.reduceAdd]
  all_goals exact go
section
theorem i_four_o_k0 : mkR 2012 [] = rws eU8 [] := rfl
attribute [local go_sem] i_four_o_k0
noncomputable def i_four_o (n : Int) (l : List UInt8) : Option ((List UInt8)) :=
  br (fits ((l ++ ([(UInt8.ofInt (shr64 .i64 n (24 : Int))), (UInt8.ofInt (shr64 .i64 n (16 : Int))), (UInt8.ofInt (shr64 .i64 n (8 : Int))), (UInt8.ofInt n)] : List UInt8)).length) 1) (
    some (l ++ ([(UInt8.ofInt (shr64 .i64 n (24 : Int))), (UInt8.ofInt (shr64 .i64 n (16 : Int))), (UInt8.ofInt (shr64 .i64 n (8 : Int))), (UInt8.ofInt n)] : List UInt8))) (
    none)
theorem i_four_o_c {n l r} (h : i_four_o n l = some r) : Call tab ow 161 [.sl 0 0 l.length, I n] [⟨1, false, rws eU8 l⟩] = some (.sl 0 0 r.length, [⟨1, false, rws eU8 r⟩]) := by
  rw [Call_run (af := a_i_four) rfl]
  unfold i_four_o at h
  simp +decide only [a_i_four, b_i_four, go_sem, reduceIte, Nat.reduceAdd]
  all_goals exact go
end
noncomputable def s_l01In (n : Int) (low : Int) (high : Int) : Option (Bool) :=
  br (decide (low ≤ n)) (
    some (decide (n ≤ high))) (
    some false)
theorem s_l01In_c {n low high r} (h : s_l01In n low high = some r) : Call tab ow 103 [I n, I low, I high] [] = some (B r, []) := by
  rw [Call_run (af := a_s_l01In) rfl]
  unfold s_l01In at h
  simp +decide only [a_s_l01In, b_s_l01In, go_sem, reduceIte, Nat.reduceAdd]
  all_goals exact go
noncomputable def s_SettingOK (t : Setting) : Option (Bool) :=
  (s_l01In t.Rate (1 : Int) (3 : Int)).bind fun r_ =>
  br r_ (
    (s_l01In t.Queries (1 : Int) (8 : Int)).bind fun r_2 =>
    br r_2 (
      (s_l01In t.Grind (0 : Int) (12 : Int)).bind fun r_3 =>
      some r_3) (
      some false)) (
    some false)
theorem s_SettingOK_c {t r} (h : s_SettingOK t = some r) : Call tab ow 114 [.agg [I t.Rate, I t.Queries, I t.Grind]] [] = some (B r, []) := by
  rw [Call_run (af := a_s_SettingOK) rfl]
  unfold s_SettingOK at h
  simp +decide only [a_s_SettingOK, b_s_SettingOK, go_sem, reduceIte, Nat.reduceAdd]
  have d1 := @s_l01In_c
  all_goals exact go
noncomputable def s_FieldOK (a : Int) : Option (Bool) :=
  (s_l01In a (0 : Int) (2130706432 : Int)).bind fun r_ =>
  some r_
theorem s_FieldOK_c {a r} (h : s_FieldOK a = some r) : Call tab ow 185 [I a] [] = some (B r, []) := by
  rw [Call_run (af := a_s_FieldOK) rfl]
  unfold s_FieldOK at h
  simp +decide only [a_s_FieldOK, b_s_FieldOK, go_sem, reduceIte, Nat.reduceAdd]
  have d1 := @s_l01In_c
  all_goals exact go
noncomputable def s_ExtOK (a : Ext) : Option (Bool) :=
  (s_FieldOK a.A).bind fun r_ =>
  br r_ (
    (s_FieldOK a.B).bind fun r_2 =>
    some r_2) (
    some false)
theorem s_ExtOK_c {a r} (h : s_ExtOK a = some r) : Call tab ow 100 [.agg [I a.A, I a.B]] [] = some (B r, []) := by
  rw [Call_run (af := a_s_ExtOK) rfl]
  unfold s_ExtOK at h
  simp +decide only [a_s_ExtOK, b_s_ExtOK, go_sem, reduceIte, Nat.reduceAdd]
  have d1 := @s_FieldOK_c
  all_goals exact go
noncomputable def s_l02List_1_s (list2 : List Ext) : Int → Option ((Int) ⊕ (Unit ⊕ (Int × Bool)))
  | i =>
    br (decide (i < ((list2.length : Nat) : Int))) (
      (atL list2 i).bind fun x =>
      (s_ExtOK x).bind fun r_ =>
      br (!r_) (
        some (.inr (.inl ()))) (
        some (.inl (IntKind.wrap .i64 (i + (1 : Int)))))) (
      some (.inr (.inr (i, decide (i < ((list2.length : Nat) : Int))))))
@[reducible] def s_l02List_1_S (list2 : List Ext) (s : Int) : St := ⟨[(0, sl eExt list2), (3, I s)], []⟩
@[reducible] def s_l02List_1_E (list2 : List Ext) : (Unit ⊕ (Int × Bool)) → AExit × St := alt (fun e => ((.ret, ⟨[(2, B false)], []⟩) : AExit × St)) (fun e => (.exit 0, ⟨[(0, sl eExt list2), (3, I e.1), (7, B e.2)], []⟩))
theorem s_l02List_1_l {list2 s e} (h : Loop (s_l02List_1_s list2) s = some e) : LoopX tab ow (.close [5004]) b_s_l02List_2 (s_l02List_1_S list2 s) = some (s_l02List_1_E list2 e) := by
  refine lrG (fun s o h => ?_) h
  simp only [s_l02List_1_s] at h
  simp +decide only [s_l02List_1_S, s_l02List_1_E, b_s_l02List_2, go_sem, reduceIte, Nat.reduceAdd]
  have d1 := @s_ExtOK_c
  all_goals exact go
noncomputable def s_l02List (list : (List Ext)) : Option (Bool) :=
  (Loop (s_l02List_1_s list) (0 : Int)).bind (alt (fun e_2 =>
    some false) (fun e_3 =>
    some true))
theorem s_l02List_c {list r} (h : s_l02List list = some r) : Call tab ow 184 [sl eExt list] [] = some (B r, []) := by
  rw [Call_run (af := a_s_l02List) rfl]
  unfold s_l02List at h
  simp +decide only [a_s_l02List, b_s_l02List, go_sem, reduceIte, Nat.reduceAdd]
  have d1 := @s_l02List_1_l
  all_goals exact go
noncomputable def s_SourceOK (s : Source) : Option (Bool) :=
  br (decide (((s.Script.length : Nat) : Int) ≤ (64 : Int))) (
    (s_l02List s.Script).bind fun r_ =>
    br r_ (
      (s_l01In s.At (0 : Int) (1000000 : Int)).bind fun r_2 =>
      br r_2 (
        br (((s.State.length : Nat) : Int) == (32 : Int)) (
          (s_l01In s.Count (0 : Int) (1000000 : Int)).bind fun r_3 =>
          some r_3) (
          some false)) (
        some false)) (
      some false)) (
    some false)
theorem s_SourceOK_c {s r} (h : s_SourceOK s = some r) : Call tab ow 101 [.agg [sl eExt s.Script, I s.At, S s.State, I s.Count]] [] = some (B r, []) := by
  rw [Call_run (af := a_s_SourceOK) rfl]
  unfold s_SourceOK at h
  simp +decide only [a_s_SourceOK, b_s_SourceOK, go_sem, reduceIte, Nat.reduceAdd]
  have d1 := @s_l02List_c
  have d2 := @s_l01In_c
  all_goals exact go
noncomputable def s_l05Spent (s : Source) (n : Int) : Option (Bool) :=
  br (decide (s.At > (IntKind.wrap .i64 ((1000000 : Int) - n)))) (
    some true) (
    some (decide (s.Count > (IntKind.wrap .i64 ((1000000 : Int) - n)))))
theorem s_l05Spent_c {s n r} (h : s_l05Spent s n = some r) : Call tab ow 104 [.agg [sl eExt s.Script, I s.At, S s.State, I s.Count], I n] [] = some (B r, []) := by
  rw [Call_run (af := a_s_l05Spent) rfl]
  unfold s_l05Spent at h
  simp +decide only [a_s_l05Spent, b_s_l05Spent, go_sem, reduceIte, Nat.reduceAdd]
  all_goals exact go
noncomputable def s_ExtsOf (code : (List UInt8)) (n : Int) : Option ((List Ext)) :=
  (s_l00Source code).bind fun r_ =>
  (s_l00Src_exts n r_).bind fun r_2 =>
  some r_2.1
theorem s_ExtsOf_c {code n r} (h : s_ExtsOf code n = some r) : Call tab ow 15 [sl eU8 code, I n] [] = some (sl eExt r, []) := by
  rw [Call_run (af := a_s_ExtsOf) rfl]
  unfold s_ExtsOf at h
  simp +decide only [a_s_ExtsOf, b_s_ExtsOf, go_sem, reduceIte, Nat.reduceAdd]
  have d1 := @s_l00Source_c
  have d2 := @s_l00Src_exts_c
  all_goals exact go
noncomputable def w_sameExts_1_s (a2 : List Ext) (b2 : List Ext) : Int → Option ((Int) ⊕ (Unit ⊕ (Int × Bool)))
  | i =>
    br (decide (i < ((a2.length : Nat) : Int))) (
      (atL a2 i).bind fun x =>
      (atL b2 i).bind fun x2 =>
      br (x.A == x2.A) (
        br (x.B == x2.B) (
          some (.inl (IntKind.wrap .i64 (i + (1 : Int))))) (
          some (.inr (.inl ())))) (
        some (.inr (.inl ())))) (
      some (.inr (.inr (i, decide (i < ((a2.length : Nat) : Int))))))
@[reducible] def w_sameExts_1_S (a2 : List Ext) (b2 : List Ext) (s : Int) : St := ⟨[(0, sl eExt a2), (1, sl eExt b2), (5, I s)], []⟩
@[reducible] def w_sameExts_1_E (a2 : List Ext) (b2 : List Ext) : (Unit ⊕ (Int × Bool)) → AExit × St := alt (fun e => ((.ret, ⟨[(4, B false)], []⟩) : AExit × St)) (fun e => (.exit 0, ⟨[(0, sl eExt a2), (1, sl eExt b2), (5, I e.1), (14, B e.2)], []⟩))
theorem w_sameExts_1_l {a2 b2 s e} (h : Loop (w_sameExts_1_s a2 b2) s = some e) : LoopX tab ow (.close []) b_w_sameExts_4 (w_sameExts_1_S a2 b2 s) = some (w_sameExts_1_E a2 b2 e) := by
  refine lrG (fun s o h => ?_) h
  simp only [w_sameExts_1_s] at h
  simp +decide only [w_sameExts_1_S, w_sameExts_1_E, b_w_sameExts_4, go_sem, reduceIte, Nat.reduceAdd]
  all_goals exact go
noncomputable def w_sameExts (a : (List Ext)) (b : (List Ext)) : Option (Bool) :=
  br (((a.length : Nat) : Int) != ((b.length : Nat) : Int)) (
    some false) (
    (Loop (w_sameExts_1_s a b) (0 : Int)).bind (alt (fun e_2 =>
      some false) (fun e_3 =>
      some true)))
theorem w_sameExts_c {a b r} (h : w_sameExts a b = some r) : Call tab ow 33 [sl eExt a, sl eExt b] [] = some (B r, []) := by
  rw [Call_run (af := a_w_sameExts) rfl]
  unfold w_sameExts at h
  simp +decide only [a_w_sameExts, b_w_sameExts, go_sem, reduceIte, Nat.reduceAdd]
  have d1 := @w_sameExts_1_l
  all_goals exact go
noncomputable def w_at (more : (List UInt8)) (i : Int) (n : Int) : Option (Int) :=
  br (decide (n ≤ (1 : Int))) (
    some (0 : Int)) (
    br (((more.length : Nat) : Int) == (0 : Int)) (
      br (decide (n ≠ 0)) (
        some ((IntKind.wrap .i64 (i * (7 : Int))).tmod n)) (
        none)) (
      br (decide (((more.length : Nat) : Int) ≠ 0)) (
        (atL more (i.tmod ((more.length : Nat) : Int))).bind fun x =>
        br (decide (((more.length : Nat) : Int) ≠ 0)) (
          (atL more ((IntKind.wrap .i64 (i + (1 : Int))).tmod ((more.length : Nat) : Int))).bind fun x2 =>
          br (decide (((more.length : Nat) : Int) ≠ 0)) (
            br (decide (n ≠ 0)) (
              some ((IntKind.wrap .i64 ((IntKind.wrap .i64 ((IntKind.wrap .i64 ((IntKind.wrap .i64 (x.toNat : Int)) * (31 : Int))) + (IntKind.wrap .i64 (x2.toNat : Int)))) + (IntKind.wrap .i64 (i.tdiv ((more.length : Nat) : Int))))).tmod n)) (
              none)) (
            none)) (
          none)) (
        none)))
theorem w_at_c {more i n r} (h : w_at more i n = some r) : Call tab ow 21 [sl eU8 more, I i, I n] [] = some (I r, []) := by
  rw [Call_run (af := a_w_at) rfl]
  unfold w_at at h
  simp +decide only [a_w_at, b_w_at, go_sem, reduceIte, Nat.reduceAdd]
  all_goals exact go
section
theorem i_extBytes_k0 : mkR 2000 [] = rws eU8 [] := rfl
attribute [local go_sem] i_extBytes_k0
noncomputable def i_extBytes_1_s (t : List Ext) (t2 : Int) : (List UInt8) × Int → Option (((List UInt8) × Int) ⊕ (((List UInt8) × Int × Bool)))
  | (l, t3) =>
    br (decide (t3 < t2)) (
      (atL t t3).bind fun x =>
      (i_four_o x.A l).bind fun r_ =>
      (i_four_o x.B r_).bind fun r_2 =>
      some (.inl (r_2, (IntKind.wrap .i64 (t3 + (1 : Int)))))) (
      some (.inr (l, t3, decide (t3 < t2))))
@[reducible] def i_extBytes_1_S (t : List Ext) (t2 : Int) (s : (List UInt8) × Int) : St := ⟨[(3, .sl 2000 0 s.1.length), (7, sl eExt t), (8, I t2), (9, I s.2)], [(2000, ⟨1, false, rws eU8 s.1⟩)]⟩
@[reducible] def i_extBytes_1_E (t : List Ext) (t2 : Int) : ((List UInt8) × Int × Bool) → AExit × St := fun e => (.exit 0, ⟨[(3, .sl 2000 0 e.1.length), (7, sl eExt t), (8, I t2), (9, I e.2.1), (10, B e.2.2)], [(2000, ⟨1, false, rws eU8 e.1⟩)]⟩)
theorem i_extBytes_1_l {t t2 s e} (h : Loop (i_extBytes_1_s t t2) s = some e) : LoopX tab ow (.close [5002,6003,6006]) b_i_extBytes_3 (i_extBytes_1_S t t2 s) = some (i_extBytes_1_E t t2 e) := by
  refine lrG (fun s o h => ?_) h
  obtain ⟨_, _⟩ := s
  simp only [i_extBytes_1_s] at h
  simp +decide only [i_extBytes_1_S, i_extBytes_1_E, b_i_extBytes_3, go_sem, reduceIte, Nat.reduceAdd]
  have d1 := @i_four_o_c
  all_goals exact go
noncomputable def i_extBytes (list : (List Ext)) : Option ((List UInt8)) :=
  (Loop (i_extBytes_1_s list ((list.length : Nat) : Int)) (([] : List UInt8), (0 : Int))).bind fun e_ =>
  some e_.1
theorem i_extBytes_c {list r} (h : i_extBytes list = some r) : Call tab ow 209 [sl eExt list] [] = some (sl eU8 r, []) := by
  rw [Call_run (af := a_i_extBytes) rfl]
  unfold i_extBytes at h
  simp +decide only [a_i_extBytes, b_i_extBytes, go_sem, reduceIte, Nat.reduceAdd]
  have d1 := @i_extBytes_1_l
  all_goals exact go
end
noncomputable def s_l08Degree (kind : Int) : Option (Int) :=
  some (IntKind.wrap .i64 (kind + (1 : Int)))
theorem s_l08Degree_c {kind r} (h : s_l08Degree kind = some r) : Call tab ow 186 [I kind] [] = some (I r, []) := by
  rw [Call_run (af := a_s_l08Degree) rfl]
  unfold s_l08Degree at h
  simp +decide only [a_s_l08Degree, b_s_l08Degree, go_sem, reduceIte, Nat.reduceAdd]
  all_goals exact go
noncomputable def s_l01Add (a : Int) (b : Int) : Option (Int) :=
  some ((IntKind.wrap .i64 (a + b)).tmod (2130706433 : Int))
theorem s_l01Add_c {a b r} (h : s_l01Add a b = some r) : Call tab ow 254 [I a, I b] [] = some (I r, []) := by
  rw [Call_run (af := a_s_l01Add) rfl]
  unfold s_l01Add at h
  simp +decide only [a_s_l01Add, b_s_l01Add, go_sem, reduceIte, Nat.reduceAdd]
  all_goals exact go
noncomputable def s_l02Add (a : Ext) (b : Ext) : Option (Ext) :=
  (s_l01Add a.A b.A).bind fun r_ =>
  (s_l01Add a.B b.B).bind fun r_2 =>
  some (Ext.mk r_ r_2)
theorem s_l02Add_c {a b r} (h : s_l02Add a b = some r) : Call tab ow 187 [.agg [I a.A, I a.B], .agg [I b.A, I b.B]] [] = some (.agg [I r.A, I r.B], []) := by
  rw [Call_run (af := a_s_l02Add) rfl]
  unfold s_l02Add at h
  simp +decide only [a_s_l02Add, b_s_l02Add, go_sem, reduceIte, Nat.reduceAdd]
  have d1 := @s_l01Add_c
  all_goals exact go
section
theorem s_l02Bytes_k0 : mkR 2000 [] = rws eU8 [] := rfl
attribute [local go_sem] s_l02Bytes_k0
noncomputable def s_l02Bytes_1_s (list2 : List Ext) : (List UInt8) × Int → Option (((List UInt8) × Int) ⊕ (((List UInt8) × Int × Bool)))
  | (l, i) =>
    br (decide (i < ((list2.length : Nat) : Int))) (
      (atL list2 i).bind fun x =>
      (s_l02Number x.A (4 : Int)).bind fun r_ =>
      br (fits ((l ++ r_).length) 1) (
        (atL list2 i).bind fun x2 =>
        (s_l02Number x2.B (4 : Int)).bind fun r_2 =>
        br (fits (((l ++ r_) ++ r_2).length) 1) (
          some (.inl (((l ++ r_) ++ r_2), (IntKind.wrap .i64 (i + (1 : Int)))))) (
          none)) (
        none)) (
      some (.inr (l, i, decide (i < ((list2.length : Nat) : Int)))))
@[reducible] def s_l02Bytes_1_S (list2 : List Ext) (s : (List UInt8) × Int) : St := ⟨[(0, sl eExt list2), (3, .sl 2000 0 s.1.length), (4, I s.2)], [(2000, ⟨1, false, rws eU8 s.1⟩)]⟩
@[reducible] def s_l02Bytes_1_E (list2 : List Ext) : ((List UInt8) × Int × Bool) → AExit × St := fun e => (.exit 0, ⟨[(0, sl eExt list2), (3, .sl 2000 0 e.1.length), (4, I e.2.1), (9, B e.2.2)], [(2000, ⟨1, false, rws eU8 e.1⟩)]⟩)
theorem s_l02Bytes_1_l {list2 s e} (h : Loop (s_l02Bytes_1_s list2) s = some e) : LoopX tab ow (.close [6006,6007,6013,6014]) b_s_l02Bytes_3 (s_l02Bytes_1_S list2 s) = some (s_l02Bytes_1_E list2 e) := by
  refine lrG (fun s o h => ?_) h
  obtain ⟨_, _⟩ := s
  simp only [s_l02Bytes_1_s] at h
  simp +decide only [s_l02Bytes_1_S, s_l02Bytes_1_E, b_s_l02Bytes_3, go_sem, reduceIte, Nat.reduceAdd]
  have d1 := @s_l02Number_c
  all_goals exact go
noncomputable def s_l02Bytes (list : (List Ext)) : Option ((List UInt8)) :=
  (Loop (s_l02Bytes_1_s list) (([] : List UInt8), (0 : Int))).bind fun e_ =>
  some e_.1
theorem s_l02Bytes_c {list r} (h : s_l02Bytes list = some r) : Call tab ow 210 [sl eExt list] [] = some (sl eU8 r, []) := by
  rw [Call_run (af := a_s_l02Bytes) rfl]
  unfold s_l02Bytes at h
  simp +decide only [a_s_l02Bytes, b_s_l02Bytes, go_sem, reduceIte, Nat.reduceAdd]
  have d1 := @s_l02Bytes_1_l
  all_goals exact go
end
noncomputable def s_l05Exts (s : Source) (list : (List Ext)) : Option (Source) :=
  (s_l02Bytes list).bind fun r_ =>
  (s_l05Absorb s r_).bind fun r_2 =>
  some r_2
theorem s_l05Exts_c {s list r} (h : s_l05Exts s list = some r) : Call tab ow 188 [.agg [sl eExt s.Script, I s.At, S s.State, I s.Count], sl eExt list] [] = some (.agg [sl eExt r.Script, I r.At, S r.State, I r.Count], []) := by
  rw [Call_run (af := a_s_l05Exts) rfl]
  unfold s_l05Exts at h
  simp +decide only [a_s_l05Exts, b_s_l05Exts, go_sem, reduceIte, Nat.reduceAdd]
  have d1 := @s_l02Bytes_c
  have d2 := @s_l05Absorb_c
  all_goals exact go
noncomputable def s_l02Of (n : Int) : Option (Ext) :=
  some (Ext.mk n (0 : Int))
theorem s_l02Of_c {n r} (h : s_l02Of n = some r) : Call tab ow 257 [I n] [] = some (.agg [I r.A, I r.B], []) := by
  rw [Call_run (af := a_s_l02Of) rfl]
  unfold s_l02Of at h
  simp +decide only [a_s_l02Of, b_s_l02Of, go_sem, reduceIte, Nat.reduceAdd]
  all_goals exact go
noncomputable def s_l01Sub (a : Int) (b : Int) : Option (Int) :=
  some ((IntKind.wrap .i64 ((IntKind.wrap .i64 (a + (2130706433 : Int))) - b)).tmod (2130706433 : Int))
theorem s_l01Sub_c {a b r} (h : s_l01Sub a b = some r) : Call tab ow 259 [I a, I b] [] = some (I r, []) := by
  rw [Call_run (af := a_s_l01Sub) rfl]
  unfold s_l01Sub at h
  simp +decide only [a_s_l01Sub, b_s_l01Sub, go_sem, reduceIte, Nat.reduceAdd]
  all_goals exact go
noncomputable def s_l02Sub (a : Ext) (b : Ext) : Option (Ext) :=
  (s_l01Sub a.A b.A).bind fun r_ =>
  (s_l01Sub a.B b.B).bind fun r_2 =>
  some (Ext.mk r_ r_2)
theorem s_l02Sub_c {a b r} (h : s_l02Sub a b = some r) : Call tab ow 256 [.agg [I a.A, I a.B], .agg [I b.A, I b.B]] [] = some (.agg [I r.A, I r.B], []) := by
  rw [Call_run (af := a_s_l02Sub) rfl]
  unfold s_l02Sub at h
  simp +decide only [a_s_l02Sub, b_s_l02Sub, go_sem, reduceIte, Nat.reduceAdd]
  have d1 := @s_l01Sub_c
  all_goals exact go
noncomputable def s_l01Mul (a : Int) (b : Int) : Option (Int) :=
  some ((IntKind.wrap .i64 (a * b)).tmod (2130706433 : Int))
theorem s_l01Mul_c {a b r} (h : s_l01Mul a b = some r) : Call tab ow 258 [I a, I b] [] = some (I r, []) := by
  rw [Call_run (af := a_s_l01Mul) rfl]
  unfold s_l01Mul at h
  simp +decide only [a_s_l01Mul, b_s_l01Mul, go_sem, reduceIte, Nat.reduceAdd]
  all_goals exact go
noncomputable def s_l02Mul (a : Ext) (b : Ext) : Option (Ext) :=
  (s_l01Mul a.A b.A).bind fun r_ =>
  (s_l01Mul a.B b.B).bind fun r_2 =>
  (s_l01Add r_ ((IntKind.wrap .i64 ((3 : Int) * r_2)).tmod (2130706433 : Int))).bind fun r_3 =>
  (s_l01Mul a.A b.B).bind fun r_4 =>
  (s_l01Mul a.B b.A).bind fun r_5 =>
  (s_l01Add r_4 r_5).bind fun r_6 =>
  some (Ext.mk r_3 r_6)
theorem s_l02Mul_c {a b r} (h : s_l02Mul a b = some r) : Call tab ow 255 [.agg [I a.A, I a.B], .agg [I b.A, I b.B]] [] = some (.agg [I r.A, I r.B], []) := by
  rw [Call_run (af := a_s_l02Mul) rfl]
  unfold s_l02Mul at h
  simp +decide only [a_s_l02Mul, b_s_l02Mul, go_sem, reduceIte, Nat.reduceAdd]
  have d1 := @s_l01Mul_c
  have d2 := @s_l01Add_c
  all_goals exact go
noncomputable def s_l01Pow_1_s : Int × Int × Int → Option ((Int × Int × Int) ⊕ ((Int × Int × Int × Bool)))
  | (a2, n2, r_) =>
    br (decide (n2 > (0 : Int))) (
      br ((n2.tmod (2 : Int)) == (1 : Int)) (
        (s_l01Mul r_ a2).bind fun r_2 =>
        (s_l01Mul a2 a2).bind fun r_3 =>
        some (.inl (r_3, (IntKind.wrap .i64 (n2.tdiv (2 : Int))), r_2))) (
        (s_l01Mul a2 a2).bind fun r_4 =>
        some (.inl (r_4, (IntKind.wrap .i64 (n2.tdiv (2 : Int))), r_)))) (
      some (.inr (a2, n2, r_, decide (n2 > (0 : Int)))))
@[reducible] def s_l01Pow_1_S (s : Int × Int × Int) : St := ⟨[(0, I s.1), (1, I s.2.1), (5, I s.2.2)], []⟩
@[reducible] def s_l01Pow_1_E : (Int × Int × Int × Bool) → AExit × St := fun e => (.exit 0, ⟨[(0, I e.1), (1, I e.2.1), (5, I e.2.2.1), (7, B e.2.2.2)], []⟩)
theorem s_l01Pow_1_l { s e} (h : Loop (s_l01Pow_1_s) s = some e) : LoopX tab ow (.close [5002,6002]) b_s_l01Pow_2 (s_l01Pow_1_S s) = some (s_l01Pow_1_E e) := by
  refine lrG (fun s o h => ?_) h
  obtain ⟨_, _, _⟩ := s
  simp only [s_l01Pow_1_s] at h
  simp +decide only [s_l01Pow_1_S, s_l01Pow_1_E, b_s_l01Pow_2, go_sem, reduceIte, Nat.reduceAdd]
  have d1 := @s_l01Mul_c
  all_goals exact go
noncomputable def s_l01Pow (a : Int) (n : Int) : Option (Int) :=
  (Loop (s_l01Pow_1_s) (a, n, (1 : Int))).bind fun e_ =>
  some e_.2.2.1
theorem s_l01Pow_c {a n r} (h : s_l01Pow a n = some r) : Call tab ow 294 [I a, I n] [] = some (I r, []) := by
  rw [Call_run (af := a_s_l01Pow) rfl]
  unfold s_l01Pow at h
  simp +decide only [a_s_l01Pow, b_s_l01Pow, go_sem, reduceIte, Nat.reduceAdd]
  have d1 := @s_l01Pow_1_l
  all_goals exact go
noncomputable def s_l01Inverse (a : Int) : Option (Int) :=
  (s_l01Pow a (2130706431 : Int)).bind fun r_ =>
  some r_
theorem s_l01Inverse_c {a r} (h : s_l01Inverse a = some r) : Call tab ow 260 [I a] [] = some (I r, []) := by
  rw [Call_run (af := a_s_l01Inverse) rfl]
  unfold s_l01Inverse at h
  simp +decide only [a_s_l01Inverse, b_s_l01Inverse, go_sem, reduceIte, Nat.reduceAdd]
  have d1 := @s_l01Pow_c
  all_goals exact go
noncomputable def s_l04Power_1_s (n2 : Int) (most2 : Int) : Int → Option ((Int) ⊕ (Unit ⊕ (Int × Bool)))
  | k =>
    br (decide (k ≤ most2)) (
      br (n2 == k) (
        some (.inr (.inl ()))) (
        some (.inl (IntKind.wrap .i64 (k * (2 : Int)))))) (
      some (.inr (.inr (k, decide (k ≤ most2)))))
@[reducible] def s_l04Power_1_S (n2 : Int) (most2 : Int) (s : Int) : St := ⟨[(0, I n2), (1, I most2), (5, I s)], []⟩
@[reducible] def s_l04Power_1_E (n2 : Int) (most2 : Int) : (Unit ⊕ (Int × Bool)) → AExit × St := alt (fun e => ((.ret, ⟨[(4, B true)], []⟩) : AExit × St)) (fun e => (.exit 0, ⟨[(0, I n2), (1, I most2), (5, I e.1), (8, B e.2)], []⟩))
theorem s_l04Power_1_l {n2 most2 s e} (h : Loop (s_l04Power_1_s n2 most2) s = some e) : LoopX tab ow (.close []) b_s_l04Power_2 (s_l04Power_1_S n2 most2 s) = some (s_l04Power_1_E n2 most2 e) := by
  refine lrG (fun s o h => ?_) h
  simp only [s_l04Power_1_s] at h
  simp +decide only [s_l04Power_1_S, s_l04Power_1_E, b_s_l04Power_2, go_sem, reduceIte, Nat.reduceAdd]
  all_goals exact go
noncomputable def s_l04Power (n : Int) (most : Int) : Option (Bool) :=
  (Loop (s_l04Power_1_s n most) (1 : Int)).bind (alt (fun e_2 =>
    some true) (fun e_3 =>
    some false))
theorem s_l04Power_c {n most r} (h : s_l04Power n most = some r) : Call tab ow 194 [I n, I most] [] = some (B r, []) := by
  rw [Call_run (af := a_s_l04Power) rfl]
  unfold s_l04Power at h
  simp +decide only [a_s_l04Power, b_s_l04Power, go_sem, reduceIte, Nat.reduceAdd]
  have d1 := @s_l04Power_1_l
  all_goals exact go
noncomputable def s_l06Table (n : Int) : Option (Bool) :=
  (s_l04Power n (64 : Int)).bind fun r_ =>
  some r_
theorem s_l06Table_c {n r} (h : s_l06Table n = some r) : Call tab ow 193 [I n] [] = some (B r, []) := by
  rw [Call_run (af := a_s_l06Table) rfl]
  unfold s_l06Table at h
  simp +decide only [a_s_l06Table, b_s_l06Table, go_sem, reduceIte, Nat.reduceAdd]
  have d1 := @s_l04Power_c
  all_goals exact go
noncomputable def s_TableOK (list : (List Ext)) : Option (Bool) :=
  br (decide (((list.length : Nat) : Int) > (4096 : Int))) (
    some false) (
    (s_l06Table ((list.length : Nat) : Int)).bind fun r_ =>
    br r_ (
      (s_l02List list).bind fun r_2 =>
      some r_2) (
      some false))
theorem s_TableOK_c {list r} (h : s_TableOK list = some r) : Call tab ow 112 [sl eExt list] [] = some (B r, []) := by
  rw [Call_run (af := a_s_TableOK) rfl]
  unfold s_TableOK at h
  simp +decide only [a_s_TableOK, b_s_TableOK, go_sem, reduceIte, Nat.reduceAdd]
  have d1 := @s_l06Table_c
  have d2 := @s_l02List_c
  all_goals exact go
noncomputable def s_l08Combine (kind : Int) (v : (List Ext)) : Option (Ext) :=
  br (kind == (1 : Int)) (
    (atL v (0 : Int)).bind fun x =>
    (atL v (1 : Int)).bind fun x2 =>
    (s_l02Mul x x2).bind fun r_ =>
    some r_) (
    (atL v (0 : Int)).bind fun x3 =>
    (atL v (1 : Int)).bind fun x4 =>
    (atL v (2 : Int)).bind fun x5 =>
    (s_l02Mul x4 x5).bind fun r_2 =>
    (atL v (3 : Int)).bind fun x6 =>
    (s_l02Sub r_2 x6).bind fun r_3 =>
    (s_l02Mul x3 r_3).bind fun r_4 =>
    some r_4)
theorem s_l08Combine_c {kind v r} (h : s_l08Combine kind v = some r) : Call tab ow 261 [I kind, sl eExt v] [] = some (.agg [I r.A, I r.B], []) := by
  rw [Call_run (af := a_s_l08Combine) rfl]
  unfold s_l08Combine at h
  simp +decide only [a_s_l08Combine, b_s_l08Combine, go_sem, reduceIte, Nat.reduceAdd]
  have d1 := @s_l02Mul_c
  have d2 := @s_l02Sub_c
  all_goals exact go
section
theorem s_l08At_k0 : mkR 2000 [] = rws eExt [] := rfl
attribute [local go_sem] s_l08At_k0
theorem s_l08At_k1 : mkR 6008 [] = rws eExt [] := rfl
attribute [local go_sem] s_l08At_k1
noncomputable def s_l08At_1_s (kind2 : Int) (tables2 : List (List Ext)) (k2 : Int) (c : Int) (c2 : Int) : (List Ext) × Int → Option (((List Ext) × Int) ⊕ (((List Ext) × Int × Bool)))
  | (l, i) =>
    br (decide (i < ((tables2.length : Nat) : Int))) (
      (atL tables2 i).bind fun x =>
      (atL x k2).bind fun x2 =>
      br (fits ((l ++ ([x2] : List Ext)).length) 16) (
        some (.inl ((l ++ ([x2] : List Ext)), (IntKind.wrap .i64 (i + (1 : Int)))))) (
        none)) (
      some (.inr (l, i, decide (i < ((tables2.length : Nat) : Int)))))
@[reducible] def s_l08At_1_S (kind2 : Int) (tables2 : List (List Ext)) (k2 : Int) (c : Int) (c2 : Int) (s : (List Ext) × Int) : St := ⟨[(0, I kind2), (1, sl (eL eExt) tables2), (2, I k2), (6, .ptr 1000 0 0 1), (7, .sl 2000 0 s.1.length), (8, I s.2)], [(1000, ⟨2, true, [[I c, I c2]]⟩), (2000, ⟨2, false, rws eExt s.1⟩)]⟩
@[reducible] def s_l08At_1_E (kind2 : Int) (tables2 : List (List Ext)) (k2 : Int) (c : Int) (c2 : Int) : ((List Ext) × Int × Bool) → AExit × St := fun e => (.exit 0, ⟨[(0, I kind2), (1, sl (eL eExt) tables2), (2, I k2), (6, .ptr 1000 0 0 1), (7, .sl 2000 0 e.1.length), (8, I e.2.1), (13, B e.2.2)], [(1000, ⟨2, true, [[I c, I c2]]⟩), (2000, ⟨2, false, rws eExt e.1⟩)]⟩)
theorem s_l08At_1_l {kind2 tables2 k2 c c2 s e} (h : Loop (s_l08At_1_s kind2 tables2 k2 c c2) s = some e) : LoopX tab ow (.close [6008,6009]) b_s_l08At_3 (s_l08At_1_S kind2 tables2 k2 c c2 s) = some (s_l08At_1_E kind2 tables2 k2 c c2 e) := by
  refine lrG (fun s o h => ?_) h
  obtain ⟨_, _⟩ := s
  simp only [s_l08At_1_s] at h
  simp +decide only [s_l08At_1_S, s_l08At_1_E, b_s_l08At_3, go_sem, reduceIte, Nat.reduceAdd]
  all_goals exact go
noncomputable def s_l08At (kind : Int) (tables : (List (List Ext))) (k : Int) : Option (Ext) :=
  (Loop (s_l08At_1_s kind tables k (0 : Int) (0 : Int)) (([] : List Ext), (0 : Int))).bind fun e_ =>
  (s_l08Combine kind e_.1).bind fun r_ =>
  some r_
theorem s_l08At_c {kind tables k r} (h : s_l08At kind tables k = some r) : Call tab ow 190 [I kind, sl (eL eExt) tables, I k] [] = some (.agg [I r.A, I r.B], []) := by
  rw [Call_run (af := a_s_l08At) rfl]
  unfold s_l08At at h
  simp +decide only [a_s_l08At, b_s_l08At, go_sem, reduceIte, Nat.reduceAdd]
  have d1 := @s_l08At_1_l
  have d2 := @s_l08Combine_c
  all_goals exact go
end
noncomputable def s_l08Sum_1_s (kind2 : Int) (tables2 : List (List Ext)) (c : Int) (c2 : Int) : Int × Int × Int → Option ((Int × Int × Int) ⊕ ((Int × Bool × Int × Int)))
  | (k, c3, c4) =>
    (atL tables2 (0 : Int)).bind fun x =>
    br (decide (k < ((x.length : Nat) : Int))) (
      (s_l08At kind2 tables2 k).bind fun r_ =>
      (s_l02Add (Ext.mk c3 c4) r_).bind fun r_2 =>
      some (.inl ((IntKind.wrap .i64 (k + (1 : Int))), r_2.A, r_2.B))) (
      some (.inr (k, decide (k < ((x.length : Nat) : Int)), c3, c4)))
@[reducible] def s_l08Sum_1_S (kind2 : Int) (tables2 : List (List Ext)) (c : Int) (c2 : Int) (s : Int × Int × Int) : St := ⟨[(0, I kind2), (1, sl (eL eExt) tables2), (4, .ptr 1000 0 0 1), (5, .ptr 2001 0 0 1), (6, I s.1)], [(1000, ⟨2, true, [[I c, I c2]]⟩), (2001, ⟨2, true, [[I s.2.1, I s.2.2]]⟩)]⟩
@[reducible] def s_l08Sum_1_E (kind2 : Int) (tables2 : List (List Ext)) (c : Int) (c2 : Int) : (Int × Bool × Int × Int) → AExit × St := fun e => (.exit 0, ⟨[(0, I kind2), (1, sl (eL eExt) tables2), (4, .ptr 1000 0 0 1), (5, .ptr 2001 0 0 1), (6, I e.1), (13, B e.2.1)], [(1000, ⟨2, true, [[I c, I c2]]⟩), (2001, ⟨2, true, [[I e.2.2.1, I e.2.2.2]]⟩)]⟩)
theorem s_l08Sum_1_l {kind2 tables2 c c2 s e} (h : Loop (s_l08Sum_1_s kind2 tables2 c c2) s = some e) : LoopX tab ow (.close [6004,6005]) b_s_l08Sum_3 (s_l08Sum_1_S kind2 tables2 c c2 s) = some (s_l08Sum_1_E kind2 tables2 c c2 e) := by
  refine lrG (fun s o h => ?_) h
  obtain ⟨_, _, _⟩ := s
  simp only [s_l08Sum_1_s] at h
  simp +decide only [s_l08Sum_1_S, s_l08Sum_1_E, b_s_l08Sum_3, go_sem, reduceIte, Nat.reduceAdd]
  have d1 := @s_l08At_c
  have d2 := @s_l02Add_c
  all_goals exact go
noncomputable def s_l08Sum (kind : Int) (tables : (List (List Ext))) : Option (Ext) :=
  (Loop (s_l08Sum_1_s kind tables (0 : Int) (0 : Int)) ((0 : Int), (0 : Int), (0 : Int))).bind fun e_ =>
  some (Ext.mk e_.2.2.1 e_.2.2.2)
theorem s_l08Sum_c {kind tables r} (h : s_l08Sum kind tables = some r) : Call tab ow 107 [I kind, sl (eL eExt) tables] [] = some (.agg [I r.A, I r.B], []) := by
  rw [Call_run (af := a_s_l08Sum) rfl]
  unfold s_l08Sum at h
  simp +decide only [a_s_l08Sum, b_s_l08Sum, go_sem, reduceIte, Nat.reduceAdd]
  have d1 := @s_l08Sum_1_l
  all_goals exact go
section
theorem s_l06Fold_k0 : mkR 2000 [] = rws eExt [] := rfl
attribute [local go_sem] s_l06Fold_k0
theorem s_l06Fold_k1 : mkR 6018 [] = rws eExt [] := rfl
attribute [local go_sem] s_l06Fold_k1
noncomputable def s_l06Fold_1_s (table2 : List Ext) (c : Int) (c2 : Int) : (List Ext) × Int → Option (((List Ext) × Int) ⊕ (((List Ext) × Int × Bool)))
  | (l, i) =>
    br (decide (i < ((table2.length : Nat) : Int))) (
      (atL table2 i).bind fun x =>
      (atL table2 (IntKind.wrap .i64 (i + (1 : Int)))).bind fun x2 =>
      (atL table2 i).bind fun x3 =>
      (s_l02Sub x2 x3).bind fun r_2 =>
      (s_l02Mul (Ext.mk c c2) r_2).bind fun r_3 =>
      (s_l02Add x r_3).bind fun r_4 =>
      br (fits ((l ++ ([r_4] : List Ext)).length) 16) (
        some (.inl ((l ++ ([r_4] : List Ext)), (IntKind.wrap .i64 (i + (2 : Int)))))) (
        none)) (
      some (.inr (l, i, decide (i < ((table2.length : Nat) : Int)))))
@[reducible] def s_l06Fold_1_S (table2 : List Ext) (c : Int) (c2 : Int) (s : (List Ext) × Int) : St := ⟨[(0, sl eExt table2), (3, .ptr 1000 0 0 1), (5, .sl 2000 0 s.1.length), (6, I s.2)], [(1000, ⟨2, true, [[I c, I c2]]⟩), (2000, ⟨2, false, rws eExt s.1⟩)]⟩
@[reducible] def s_l06Fold_1_E (table2 : List Ext) (c : Int) (c2 : Int) : ((List Ext) × Int × Bool) → AExit × St := fun e => (.exit 0, ⟨[(0, sl eExt table2), (3, .ptr 1000 0 0 1), (5, .sl 2000 0 e.1.length), (6, I e.2.1), (11, B e.2.2)], [(1000, ⟨2, true, [[I c, I c2]]⟩), (2000, ⟨2, false, rws eExt e.1⟩)]⟩)
theorem s_l06Fold_1_l {table2 c c2 s e} (h : Loop (s_l06Fold_1_s table2 c c2) s = some e) : LoopX tab ow (.close [6015,6016,6017,6018,6019]) b_s_l06Fold_3 (s_l06Fold_1_S table2 c c2 s) = some (s_l06Fold_1_E table2 c c2 e) := by
  refine lrG (fun s o h => ?_) h
  obtain ⟨_, _⟩ := s
  simp only [s_l06Fold_1_s] at h
  simp +decide only [s_l06Fold_1_S, s_l06Fold_1_E, b_s_l06Fold_3, go_sem, reduceIte, Nat.reduceAdd]
  have d1 := @s_l02Sub_c
  have d2 := @s_l02Mul_c
  have d3 := @s_l02Add_c
  all_goals exact go
noncomputable def s_l06Fold (table : (List Ext)) (r_ : Ext) : Option ((List Ext)) :=
  (Loop (s_l06Fold_1_s table r_.A r_.B) (([] : List Ext), (0 : Int))).bind fun e_ =>
  some e_.1
theorem s_l06Fold_c {table r_ r} (h : s_l06Fold table r_ = some r) : Call tab ow 262 [sl eExt table, .agg [I r_.A, I r_.B]] [] = some (sl eExt r, []) := by
  rw [Call_run (af := a_s_l06Fold) rfl]
  unfold s_l06Fold at h
  simp +decide only [a_s_l06Fold, b_s_l06Fold, go_sem, reduceIte, Nat.reduceAdd]
  have d1 := @s_l06Fold_1_l
  all_goals exact go
end
section
theorem s_l08Bind_k0 : mkR 2000 [] = rws (eL eExt) [] := rfl
attribute [local go_sem] s_l08Bind_k0
theorem s_l08Bind_k1 : mkR 6007 [] = rws (eL eExt) [] := rfl
attribute [local go_sem] s_l08Bind_k1
noncomputable def s_l08Bind_1_s (tables2 : List (List Ext)) (c : Int) (c2 : Int) : (List (List Ext)) × Int → Option (((List (List Ext)) × Int) ⊕ (((List (List Ext)) × Int × Bool)))
  | (l, i) =>
    br (decide (i < ((tables2.length : Nat) : Int))) (
      (atL tables2 i).bind fun x =>
      (s_l06Fold x (Ext.mk c c2)).bind fun r_2 =>
      br (fits ((l ++ ([r_2] : List (List Ext))).length) 24) (
        some (.inl ((l ++ ([r_2] : List (List Ext))), (IntKind.wrap .i64 (i + (1 : Int)))))) (
        none)) (
      some (.inr (l, i, decide (i < ((tables2.length : Nat) : Int)))))
@[reducible] def s_l08Bind_1_S (tables2 : List (List Ext)) (c : Int) (c2 : Int) (s : (List (List Ext)) × Int) : St := ⟨[(0, sl (eL eExt) tables2), (3, .ptr 1000 0 0 1), (5, .sl 2000 0 s.1.length), (6, I s.2)], [(1000, ⟨2, true, [[I c, I c2]]⟩), (2000, ⟨1, false, rws (eL eExt) s.1⟩)]⟩
@[reducible] def s_l08Bind_1_E (tables2 : List (List Ext)) (c : Int) (c2 : Int) : ((List (List Ext)) × Int × Bool) → AExit × St := fun e => (.exit 0, ⟨[(0, sl (eL eExt) tables2), (3, .ptr 1000 0 0 1), (5, .sl 2000 0 e.1.length), (6, I e.2.1), (11, B e.2.2)], [(1000, ⟨2, true, [[I c, I c2]]⟩), (2000, ⟨1, false, rws (eL eExt) e.1⟩)]⟩)
theorem s_l08Bind_1_l {tables2 c c2 s e} (h : Loop (s_l08Bind_1_s tables2 c c2) s = some e) : LoopX tab ow (.close [6006,6007,6008]) b_s_l08Bind_3 (s_l08Bind_1_S tables2 c c2 s) = some (s_l08Bind_1_E tables2 c c2 e) := by
  refine lrG (fun s o h => ?_) h
  obtain ⟨_, _⟩ := s
  simp only [s_l08Bind_1_s] at h
  simp +decide only [s_l08Bind_1_S, s_l08Bind_1_E, b_s_l08Bind_3, go_sem, reduceIte, Nat.reduceAdd]
  have d1 := @s_l06Fold_c
  all_goals exact go
noncomputable def s_l08Bind (tables : (List (List Ext))) (r_ : Ext) : Option ((List (List Ext))) :=
  (Loop (s_l08Bind_1_s tables r_.A r_.B) (([] : List (List Ext)), (0 : Int))).bind fun e_ =>
  some e_.1
theorem s_l08Bind_c {tables r_ r} (h : s_l08Bind tables r_ = some r) : Call tab ow 192 [sl (eL eExt) tables, .agg [I r_.A, I r_.B]] [] = some (sl (eL eExt) r, []) := by
  rw [Call_run (af := a_s_l08Bind) rfl]
  unfold s_l08Bind at h
  simp +decide only [a_s_l08Bind, b_s_l08Bind, go_sem, reduceIte, Nat.reduceAdd]
  have d1 := @s_l08Bind_1_l
  all_goals exact go
end
section
theorem s_l08Round_k0 : mkR 2000 [] = rws eExt [] := rfl
attribute [local go_sem] s_l08Round_k0
theorem s_l08Round_k1 : mkR 6007 [] = rws eExt [] := rfl
attribute [local go_sem] s_l08Round_k1
noncomputable def s_l08Round_1_s (kind2 : Int) (tables2 : List (List Ext)) : (List Ext) × Int → Option (((List Ext) × Int) ⊕ (((List Ext) × Int × Bool)))
  | (l, x) =>
    (s_l08Degree kind2).bind fun r_ =>
    br (decide (x ≤ r_)) (
      (s_l02Of x).bind fun r_2 =>
      (s_l08Bind tables2 r_2).bind fun r_3 =>
      (s_l08Sum kind2 r_3).bind fun r_4 =>
      br (fits ((l ++ ([r_4] : List Ext)).length) 16) (
        some (.inl ((l ++ ([r_4] : List Ext)), (IntKind.wrap .i64 (x + (1 : Int)))))) (
        none)) (
      some (.inr (l, x, decide (x ≤ r_))))
@[reducible] def s_l08Round_1_S (kind2 : Int) (tables2 : List (List Ext)) (s : (List Ext) × Int) : St := ⟨[(0, I kind2), (1, sl (eL eExt) tables2), (5, .sl 2000 0 s.1.length), (6, I s.2)], [(2000, ⟨2, false, rws eExt s.1⟩)]⟩
@[reducible] def s_l08Round_1_E (kind2 : Int) (tables2 : List (List Ext)) : ((List Ext) × Int × Bool) → AExit × St := fun e => (.exit 0, ⟨[(0, I kind2), (1, sl (eL eExt) tables2), (5, .sl 2000 0 e.1.length), (6, I e.2.1), (11, B e.2.2)], [(2000, ⟨2, false, rws eExt e.1⟩)]⟩)
theorem s_l08Round_1_l {kind2 tables2 s e} (h : Loop (s_l08Round_1_s kind2 tables2) s = some e) : LoopX tab ow (.close [4002,6004,6005,6006,6007,6008]) b_s_l08Round_3 (s_l08Round_1_S kind2 tables2 s) = some (s_l08Round_1_E kind2 tables2 e) := by
  refine lrG (fun s o h => ?_) h
  obtain ⟨_, _⟩ := s
  simp only [s_l08Round_1_s] at h
  simp +decide only [s_l08Round_1_S, s_l08Round_1_E, b_s_l08Round_3, go_sem, reduceIte, Nat.reduceAdd]
  have d1 := @s_l08Degree_c
  have d2 := @s_l02Of_c
  have d3 := @s_l08Bind_c
  have d4 := @s_l08Sum_c
  all_goals exact go
noncomputable def s_l08Round (kind : Int) (tables : (List (List Ext))) : Option ((List Ext)) :=
  (Loop (s_l08Round_1_s kind tables) (([] : List Ext), (0 : Int))).bind fun e_ =>
  some e_.1
theorem s_l08Round_c {kind tables r} (h : s_l08Round kind tables = some r) : Call tab ow 191 [I kind, sl (eL eExt) tables] [] = some (sl eExt r, []) := by
  rw [Call_run (af := a_s_l08Round) rfl]
  unfold s_l08Round at h
  simp +decide only [a_s_l08Round, b_s_l08Round, go_sem, reduceIte, Nat.reduceAdd]
  have d1 := @s_l08Round_1_l
  all_goals exact go
end
noncomputable def w_sameRounds_1_s (a2 : List (List Ext)) (b2 : List (List Ext)) : Int → Option ((Int) ⊕ (Unit ⊕ (Int × Bool)))
  | i =>
    br (decide (i < ((a2.length : Nat) : Int))) (
      (atL a2 i).bind fun x =>
      (atL b2 i).bind fun x2 =>
      (w_sameExts x x2).bind fun r_ =>
      br (!r_) (
        some (.inr (.inl ()))) (
        some (.inl (IntKind.wrap .i64 (i + (1 : Int)))))) (
      some (.inr (.inr (i, decide (i < ((a2.length : Nat) : Int))))))
@[reducible] def w_sameRounds_1_S (a2 : List (List Ext)) (b2 : List (List Ext)) (s : Int) : St := ⟨[(0, sl (eL eExt) a2), (1, sl (eL eExt) b2), (5, I s)], []⟩
@[reducible] def w_sameRounds_1_E (a2 : List (List Ext)) (b2 : List (List Ext)) : (Unit ⊕ (Int × Bool)) → AExit × St := alt (fun e => ((.ret, ⟨[(4, B false)], []⟩) : AExit × St)) (fun e => (.exit 0, ⟨[(0, sl (eL eExt) a2), (1, sl (eL eExt) b2), (5, I e.1), (14, B e.2)], []⟩))
theorem w_sameRounds_1_l {a2 b2 s e} (h : Loop (w_sameRounds_1_s a2 b2) s = some e) : LoopX tab ow (.close [7008]) b_w_sameRounds_4 (w_sameRounds_1_S a2 b2 s) = some (w_sameRounds_1_E a2 b2 e) := by
  refine lrG (fun s o h => ?_) h
  simp only [w_sameRounds_1_s] at h
  simp +decide only [w_sameRounds_1_S, w_sameRounds_1_E, b_w_sameRounds_4, go_sem, reduceIte, Nat.reduceAdd]
  have d1 := @w_sameExts_c
  all_goals exact go
noncomputable def w_sameRounds (a : (List (List Ext))) (b : (List (List Ext))) : Option (Bool) :=
  br (((a.length : Nat) : Int) != ((b.length : Nat) : Int)) (
    some false) (
    (Loop (w_sameRounds_1_s a b) (0 : Int)).bind (alt (fun e_2 =>
      some false) (fun e_3 =>
      some true)))
theorem w_sameRounds_c {a b r} (h : w_sameRounds a b = some r) : Call tab ow 30 [sl (eL eExt) a, sl (eL eExt) b] [] = some (B r, []) := by
  rw [Call_run (af := a_w_sameRounds) rfl]
  unfold w_sameRounds at h
  simp +decide only [a_w_sameRounds, b_w_sameRounds, go_sem, reduceIte, Nat.reduceAdd]
  have d1 := @w_sameRounds_1_l
  all_goals exact go
noncomputable def s_l06Point (list : (List Ext)) : Option (Bool) :=
  br (decide (((list.length : Nat) : Int) ≤ (6 : Int))) (
    (s_l02List list).bind fun r_ =>
    some r_) (
    some false)
theorem s_l06Point_c {list r} (h : s_l06Point list = some r) : Call tab ow 113 [sl eExt list] [] = some (B r, []) := by
  rw [Call_run (af := a_s_l06Point) rfl]
  unfold s_l06Point at h
  simp +decide only [a_s_l06Point, b_s_l06Point, go_sem, reduceIte, Nat.reduceAdd]
  have d1 := @s_l02List_c
  all_goals exact go
noncomputable def s_l09Vars (n : Int) : Option (Bool) :=
  (s_l04Power n (64 : Int)).bind fun r_ =>
  br r_ (
    some (decide (n > (1 : Int)))) (
    some false)
theorem s_l09Vars_c {n r} (h : s_l09Vars n = some r) : Call tab ow 115 [I n] [] = some (B r, []) := by
  rw [Call_run (af := a_s_l09Vars) rfl]
  unfold s_l09Vars at h
  simp +decide only [a_s_l09Vars, b_s_l09Vars, go_sem, reduceIte, Nat.reduceAdd]
  have d1 := @s_l04Power_c
  all_goals exact go
noncomputable def s_l06One : Option (Ext) :=
  (s_l02Of (1 : Int)).bind fun r_ =>
  some r_
theorem s_l06One_c {r} (h : s_l06One = some r) : Call tab ow 263 [] [] = some (.agg [I r.A, I r.B], []) := by
  rw [Call_run (af := a_s_l06One) rfl]
  unfold s_l06One at h
  simp +decide only [a_s_l06One, b_s_l06One, go_sem, reduceIte, Nat.reduceAdd]
  have d1 := @s_l02Of_c
  all_goals exact go
noncomputable def s_l06Less (a : Ext) : Option (Ext) :=
  (s_l06One).bind fun r_ =>
  (s_l02Sub r_ a).bind fun r_2 =>
  some r_2
theorem s_l06Less_c {a r} (h : s_l06Less a = some r) : Call tab ow 264 [.agg [I a.A, I a.B]] [] = some (.agg [I r.A, I r.B], []) := by
  rw [Call_run (af := a_s_l06Less) rfl]
  unfold s_l06Less at h
  simp +decide only [a_s_l06Less, b_s_l06Less, go_sem, reduceIte, Nat.reduceAdd]
  have d1 := @s_l06One_c
  have d2 := @s_l02Sub_c
  all_goals exact go
section
theorem s_l06Eq_k0 : mkR 2001 [] = rws eExt [] := rfl
attribute [local go_sem] s_l06Eq_k0
theorem s_l06Eq_k1 : ∀ k, repR 6003 k [I (0 : Int), I (0 : Int)] = rws eExt (List.replicate k (Ext.mk (0 : Int) (0 : Int))) := fun _ => repT eExt (Ext.mk (0 : Int) (0 : Int)) _ _
attribute [local go_sem] s_l06Eq_k1
noncomputable def s_l06Eq_2_s (point3 : List Ext) (out2 : List Ext) (i2 : Int) : (List Ext) × Int → Option (((List Ext) × Int) ⊕ (((List Ext) × Int × Bool)))
  | (l, k) =>
    br (decide (k < ((out2.length : Nat) : Int))) (
      (atL out2 k).bind fun x =>
      (atL point3 i2).bind fun x2 =>
      (s_l06Less x2).bind fun r_2 =>
      (s_l02Mul x r_2).bind fun r_3 =>
      br (decide (0 ≤ k)) (
        br (decide (k.toNat < l.length)) (
          (l[k.toNat]?).bind fun x3 =>
          (atL out2 k).bind fun x4 =>
          (atL point3 i2).bind fun x5 =>
          (s_l02Mul x4 x5).bind fun r_4 =>
          br (decide (0 ≤ (IntKind.wrap .i64 (k + ((out2.length : Nat) : Int))))) (
            br (decide ((IntKind.wrap .i64 (k + ((out2.length : Nat) : Int))).toNat < l.length)) (
              ((l.set k.toNat r_3)[(IntKind.wrap .i64 (k + ((out2.length : Nat) : Int))).toNat]?).bind fun x6 =>
              some (.inl (((l.set k.toNat r_3).set ((IntKind.wrap .i64 (k + ((out2.length : Nat) : Int))).toNat) r_4), (IntKind.wrap .i64 (k + (1 : Int)))))) (
              none)) (
            none)) (
          none)) (
        none)) (
      some (.inr (l, k, decide (k < ((out2.length : Nat) : Int)))))
@[reducible] def s_l06Eq_2_S (point3 : List Ext) (out2 : List Ext) (i2 : Int) (s : (List Ext) × Int) : St := ⟨[(0, sl eExt point3), (3, sl eExt out2), (4, I i2), (5, .sl 6003 0 s.1.length), (6, I s.2)], [(6003, ⟨2, false, rws eExt s.1⟩)]⟩
@[reducible] def s_l06Eq_2_E (point3 : List Ext) (out2 : List Ext) (i2 : Int) : ((List Ext) × Int × Bool) → AExit × St := fun e => (.exit 2, ⟨[(0, sl eExt point3), (3, sl eExt out2), (4, I i2), (5, .sl 6003 0 e.1.length), (6, I e.2.1), (22, B e.2.2)], [(6003, ⟨2, false, rws eExt e.1⟩)]⟩)
theorem s_l06Eq_2_l {point3 out2 i2 s e} (h : Loop (s_l06Eq_2_s point3 out2 i2) s = some e) : LoopX tab ow (.close [10010,10011,11013]) b_s_l06Eq_7 (s_l06Eq_2_S point3 out2 i2 s) = some (s_l06Eq_2_E point3 out2 i2 e) := by
  refine lrG (fun s o h => ?_) h
  obtain ⟨_, _⟩ := s
  simp only [s_l06Eq_2_s] at h
  simp +decide only [s_l06Eq_2_S, s_l06Eq_2_E, b_s_l06Eq_7, go_sem, reduceIte, Nat.reduceAdd]
  have d1 := @s_l06Less_c
  have d2 := @s_l02Mul_c
  all_goals exact go
noncomputable def s_l06Eq_1_s (point2 : List Ext) : (List Ext) × Int → Option (((List Ext) × Int) ⊕ (((List Ext) × Int × Bool)))
  | (out, i) =>
    br (decide (i < ((point2.length : Nat) : Int))) (
      br (mkOK (IntKind.wrap .i64 ((2 : Int) * ((out.length : Nat) : Int))) (IntKind.wrap .i64 ((2 : Int) * ((out.length : Nat) : Int))) 16) (
        (Loop (s_l06Eq_2_s point2 out i) ((List.replicate ((IntKind.wrap .i64 ((2 : Int) * ((out.length : Nat) : Int))).toNat) (Ext.mk (0 : Int) (0 : Int))), (0 : Int))).bind fun e_ =>
        some (.inl (e_.1, (IntKind.wrap .i64 (i + (1 : Int)))))) (
        none)) (
      some (.inr (out, i, decide (i < ((point2.length : Nat) : Int)))))
@[reducible] def s_l06Eq_1_S (point2 : List Ext) (s : (List Ext) × Int) : St := ⟨[(0, sl eExt point2), (3, sl eExt s.1), (4, I s.2)], []⟩
@[reducible] def s_l06Eq_1_E (point2 : List Ext) : ((List Ext) × Int × Bool) → AExit × St := fun e => (.exit 0, ⟨[(0, sl eExt point2), (3, sl eExt e.1), (4, I e.2.1), (12, B e.2.2)], []⟩)
theorem s_l06Eq_1_l {point2 s e} (h : Loop (s_l06Eq_1_s point2) s = some e) : LoopX tab ow (.close [6003,10010,10011,11013,2001]) b_s_l06Eq_3 (s_l06Eq_1_S point2 s) = some (s_l06Eq_1_E point2 e) := by
  refine lrG (fun s o h => ?_) h
  obtain ⟨_, _⟩ := s
  simp only [s_l06Eq_1_s] at h
  simp +decide only [s_l06Eq_1_S, s_l06Eq_1_E, b_s_l06Eq_3, go_sem, reduceIte, Nat.reduceAdd]
  have d1 := @s_l06Eq_2_l
  all_goals exact go
noncomputable def s_l06Eq (point : (List Ext)) : Option ((List Ext)) :=
  (s_l06One).bind fun r_ =>
  (Loop (s_l06Eq_1_s point) (([r_] : List Ext), (0 : Int))).bind fun e_2 =>
  some e_2.1
theorem s_l06Eq_c {point r} (h : s_l06Eq point = some r) : Call tab ow 195 [sl eExt point] [] = some (sl eExt r, []) := by
  rw [Call_run (af := a_s_l06Eq) rfl]
  unfold s_l06Eq at h
  simp +decide only [a_s_l06Eq, b_s_l06Eq, go_sem, reduceIte, Nat.reduceAdd]
  have d1 := @s_l06One_c
  have d2 := @s_l06Eq_1_l
  all_goals exact go
end
end Go.AI.Fn

set_option linter.unusedVariables false
set_option linter.unusedSimpArgs false
set_option maxRecDepth 100000
set_option maxHeartbeats 1000000
namespace Go.AI.Fn
section
theorem s_l06Coefs_k0 : mkR 2000 [] = rws eExt [] := rfl
attribute [local go_sem] s_l06Coefs_k0
noncomputable def s_l06Coefs_2_s (back3 : Bool) (w_2 : Int) : (List Ext) × Int → Option (((List Ext) × Int) ⊕ (((List Ext) × Int × Bool)))
  | (l2, i) =>
    br (decide (i < ((l2.length : Nat) : Int))) (
      br ((and64 .i64 i w_2) == (0 : Int)) (
        some (.inl (l2, (IntKind.wrap .i64 (i + (1 : Int)))))) (
        br back3 (
          br (decide (0 ≤ i)) (
            br (decide (i.toNat < l2.length)) (
              (l2[i.toNat]?).bind fun x =>
              br (decide (0 ≤ (xor64 .i64 i w_2))) (
                br (decide ((xor64 .i64 i w_2).toNat < l2.length)) (
                  (l2[(xor64 .i64 i w_2).toNat]?).bind fun x2 =>
                  (s_l02Add x x2).bind fun r_ =>
                  br (decide (0 ≤ i)) (
                    br (decide (i.toNat < l2.length)) (
                      (l2[i.toNat]?).bind fun x3 =>
                      some (.inl ((l2.set i.toNat r_), (IntKind.wrap .i64 (i + (1 : Int)))))) (
                      none)) (
                    none)) (
                  none)) (
                none)) (
              none)) (
            none)) (
          br (decide (0 ≤ i)) (
            br (decide (i.toNat < l2.length)) (
              (l2[i.toNat]?).bind fun x4 =>
              br (decide (0 ≤ (xor64 .i64 i w_2))) (
                br (decide ((xor64 .i64 i w_2).toNat < l2.length)) (
                  (l2[(xor64 .i64 i w_2).toNat]?).bind fun x5 =>
                  (s_l02Sub x4 x5).bind fun r_2 =>
                  br (decide (0 ≤ i)) (
                    br (decide (i.toNat < l2.length)) (
                      (l2[i.toNat]?).bind fun x6 =>
                      some (.inl ((l2.set i.toNat r_2), (IntKind.wrap .i64 (i + (1 : Int)))))) (
                      none)) (
                    none)) (
                  none)) (
                none)) (
              none)) (
            none)))) (
      some (.inr (l2, i, decide (i < ((l2.length : Nat) : Int)))))
@[reducible] def s_l06Coefs_2_S (back3 : Bool) (w_2 : Int) (s : (List Ext) × Int) : St := ⟨[(1, B back3), (5, .sl 2000 0 s.1.length), (6, I w_2), (7, I s.2)], [(2000, ⟨2, false, rws eExt s.1⟩)]⟩
@[reducible] def s_l06Coefs_2_E (back3 : Bool) (w_2 : Int) : ((List Ext) × Int × Bool) → AExit × St := fun e => (.exit 2, ⟨[(1, B back3), (5, .sl 2000 0 e.1.length), (6, I w_2), (7, I e.2.1), (20, B e.2.2)], [(2000, ⟨2, false, rws eExt e.1⟩)]⟩)
theorem s_l06Coefs_2_l {back3 w_2 s e} (h : Loop (s_l06Coefs_2_s back3 w_2) s = some e) : LoopX tab ow (.close [11012,12012]) b_s_l06Coefs_6 (s_l06Coefs_2_S back3 w_2 s) = some (s_l06Coefs_2_E back3 w_2 e) := by
  refine lrG (fun s o h => ?_) h
  obtain ⟨_, _⟩ := s
  simp only [s_l06Coefs_2_s] at h
  simp +decide only [s_l06Coefs_2_S, s_l06Coefs_2_E, b_s_l06Coefs_6, go_sem, reduceIte, Nat.reduceAdd]
  have d1 := @s_l02Add_c
  have d2 := @s_l02Sub_c
  all_goals exact go
noncomputable def s_l06Coefs_1_s (back2 : Bool) : (List Ext) × Int → Option (((List Ext) × Int) ⊕ (((List Ext) × Int × Bool)))
  | (l, w_) =>
    br (decide (w_ < ((l.length : Nat) : Int))) (
      (Loop (s_l06Coefs_2_s back2 w_) (l, (0 : Int))).bind fun e_ =>
      some (.inl (e_.1, (IntKind.wrap .i64 (w_ * (2 : Int)))))) (
      some (.inr (l, w_, decide (w_ < ((l.length : Nat) : Int)))))
@[reducible] def s_l06Coefs_1_S (back2 : Bool) (s : (List Ext) × Int) : St := ⟨[(1, B back2), (5, .sl 2000 0 s.1.length), (6, I s.2)], [(2000, ⟨2, false, rws eExt s.1⟩)]⟩
@[reducible] def s_l06Coefs_1_E (back2 : Bool) : ((List Ext) × Int × Bool) → AExit × St := fun e => (.exit 0, ⟨[(1, B back2), (5, .sl 2000 0 e.1.length), (6, I e.2.1), (14, B e.2.2)], [(2000, ⟨2, false, rws eExt e.1⟩)]⟩)
theorem s_l06Coefs_1_l {back2 s e} (h : Loop (s_l06Coefs_1_s back2) s = some e) : LoopX tab ow (.close [11012,12012]) b_s_l06Coefs_3 (s_l06Coefs_1_S back2 s) = some (s_l06Coefs_1_E back2 e) := by
  refine lrG (fun s o h => ?_) h
  obtain ⟨_, _⟩ := s
  simp only [s_l06Coefs_1_s] at h
  simp +decide only [s_l06Coefs_1_S, s_l06Coefs_1_E, b_s_l06Coefs_3, go_sem, reduceIte, Nat.reduceAdd]
  have d1 := @s_l06Coefs_2_l
  all_goals exact go
noncomputable def s_l06Coefs (table : (List Ext)) (back : Bool) : Option ((List Ext)) :=
  br (fits ((([] : List Ext) ++ table).length) 16) (
    (Loop (s_l06Coefs_1_s back) ((([] : List Ext) ++ table), (1 : Int))).bind fun e_2 =>
    some e_2.1) (
    none)
theorem s_l06Coefs_c {table back r} (h : s_l06Coefs table back = some r) : Call tab ow 266 [sl eExt table, B back] [] = some (sl eExt r, []) := by
  rw [Call_run (af := a_s_l06Coefs) rfl]
  unfold s_l06Coefs at h
  simp +decide only [a_s_l06Coefs, b_s_l06Coefs, go_sem, reduceIte, Nat.reduceAdd]
  have d1 := @s_l06Coefs_1_l
  all_goals exact go
end
noncomputable def s_l06Vars_1_s (n2 : Int) : Int → Option ((Int) ⊕ ((Int × Bool)))
  | k =>
    br (decide (0 ≤ (IntKind.wrap .u64 k))) (
      br (decide ((shl64 .i64 (1 : Int) (IntKind.wrap .u64 k)) < n2)) (
        some (.inl (IntKind.wrap .i64 (k + (1 : Int))))) (
        some (.inr (k, decide ((shl64 .i64 (1 : Int) (IntKind.wrap .u64 k)) < n2))))) (
      none)
@[reducible] def s_l06Vars_1_S (n2 : Int) (s : Int) : St := ⟨[(0, I n2), (3, I s)], []⟩
@[reducible] def s_l06Vars_1_E (n2 : Int) : (Int × Bool) → AExit × St := fun e => (.exit 0, ⟨[(0, I n2), (3, I e.1), (8, B e.2)], []⟩)
theorem s_l06Vars_1_l {n2 s e} (h : Loop (s_l06Vars_1_s n2) s = some e) : LoopX tab ow (.close []) b_s_l06Vars_2 (s_l06Vars_1_S n2 s) = some (s_l06Vars_1_E n2 e) := by
  refine lrG (fun s o h => ?_) h
  simp only [s_l06Vars_1_s] at h
  simp +decide only [s_l06Vars_1_S, s_l06Vars_1_E, b_s_l06Vars_2, go_sem, reduceIte, Nat.reduceAdd]
  all_goals exact go
noncomputable def s_l06Vars (n : Int) : Option (Int) :=
  (Loop (s_l06Vars_1_s n) (0 : Int)).bind fun e_ =>
  some e_.1
theorem s_l06Vars_c {n r} (h : s_l06Vars n = some r) : Call tab ow 297 [I n] [] = some (I r, []) := by
  rw [Call_run (af := a_s_l06Vars) rfl]
  unfold s_l06Vars at h
  simp +decide only [a_s_l06Vars, b_s_l06Vars, go_sem, reduceIte, Nat.reduceAdd]
  have d1 := @s_l06Vars_1_l
  all_goals exact go
noncomputable def s_l01Root (k : Int) : Option (Int) :=
  br (decide (0 ≤ (IntKind.wrap .u64 (IntKind.wrap .i64 ((24 : Int) - k))))) (
    (s_l01Pow (3 : Int) (shl64 .i64 (127 : Int) (IntKind.wrap .u64 (IntKind.wrap .i64 ((24 : Int) - k))))).bind fun r_ =>
    some r_) (
    none)
theorem s_l01Root_c {k r} (h : s_l01Root k = some r) : Call tab ow 296 [I k] [] = some (I r, []) := by
  rw [Call_run (af := a_s_l01Root) rfl]
  unfold s_l01Root at h
  simp +decide only [a_s_l01Root, b_s_l01Root, go_sem, reduceIte, Nat.reduceAdd]
  have d1 := @s_l01Pow_c
  all_goals exact go
section
theorem s_l07Ntt_k0 : mkR 4000 [] = rws eExt [] := rfl
attribute [local go_sem] s_l07Ntt_k0
theorem s_l07Ntt_k1 : mkR 5000 [] = rws eExt [] := rfl
attribute [local go_sem] s_l07Ntt_k1
theorem s_l07Ntt_k2 : mkR 6000 [] = rws eExt [] := rfl
attribute [local go_sem] s_l07Ntt_k2
theorem s_l07Ntt_k3 : mkR 10005 [] = rws eExt [] := rfl
attribute [local go_sem] s_l07Ntt_k3
theorem s_l07Ntt_k4 : mkR 11006 [] = rws eExt [] := rfl
attribute [local go_sem] s_l07Ntt_k4
theorem s_l07Ntt_k5 : ∀ k, repR 14001 k [I (0 : Int), I (0 : Int)] = rws eExt (List.replicate k (Ext.mk (0 : Int) (0 : Int))) := fun _ => repT eExt (Ext.mk (0 : Int) (0 : Int)) _ _
attribute [local go_sem] s_l07Ntt_k5
noncomputable def s_l07Ntt_1_s (ListtoArray2 : List Ext) (t : Int) (t2 : Int) : (List Ext) × (List Ext) × Int → Option (((List Ext) × (List Ext) × Int) ⊕ (((List Ext) × (List Ext) × Int × Bool)))
  | (l, l2, t3) =>
    br (decide (t3 < t2)) (
      (atL ListtoArray2 t3).bind fun x =>
      br (fits ((l ++ ([x] : List Ext)).length) 16) (
        (atL ListtoArray2 (IntKind.wrap .i64 (t3 + (1 : Int)))).bind fun x2 =>
        br (fits ((l2 ++ ([x2] : List Ext)).length) 16) (
          some (.inl ((l ++ ([x] : List Ext)), (l2 ++ ([x2] : List Ext)), (IntKind.wrap .i64 (t3 + (2 : Int)))))) (
          none)) (
        none)) (
      some (.inr (l, l2, t3, decide (t3 < t2))))
@[reducible] def s_l07Ntt_1_S (ListtoArray2 : List Ext) (t : Int) (t2 : Int) (s : (List Ext) × (List Ext) × Int) : St := ⟨[(0, sl eExt ListtoArray2), (1, I t), (5, I t2), (6, .sl 5000 0 s.1.length), (7, .sl 6000 0 s.2.1.length), (8, I s.2.2)], [(5000, ⟨2, false, rws eExt s.1⟩), (6000, ⟨2, false, rws eExt s.2.1⟩)]⟩
@[reducible] def s_l07Ntt_1_E (ListtoArray2 : List Ext) (t : Int) (t2 : Int) : ((List Ext) × (List Ext) × Int × Bool) → AExit × St := fun e => (.exit 0, ⟨[(0, sl eExt ListtoArray2), (1, I t), (5, I t2), (6, .sl 5000 0 e.1.length), (7, .sl 6000 0 e.2.1.length), (8, I e.2.2.1), (26, B e.2.2.2)], [(5000, ⟨2, false, rws eExt e.1⟩), (6000, ⟨2, false, rws eExt e.2.1⟩)]⟩)
theorem s_l07Ntt_1_l {ListtoArray2 t t2 s e} (h : Loop (s_l07Ntt_1_s ListtoArray2 t t2) s = some e) : LoopX tab ow (.close [10005,10006,11006,11007]) b_s_l07Ntt_7 (s_l07Ntt_1_S ListtoArray2 t t2 s) = some (s_l07Ntt_1_E ListtoArray2 t t2 e) := by
  refine lrG (fun s o h => ?_) h
  obtain ⟨_, _, _⟩ := s
  simp only [s_l07Ntt_1_s] at h
  simp +decide only [s_l07Ntt_1_S, s_l07Ntt_1_E, b_s_l07Ntt_7, go_sem, reduceIte, Nat.reduceAdd]
  all_goals exact go
noncomputable def s_l07Ntt_2_s (t4 : Int) (t5 : Int) (t6 : List Ext) (t7 : List Ext) : (List Ext) × Int × Int → Option (((List Ext) × Int × Int) ⊕ (((List Ext) × Int × Int × Bool)))
  | (l3, t8, t9) =>
    br (decide (t9 < (IntKind.wrap .i64 (t5.tdiv (2 : Int))))) (
      (atL t7 t9).bind fun x3 =>
      (s_l02Of t8).bind fun r_5 =>
      (s_l02Mul x3 r_5).bind fun r_6 =>
      (atL t6 t9).bind fun x4 =>
      (s_l02Add x4 r_6).bind fun r_7 =>
      br (decide (0 ≤ t9)) (
        br (decide (t9.toNat < l3.length)) (
          (l3[t9.toNat]?).bind fun x5 =>
          (atL t6 t9).bind fun x6 =>
          (s_l02Sub x6 r_6).bind fun r_8 =>
          br (decide (0 ≤ (IntKind.wrap .i64 (t9 + (IntKind.wrap .i64 (t5.tdiv (2 : Int))))))) (
            br (decide ((IntKind.wrap .i64 (t9 + (IntKind.wrap .i64 (t5.tdiv (2 : Int))))).toNat < l3.length)) (
              ((l3.set t9.toNat r_7)[(IntKind.wrap .i64 (t9 + (IntKind.wrap .i64 (t5.tdiv (2 : Int))))).toNat]?).bind fun x7 =>
              (s_l01Mul t8 t4).bind fun r_9 =>
              some (.inl (((l3.set t9.toNat r_7).set ((IntKind.wrap .i64 (t9 + (IntKind.wrap .i64 (t5.tdiv (2 : Int))))).toNat) r_8), r_9, (IntKind.wrap .i64 (t9 + (1 : Int)))))) (
              none)) (
            none)) (
          none)) (
        none)) (
      some (.inr (l3, t8, t9, decide (t9 < (IntKind.wrap .i64 (t5.tdiv (2 : Int)))))))
@[reducible] def s_l07Ntt_2_S (t4 : Int) (t5 : Int) (t6 : List Ext) (t7 : List Ext) (s : (List Ext) × Int × Int) : St := ⟨[(1, I t4), (5, I t5), (9, sl eExt t6), (10, sl eExt t7), (11, .sl 14001 0 s.1.length), (12, I s.2.1), (13, I s.2.2)], [(5000, dead), (6000, dead), (14001, ⟨2, false, rws eExt s.1⟩)]⟩
@[reducible] def s_l07Ntt_2_E (t4 : Int) (t5 : Int) (t6 : List Ext) (t7 : List Ext) : ((List Ext) × Int × Int × Bool) → AExit × St := fun e => (.exit 2, ⟨[(1, I t4), (5, I t5), (9, sl eExt t6), (10, sl eExt t7), (11, .sl 14001 0 e.1.length), (12, I e.2.1), (13, I e.2.2.1), (59, B e.2.2.2)], [(5000, dead), (6000, dead), (14001, ⟨2, false, rws eExt e.1⟩)]⟩)
theorem s_l07Ntt_2_l {t4 t5 t6 t7 s e} (h : Loop (s_l07Ntt_2_s t4 t5 t6 t7) s = some e) : LoopX tab ow (.close [19005,19006,19007,20007,21010,22002]) b_s_l07Ntt_16 (s_l07Ntt_2_S t4 t5 t6 t7 s) = some (s_l07Ntt_2_E t4 t5 t6 t7 e) := by
  refine lrG (fun s o h => ?_) h
  obtain ⟨_, _, _⟩ := s
  simp only [s_l07Ntt_2_s] at h
  simp +decide only [s_l07Ntt_2_S, s_l07Ntt_2_E, b_s_l07Ntt_16, go_sem, reduceIte, Nat.reduceAdd]
  have d1 := @s_l02Of_c
  have d2 := @s_l02Mul_c
  have d3 := @s_l02Add_c
  have d4 := @s_l02Sub_c
  have d5 := @s_l01Mul_c
  all_goals exact go
noncomputable def s_l07Ntt_n : Nat → (List Ext) → Int → Option ((List Ext))
  | 0, _, _ => none
  | n_ + 1, ListtoArray, a =>
    br (((ListtoArray.length : Nat) : Int) == (1 : Int)) (
      br (fits ((([] : List Ext) ++ ListtoArray).length) 16) (
        some (([] : List Ext) ++ ListtoArray)) (
        none)) (
      (Loop (s_l07Ntt_1_s ListtoArray a ((ListtoArray.length : Nat) : Int)) (([] : List Ext), ([] : List Ext), (0 : Int))).bind fun e_ =>
      (s_l01Mul a a).bind fun r_ =>
      (s_l07Ntt_n n_ e_.1 r_).bind fun r_2 =>
      (s_l01Mul a a).bind fun r_3 =>
      (s_l07Ntt_n n_ e_.2.1 r_3).bind fun r_4 =>
      br (mkOK ((ListtoArray.length : Nat) : Int) ((ListtoArray.length : Nat) : Int) 16) (
        (Loop (s_l07Ntt_2_s a ((ListtoArray.length : Nat) : Int) r_2 r_4) ((List.replicate (((ListtoArray.length : Nat) : Int).toNat) (Ext.mk (0 : Int) (0 : Int))), (1 : Int), (0 : Int))).bind fun e_2 =>
        some e_2.1) (
        none))
theorem s_l07Ntt_n_c (n_ : Nat) : ∀ {ListtoArray : (List Ext)} {a : Int} {r : (List Ext)}, s_l07Ntt_n n_ ListtoArray a = some r → Call tab ow 295 [sl eExt ListtoArray, I a] [] = some (sl eExt r, []) := by
  induction n_ with
  | zero => intro _ _ r h; cases h
  | succ n_ ih =>
    intro ListtoArray a r h
    rw [Call_run (af := a_s_l07Ntt) rfl]
    simp only [s_l07Ntt_n] at h
    simp +decide only [a_s_l07Ntt, b_s_l07Ntt, go_sem, reduceIte, Nat.reduceAdd]
    have d1 := @s_l07Ntt_1_l
    have d2 := @s_l01Mul_c
    have d3 := @ih
    have d4 := @s_l07Ntt_2_l
    all_goals exact go
noncomputable def s_l07Ntt (ListtoArray : (List Ext)) (a : Int) : Option ((List Ext)) := lim (fun n_ => s_l07Ntt_n n_ ListtoArray a)
theorem s_l07Ntt_c {ListtoArray : (List Ext)} {a : Int} {r : (List Ext)} (h : s_l07Ntt ListtoArray a = some r) : Call tab ow 295 [sl eExt ListtoArray, I a] [] = some (sl eExt r, []) := by
  obtain ⟨n_, hn⟩ := of_lim h
  exact s_l07Ntt_n_c n_ hn
end
section
theorem s_l07Encode_k0 : mkR 3000 [] = rws eExt [] := rfl
attribute [local go_sem] s_l07Encode_k0
theorem s_l07Encode_k1 : ∀ k, repR 3007 k [I (0 : Int), I (0 : Int)] = rws eExt (List.replicate k (Ext.mk (0 : Int) (0 : Int))) := fun _ => repT eExt (Ext.mk (0 : Int) (0 : Int)) _ _
attribute [local go_sem] s_l07Encode_k1
noncomputable def s_l07Encode (coefs : (List Ext)) (rate : Int) : Option ((List Ext)) :=
  br (decide (0 ≤ (IntKind.wrap .u64 rate))) (
    br (fits ((([] : List Ext) ++ coefs).length) 16) (
      br (mkOK (IntKind.wrap .i64 ((shl64 .i64 ((coefs.length : Nat) : Int) (IntKind.wrap .u64 rate)) - ((coefs.length : Nat) : Int))) (IntKind.wrap .i64 ((shl64 .i64 ((coefs.length : Nat) : Int) (IntKind.wrap .u64 rate)) - ((coefs.length : Nat) : Int))) 16 && decide ((IntKind.wrap .i64 ((shl64 .i64 ((coefs.length : Nat) : Int) (IntKind.wrap .u64 rate)) - ((coefs.length : Nat) : Int))) ≤ 1099511627776)) (
        br (fits (((([] : List Ext) ++ coefs) ++ List.replicate ((IntKind.wrap .i64 ((shl64 .i64 ((coefs.length : Nat) : Int) (IntKind.wrap .u64 rate)) - ((coefs.length : Nat) : Int))).toNat) (Ext.mk (0 : Int) (0 : Int))).length) 16) (
          (s_l06Vars (shl64 .i64 ((coefs.length : Nat) : Int) (IntKind.wrap .u64 rate))).bind fun r_ =>
          (s_l01Root r_).bind fun r_2 =>
          (s_l07Ntt ((([] : List Ext) ++ coefs) ++ List.replicate ((IntKind.wrap .i64 ((shl64 .i64 ((coefs.length : Nat) : Int) (IntKind.wrap .u64 rate)) - ((coefs.length : Nat) : Int))).toNat) (Ext.mk (0 : Int) (0 : Int))) r_2).bind fun r_3 =>
          some r_3) (
          none)) (
        none)) (
      none)) (
    none)
theorem s_l07Encode_c {coefs rate r} (h : s_l07Encode coefs rate = some r) : Call tab ow 265 [sl eExt coefs, I rate] [] = some (sl eExt r, []) := by
  rw [Call_run (af := a_s_l07Encode) rfl]
  unfold s_l07Encode at h
  simp +decide only [a_s_l07Encode, b_s_l07Encode, go_sem, reduceIte, Nat.reduceAdd]
  have d1 := @s_l06Vars_c
  have d2 := @s_l01Root_c
  have d3 := @s_l07Ntt_c
  all_goals exact go
end
noncomputable def s_l09Word (table : (List Ext)) (rate : Int) : Option ((List Ext)) :=
  (s_l06Coefs table false).bind fun r_ =>
  (s_l07Encode r_ rate).bind fun r_2 =>
  some r_2
theorem s_l09Word_c {table rate r} (h : s_l09Word table rate = some r) : Call tab ow 196 [sl eExt table, I rate] [] = some (sl eExt r, []) := by
  rw [Call_run (af := a_s_l09Word) rfl]
  unfold s_l09Word at h
  simp +decide only [a_s_l09Word, b_s_l09Word, go_sem, reduceIte, Nat.reduceAdd]
  have d1 := @s_l06Coefs_c
  have d2 := @s_l07Encode_c
  all_goals exact go
noncomputable def s_l07Pair (n : Int) (i : Int) (a : Ext) (b : Ext) (r_ : Ext) : Option (Ext) :=
  (s_l06Vars n).bind fun r_2 =>
  (s_l01Root r_2).bind fun r_3 =>
  (s_l01Pow r_3 i).bind fun r_4 =>
  (s_l01Inverse (2 : Int)).bind fun r_5 =>
  (s_l02Add a b).bind fun r_6 =>
  (s_l02Of r_5).bind fun r_7 =>
  (s_l02Mul r_6 r_7).bind fun r_8 =>
  (s_l02Sub a b).bind fun r_9 =>
  (s_l01Inverse r_4).bind fun r_10 =>
  (s_l01Mul r_5 r_10).bind fun r_11 =>
  (s_l02Of r_11).bind fun r_12 =>
  (s_l02Mul r_9 r_12).bind fun r_13 =>
  (s_l02Mul r_ r_13).bind fun r_14 =>
  (s_l02Add r_8 r_14).bind fun r_15 =>
  some r_15
theorem s_l07Pair_c {n i a b r_ r} (h : s_l07Pair n i a b r_ = some r) : Call tab ow 267 [I n, I i, .agg [I a.A, I a.B], .agg [I b.A, I b.B], .agg [I r_.A, I r_.B]] [] = some (.agg [I r.A, I r.B], []) := by
  rw [Call_run (af := a_s_l07Pair) rfl]
  unfold s_l07Pair at h
  simp +decide only [a_s_l07Pair, b_s_l07Pair, go_sem, reduceIte, Nat.reduceAdd]
  have d1 := @s_l06Vars_c
  have d2 := @s_l01Root_c
  have d3 := @s_l01Pow_c
  have d4 := @s_l01Inverse_c
  have d5 := @s_l02Add_c
  have d6 := @s_l02Of_c
  have d7 := @s_l02Mul_c
  have d8 := @s_l02Sub_c
  have d9 := @s_l01Mul_c
  all_goals exact go
section
theorem s_l07Fold_k0 : mkR 2000 [] = rws eExt [] := rfl
attribute [local go_sem] s_l07Fold_k0
theorem s_l07Fold_k1 : mkR 7016 [] = rws eExt [] := rfl
attribute [local go_sem] s_l07Fold_k1
noncomputable def s_l07Fold_1_s (word2 : List Ext) (n : Int) (c : Int) (c2 : Int) : (List Ext) × Int → Option (((List Ext) × Int) ⊕ (((List Ext) × Int × Bool)))
  | (l, i) =>
    br (decide (i < (IntKind.wrap .i64 (n.tdiv (2 : Int))))) (
      (atL word2 i).bind fun x =>
      (atL word2 (IntKind.wrap .i64 (i + (IntKind.wrap .i64 (n.tdiv (2 : Int)))))).bind fun x2 =>
      (s_l07Pair n i x x2 (Ext.mk c c2)).bind fun r_2 =>
      br (fits ((l ++ ([r_2] : List Ext)).length) 16) (
        some (.inl ((l ++ ([r_2] : List Ext)), (IntKind.wrap .i64 (i + (1 : Int)))))) (
        none)) (
      some (.inr (l, i, decide (i < (IntKind.wrap .i64 (n.tdiv (2 : Int)))))))
@[reducible] def s_l07Fold_1_S (word2 : List Ext) (n : Int) (c : Int) (c2 : Int) (s : (List Ext) × Int) : St := ⟨[(0, sl eExt word2), (3, .ptr 1000 0 0 1), (5, .sl 2000 0 s.1.length), (6, I n), (7, I s.2)], [(1000, ⟨2, true, [[I c, I c2]]⟩), (2000, ⟨2, false, rws eExt s.1⟩)]⟩
@[reducible] def s_l07Fold_1_E (word2 : List Ext) (n : Int) (c : Int) (c2 : Int) : ((List Ext) × Int × Bool) → AExit × St := fun e => (.exit 0, ⟨[(0, sl eExt word2), (3, .ptr 1000 0 0 1), (5, .sl 2000 0 e.1.length), (6, I n), (7, I e.2.1), (14, B e.2.2)], [(1000, ⟨2, true, [[I c, I c2]]⟩), (2000, ⟨2, false, rws eExt e.1⟩)]⟩)
theorem s_l07Fold_1_l {word2 n c c2 s e} (h : Loop (s_l07Fold_1_s word2 n c c2) s = some e) : LoopX tab ow (.close [7015,7016,7017]) b_s_l07Fold_4 (s_l07Fold_1_S word2 n c c2 s) = some (s_l07Fold_1_E word2 n c c2 e) := by
  refine lrG (fun s o h => ?_) h
  obtain ⟨_, _⟩ := s
  simp only [s_l07Fold_1_s] at h
  simp +decide only [s_l07Fold_1_S, s_l07Fold_1_E, b_s_l07Fold_4, go_sem, reduceIte, Nat.reduceAdd]
  have d1 := @s_l07Pair_c
  all_goals exact go
noncomputable def s_l07Fold (word : (List Ext)) (r_ : Ext) : Option ((List Ext)) :=
  (Loop (s_l07Fold_1_s word ((word.length : Nat) : Int) r_.A r_.B) (([] : List Ext), (0 : Int))).bind fun e_ =>
  some e_.1
theorem s_l07Fold_c {word r_ r} (h : s_l07Fold word r_ = some r) : Call tab ow 197 [sl eExt word, .agg [I r_.A, I r_.B]] [] = some (sl eExt r, []) := by
  rw [Call_run (af := a_s_l07Fold) rfl]
  unfold s_l07Fold at h
  simp +decide only [a_s_l07Fold, b_s_l07Fold, go_sem, reduceIte, Nat.reduceAdd]
  have d1 := @s_l07Fold_1_l
  all_goals exact go
end
section
theorem s_l09Leaves_k0 : mkR 2000 [] = rws eS [] := rfl
attribute [local go_sem] s_l09Leaves_k0
theorem s_l09Leaves_k1 : mkR 7012 [] = rws eExt [] := rfl
attribute [local go_sem] s_l09Leaves_k1
theorem s_l09Leaves_k2 : mkR 7015 [] = rws eS [] := rfl
attribute [local go_sem] s_l09Leaves_k2
noncomputable def s_l09Leaves_1_s (word2 : List Ext) (n : Int) : (List (List UInt8)) × Int → Option (((List (List UInt8)) × Int) ⊕ (((List (List UInt8)) × Int × Bool)))
  | (l, i) =>
    br (decide (i < (IntKind.wrap .i64 (n.tdiv (2 : Int))))) (
      (atL word2 i).bind fun x =>
      (atL word2 (IntKind.wrap .i64 (i + (IntKind.wrap .i64 (n.tdiv (2 : Int)))))).bind fun x2 =>
      (s_l02Bytes ([x, x2] : List Ext)).bind fun r_ =>
      br (fits ((l ++ ([r_] : List (List UInt8))).length) 16) (
        some (.inl ((l ++ ([r_] : List (List UInt8))), (IntKind.wrap .i64 (i + (1 : Int)))))) (
        none)) (
      some (.inr (l, i, decide (i < (IntKind.wrap .i64 (n.tdiv (2 : Int)))))))
@[reducible] def s_l09Leaves_1_S (word2 : List Ext) (n : Int) (s : (List (List UInt8)) × Int) : St := ⟨[(0, sl eExt word2), (3, .sl 2000 0 s.1.length), (4, I n), (5, I s.2)], [(2000, ⟨1, false, rws eS s.1⟩)]⟩
@[reducible] def s_l09Leaves_1_E (word2 : List Ext) (n : Int) : ((List (List UInt8)) × Int × Bool) → AExit × St := fun e => (.exit 0, ⟨[(0, sl eExt word2), (3, .sl 2000 0 e.1.length), (4, I n), (5, I e.2.1), (12, B e.2.2)], [(2000, ⟨1, false, rws eS e.1⟩)]⟩)
theorem s_l09Leaves_1_l {word2 n s e} (h : Loop (s_l09Leaves_1_s word2 n) s = some e) : LoopX tab ow (.close [7012,7013,7015,7016]) b_s_l09Leaves_4 (s_l09Leaves_1_S word2 n s) = some (s_l09Leaves_1_E word2 n e) := by
  refine lrG (fun s o h => ?_) h
  obtain ⟨_, _⟩ := s
  simp only [s_l09Leaves_1_s] at h
  simp +decide only [s_l09Leaves_1_S, s_l09Leaves_1_E, b_s_l09Leaves_4, go_sem, reduceIte, Nat.reduceAdd]
  have d1 := @s_l02Bytes_c
  all_goals exact go
noncomputable def s_l09Leaves (word : (List Ext)) : Option ((List (List UInt8))) :=
  (Loop (s_l09Leaves_1_s word ((word.length : Nat) : Int)) (([] : List (List UInt8)), (0 : Int))).bind fun e_ =>
  some e_.1
theorem s_l09Leaves_c {word r} (h : s_l09Leaves word = some r) : Call tab ow 199 [sl eExt word] [] = some (sl eS r, []) := by
  rw [Call_run (af := a_s_l09Leaves) rfl]
  unfold s_l09Leaves at h
  simp +decide only [a_s_l09Leaves, b_s_l09Leaves, go_sem, reduceIte, Nat.reduceAdd]
  have d1 := @s_l09Leaves_1_l
  all_goals exact go
end
noncomputable def s_l04Leaf (t : (List UInt8)) : Option ((List UInt8)) :=
  br (fits ((([0] : List UInt8)).length + t.length) 1) (
    (s_l03Hash ((([0] : List UInt8)) ++ t)).bind fun r_ =>
    some r_) (
    none)
theorem s_l04Leaf_c {t r} (h : s_l04Leaf t = some r) : Call tab ow 270 [S t] [] = some (S r, []) := by
  rw [Call_run (af := a_s_l04Leaf) rfl]
  unfold s_l04Leaf at h
  simp +decide only [a_s_l04Leaf, b_s_l04Leaf, go_sem, reduceIte, Nat.reduceAdd]
  have d1 := @s_l03Hash_c
  all_goals exact go
noncomputable def s_l04Node (a : (List UInt8)) (b : (List UInt8)) : Option ((List UInt8)) :=
  br (fits ((([1] : List UInt8)).length + a.length) 1) (
    br (fits (((([1] : List UInt8)) ++ a).length + b.length) 1) (
      (s_l03Hash (((([1] : List UInt8)) ++ a) ++ b)).bind fun r_ =>
      some r_) (
      none)) (
    none)
theorem s_l04Node_c {a b r} (h : s_l04Node a b = some r) : Call tab ow 271 [S a, S b] [] = some (S r, []) := by
  rw [Call_run (af := a_s_l04Node) rfl]
  unfold s_l04Node at h
  simp +decide only [a_s_l04Node, b_s_l04Node, go_sem, reduceIte, Nat.reduceAdd]
  have d1 := @s_l03Hash_c
  all_goals exact go
section
theorem s_l04Levels_k0 : mkR 2000 [] = rws eS [] := rfl
attribute [local go_sem] s_l04Levels_k0
theorem s_l04Levels_k1 : mkR 6006 [] = rws eS [] := rfl
attribute [local go_sem] s_l04Levels_k1
theorem s_l04Levels_k2 : mkR 7001 [] = rws (eL eS) [] := rfl
attribute [local go_sem] s_l04Levels_k2
theorem s_l04Levels_k3 : mkR 9000 [] = rws eS [] := rfl
attribute [local go_sem] s_l04Levels_k3
theorem s_l04Levels_k4 : mkR 13011 [] = rws eS [] := rfl
attribute [local go_sem] s_l04Levels_k4
theorem s_l04Levels_k5 : mkR 15002 [] = rws (eL eS) [] := rfl
attribute [local go_sem] s_l04Levels_k5
noncomputable def s_l04Levels_1_s (leaves2 : List (List UInt8)) : (List (List UInt8)) × Int → Option (((List (List UInt8)) × Int) ⊕ (((List (List UInt8)) × Int × Bool)))
  | (l, i) =>
    br (decide (i < ((leaves2.length : Nat) : Int))) (
      (atL leaves2 i).bind fun x =>
      (s_l04Leaf x).bind fun r_ =>
      br (fits ((l ++ ([r_] : List (List UInt8))).length) 16) (
        some (.inl ((l ++ ([r_] : List (List UInt8))), (IntKind.wrap .i64 (i + (1 : Int)))))) (
        none)) (
      some (.inr (l, i, decide (i < ((leaves2.length : Nat) : Int)))))
@[reducible] def s_l04Levels_1_S (leaves2 : List (List UInt8)) (s : (List (List UInt8)) × Int) : St := ⟨[(0, sl eS leaves2), (3, .sl 2000 0 s.1.length), (4, I s.2)], [(2000, ⟨1, false, rws eS s.1⟩)]⟩
@[reducible] def s_l04Levels_1_E (leaves2 : List (List UInt8)) : ((List (List UInt8)) × Int × Bool) → AExit × St := fun e => (.exit 0, ⟨[(0, sl eS leaves2), (3, .sl 2000 0 e.1.length), (4, I e.2.1), (12, B e.2.2)], [(2000, ⟨1, false, rws eS e.1⟩)]⟩)
theorem s_l04Levels_1_l {leaves2 s e} (h : Loop (s_l04Levels_1_s leaves2) s = some e) : LoopX tab ow (.close [6005,6006,6007]) b_s_l04Levels_3 (s_l04Levels_1_S leaves2 s) = some (s_l04Levels_1_E leaves2 e) := by
  refine lrG (fun s o h => ?_) h
  obtain ⟨_, _⟩ := s
  simp only [s_l04Levels_1_s] at h
  simp +decide only [s_l04Levels_1_S, s_l04Levels_1_E, b_s_l04Levels_3, go_sem, reduceIte, Nat.reduceAdd]
  have d1 := @s_l04Leaf_c
  all_goals exact go
noncomputable def s_l04Levels_3_s (l3 : List (List (List UInt8))) (level2 : List (List UInt8)) : (List (List UInt8)) × Int → Option (((List (List UInt8)) × Int) ⊕ (((List (List UInt8)) × Int × Bool)))
  | (l4, i2) =>
    br (decide (i2 < ((level2.length : Nat) : Int))) (
      (atL level2 i2).bind fun x2 =>
      (atL level2 (IntKind.wrap .i64 (i2 + (1 : Int)))).bind fun x3 =>
      (s_l04Node x2 x3).bind fun r_2 =>
      br (fits ((l4 ++ ([r_2] : List (List UInt8))).length) 16) (
        some (.inl ((l4 ++ ([r_2] : List (List UInt8))), (IntKind.wrap .i64 (i2 + (2 : Int)))))) (
        none)) (
      some (.inr (l4, i2, decide (i2 < ((level2.length : Nat) : Int)))))
@[reducible] def s_l04Levels_3_S (l3 : List (List (List UInt8))) (level2 : List (List UInt8)) (s : (List (List UInt8)) × Int) : St := ⟨[(3, sl eS level2), (5, .sl 7001 0 l3.length), (6, .sl 9000 0 s.1.length), (7, I s.2)], [(7001, ⟨1, false, rws (eL eS) l3⟩), (9000, ⟨1, false, rws eS s.1⟩)]⟩
@[reducible] def s_l04Levels_3_E (l3 : List (List (List UInt8))) (level2 : List (List UInt8)) : ((List (List UInt8)) × Int × Bool) → AExit × St := fun e => (.exit 4, ⟨[(3, sl eS level2), (5, .sl 7001 0 l3.length), (6, .sl 9000 0 e.1.length), (7, I e.2.1), (32, B e.2.2)], [(7001, ⟨1, false, rws (eL eS) l3⟩), (9000, ⟨1, false, rws eS e.1⟩)]⟩)
theorem s_l04Levels_3_l {l3 level2 s e} (h : Loop (s_l04Levels_3_s l3 level2) s = some e) : LoopX tab ow (.close [13010,13011,13012]) b_s_l04Levels_10 (s_l04Levels_3_S l3 level2 s) = some (s_l04Levels_3_E l3 level2 e) := by
  refine lrG (fun s o h => ?_) h
  obtain ⟨_, _⟩ := s
  simp only [s_l04Levels_3_s] at h
  simp +decide only [s_l04Levels_3_S, s_l04Levels_3_E, b_s_l04Levels_10, go_sem, reduceIte, Nat.reduceAdd]
  have d1 := @s_l04Node_c
  all_goals exact go
noncomputable def s_l04Levels_2_s : (List (List (List UInt8))) × (List (List UInt8)) → Option (((List (List (List UInt8))) × (List (List UInt8))) ⊕ (((List (List (List UInt8))) × (List (List UInt8)) × Bool)))
  | (l2, level) =>
    br (decide (((level.length : Nat) : Int) > (1 : Int))) (
      (Loop (s_l04Levels_3_s l2 level) (([] : List (List UInt8)), (0 : Int))).bind fun e_2 =>
      br (fits ((l2 ++ ([e_2.1] : List (List (List UInt8)))).length) 24) (
        some (.inl ((l2 ++ ([e_2.1] : List (List (List UInt8)))), e_2.1))) (
        none)) (
      some (.inr (l2, level, decide (((level.length : Nat) : Int) > (1 : Int)))))
@[reducible] def s_l04Levels_2_S (s : (List (List (List UInt8))) × (List (List UInt8))) : St := ⟨[(3, sl eS s.2), (5, .sl 7001 0 s.1.length)], [(7001, ⟨1, false, rws (eL eS) s.1⟩)]⟩
@[reducible] def s_l04Levels_2_E : ((List (List (List UInt8))) × (List (List UInt8)) × Bool) → AExit × St := fun e => (.exit 2, ⟨[(3, sl eS e.2.1), (5, .sl 7001 0 e.1.length), (27, B e.2.2)], [(7001, ⟨1, false, rws (eL eS) e.1⟩)]⟩)
theorem s_l04Levels_2_l { s e} (h : Loop (s_l04Levels_2_s) s = some e) : LoopX tab ow (.close [9000,13010,13011,13012,15002,15003]) b_s_l04Levels_7 (s_l04Levels_2_S s) = some (s_l04Levels_2_E e) := by
  refine lrG (fun s o h => ?_) h
  obtain ⟨_, _⟩ := s
  simp only [s_l04Levels_2_s] at h
  simp +decide only [s_l04Levels_2_S, s_l04Levels_2_E, b_s_l04Levels_7, go_sem, reduceIte, Nat.reduceAdd]
  have d1 := @s_l04Levels_3_l
  all_goals exact go
noncomputable def s_l04Levels (leaves : (List (List UInt8))) : Option ((List (List (List UInt8)))) :=
  (Loop (s_l04Levels_1_s leaves) (([] : List (List UInt8)), (0 : Int))).bind fun e_ =>
  (Loop (s_l04Levels_2_s) (([e_.1] : List (List (List UInt8))), e_.1)).bind fun e_3 =>
  some e_3.1
theorem s_l04Levels_c {leaves r} (h : s_l04Levels leaves = some r) : Call tab ow 203 [sl eS leaves] [] = some (sl (eL eS) r, []) := by
  rw [Call_run (af := a_s_l04Levels) rfl]
  unfold s_l04Levels at h
  simp +decide only [a_s_l04Levels, b_s_l04Levels, go_sem, reduceIte, Nat.reduceAdd]
  have d1 := @s_l04Levels_1_l
  have d2 := @s_l04Levels_2_l
  all_goals exact go
end
noncomputable def s_l04Root (leaves : (List (List UInt8))) : Option ((List UInt8)) :=
  (s_l04Levels leaves).bind fun r_ =>
  (atL r_ (IntKind.wrap .i64 (((r_.length : Nat) : Int) - (1 : Int)))).bind fun x =>
  (atL x (0 : Int)).bind fun x2 =>
  some x2
theorem s_l04Root_c {leaves r} (h : s_l04Root leaves = some r) : Call tab ow 198 [sl eS leaves] [] = some (S r, []) := by
  rw [Call_run (af := a_s_l04Root) rfl]
  unfold s_l04Root at h
  simp +decide only [a_s_l04Root, b_s_l04Root, go_sem, reduceIte, Nat.reduceAdd]
  have d1 := @s_l04Levels_c
  all_goals exact go
noncomputable def s_l05Fits (s : Source) (bits : Int) (nonce : Int) : Option (Bool) :=
  br (fits (s.State.length + (([103, 114, 105, 110, 100] : List UInt8)).length) 1) (
    (s_l02Number nonce (4 : Int)).bind fun r_ =>
    br (fits ((s.State ++ (([103, 114, 105, 110, 100] : List UInt8))).length + r_.length) 1) (
      (s_l03Hash ((s.State ++ (([103, 114, 105, 110, 100] : List UInt8))) ++ r_)).bind fun r_2 =>
      (atL r_2 (0 : Int)).bind fun c =>
      (atL r_2 (1 : Int)).bind fun c2 =>
      br (decide (0 ≤ (IntKind.wrap .u64 (IntKind.wrap .i64 ((16 : Int) - bits))))) (
        some ((shr64 .i64 (IntKind.wrap .i64 ((IntKind.wrap .i64 ((IntKind.wrap .i64 (c.toNat : Int)) * (256 : Int))) + (IntKind.wrap .i64 (c2.toNat : Int)))) (IntKind.wrap .u64 (IntKind.wrap .i64 ((16 : Int) - bits)))) == (0 : Int))) (
        none)) (
      none)) (
    none)
theorem s_l05Fits_c {s bits nonce r} (h : s_l05Fits s bits nonce = some r) : Call tab ow 268 [.agg [sl eExt s.Script, I s.At, S s.State, I s.Count], I bits, I nonce] [] = some (B r, []) := by
  rw [Call_run (af := a_s_l05Fits) rfl]
  unfold s_l05Fits at h
  simp +decide only [a_s_l05Fits, b_s_l05Fits, go_sem, reduceIte, Nat.reduceAdd]
  have d1 := @s_l02Number_c
  have d2 := @s_l03Hash_c
  all_goals exact go
noncomputable def s_l05Grind_1_s (bits2 : Int) (c : List Ext) (c2 : Int) (c3 : List UInt8) (c4 : Int) : Int → Option ((Int) ⊕ (Int ⊕ (Int × Bool)))
  | nonce =>
    br (decide (nonce < (65536 : Int))) (
      (s_l05Fits (Source.mk c c2 c3 c4) bits2 nonce).bind fun r_ =>
      br r_ (
        some (.inr (.inl nonce))) (
        some (.inl (IntKind.wrap .i64 (nonce + (1 : Int)))))) (
      some (.inr (.inr (nonce, decide (nonce < (65536 : Int))))))
@[reducible] def s_l05Grind_1_S (bits2 : Int) (c : List Ext) (c2 : Int) (c3 : List UInt8) (c4 : Int) (s : Int) : St := ⟨[(1, I bits2), (2, .ptr 1000 0 0 1), (6, I s)], [(1000, ⟨4, true, [[sl eExt c, I c2, S c3, I c4]]⟩)]⟩
@[reducible] def s_l05Grind_1_E (bits2 : Int) (c : List Ext) (c2 : Int) (c3 : List UInt8) (c4 : Int) : (Int ⊕ (Int × Bool)) → AExit × St := alt (fun e => ((.ret, ⟨[(4, I e), (5, B true)], [(1000, ⟨4, true, [[sl eExt c, I c2, S c3, I c4]]⟩)]⟩) : AExit × St)) (fun e => (.exit 0, ⟨[(1, I bits2), (2, .ptr 1000 0 0 1), (6, I e.1), (8, B e.2)], [(1000, ⟨4, true, [[sl eExt c, I c2, S c3, I c4]]⟩)]⟩))
theorem s_l05Grind_1_l {bits2 c c2 c3 c4 s e} (h : Loop (s_l05Grind_1_s bits2 c c2 c3 c4) s = some e) : LoopX tab ow (.close [5003]) b_s_l05Grind_2 (s_l05Grind_1_S bits2 c c2 c3 c4 s) = some (s_l05Grind_1_E bits2 c c2 c3 c4 e) := by
  refine lrG (fun s o h => ?_) h
  simp only [s_l05Grind_1_s] at h
  simp +decide only [s_l05Grind_1_S, s_l05Grind_1_E, b_s_l05Grind_2, go_sem, reduceIte, Nat.reduceAdd]
  have d1 := @s_l05Fits_c
  all_goals exact go
noncomputable def s_l05Grind (s : Source) (bits : Int) : Option (Int × Bool) :=
  (Loop (s_l05Grind_1_s bits s.Script s.At s.State s.Count) (0 : Int)).bind (alt (fun e_2 =>
    some (e_2, true)) (fun e_3 =>
    some ((0 : Int), false)))
theorem s_l05Grind_c {s bits r} (h : s_l05Grind s bits = some r) : Call tab ow 200 [.agg [sl eExt s.Script, I s.At, S s.State, I s.Count], I bits] [] = some (.tup [I r.1, B r.2], []) := by
  rw [Call_run (af := a_s_l05Grind) rfl]
  unfold s_l05Grind at h
  simp +decide only [a_s_l05Grind, b_s_l05Grind, go_sem, reduceIte, Nat.reduceAdd]
  have d1 := @s_l05Grind_1_l
  all_goals exact go
section
theorem s_l05Some_k0 : mkR 2000 [] = rws eExt [] := rfl
attribute [local go_sem] s_l05Some_k0
theorem s_l05Some_k1 : mkR 8002 [] = rws eExt [] := rfl
attribute [local go_sem] s_l05Some_k1
noncomputable def s_l05Some_1_s (n2 : Int) (c5 : Int) (c6 : List UInt8) (c7 : Int) : (List Ext) × Int × (List Ext) × Int × (List UInt8) × Int → Option (((List Ext) × Int × (List Ext) × Int × (List UInt8) × Int) ⊕ (((List Ext) × Int × Bool × (List Ext) × Int × (List UInt8) × Int)))
  | (l, i, c, c2, c3, c4) =>
    br (decide (i < n2)) (
      (s_l05Draw (Source.mk c c2 c3 c4)).bind fun r_ =>
      br (fits ((l ++ ([r_.2] : List Ext)).length) 16) (
        some (.inl ((l ++ ([r_.2] : List Ext)), (IntKind.wrap .i64 (i + (1 : Int))), r_.1.Script, r_.1.At, r_.1.State, r_.1.Count))) (
        none)) (
      some (.inr (l, i, decide (i < n2), c, c2, c3, c4)))
@[reducible] def s_l05Some_1_S (n2 : Int) (c5 : Int) (c6 : List UInt8) (c7 : Int) (s : (List Ext) × Int × (List Ext) × Int × (List UInt8) × Int) : St := ⟨[(1, I n2), (2, .ptr 1000 0 0 1), (4, .ptr 1001 0 0 1), (6, .sl 2000 0 s.1.length), (7, I s.2.1)], [(1000, ⟨4, true, [[sl eExt s.2.2.1, I s.2.2.2.1, S s.2.2.2.2.1, I s.2.2.2.2.2]]⟩), (1001, ⟨4, true, [[.lit (.slice none 0 0), I c5, S c6, I c7]]⟩), (2000, ⟨2, false, rws eExt s.1⟩)]⟩
@[reducible] def s_l05Some_1_E (n2 : Int) (c5 : Int) (c6 : List UInt8) (c7 : Int) : ((List Ext) × Int × Bool × (List Ext) × Int × (List UInt8) × Int) → AExit × St := fun e => (.exit 0, ⟨[(1, I n2), (2, .ptr 1000 0 0 1), (4, .ptr 1001 0 0 1), (6, .sl 2000 0 e.1.length), (7, I e.2.1), (13, B e.2.2.1)], [(1000, ⟨4, true, [[sl eExt e.2.2.2.1, I e.2.2.2.2.1, S e.2.2.2.2.2.1, I e.2.2.2.2.2.2]]⟩), (1001, ⟨4, true, [[.lit (.slice none 0 0), I c5, S c6, I c7]]⟩), (2000, ⟨2, false, rws eExt e.1⟩)]⟩)
theorem s_l05Some_1_l {n2 c5 c6 c7 s e} (h : Loop (s_l05Some_1_s n2 c5 c6 c7) s = some e) : LoopX tab ow (.close [6001,6005,6006,8002,8003]) b_s_l05Some_3 (s_l05Some_1_S n2 c5 c6 c7 s) = some (s_l05Some_1_E n2 c5 c6 c7 e) := by
  refine lrG (fun s o h => ?_) h
  obtain ⟨_, _, _, _, _, _⟩ := s
  simp only [s_l05Some_1_s] at h
  simp +decide only [s_l05Some_1_S, s_l05Some_1_E, b_s_l05Some_3, go_sem, reduceIte, Nat.reduceAdd]
  have d1 := @s_l05Draw_c
  all_goals exact go
noncomputable def s_l05Some (s : Source) (n : Int) : Option (Source × (List Ext)) :=
  (Loop (s_l05Some_1_s n (0 : Int) (([] : List UInt8)) (0 : Int)) (([] : List Ext), (0 : Int), s.Script, s.At, s.State, s.Count)).bind fun e_ =>
  some ((Source.mk e_.2.2.2.1 e_.2.2.2.2.1 e_.2.2.2.2.2.1 e_.2.2.2.2.2.2), e_.1)
theorem s_l05Some_c {s n r} (h : s_l05Some s n = some r) : Call tab ow 269 [.agg [sl eExt s.Script, I s.At, S s.State, I s.Count], I n] [] = some (.tup [.agg [sl eExt r.1.Script, I r.1.At, S r.1.State, I r.1.Count], sl eExt r.2], []) := by
  rw [Call_run (af := a_s_l05Some) rfl]
  unfold s_l05Some at h
  simp +decide only [a_s_l05Some, b_s_l05Some, go_sem, reduceIte, Nat.reduceAdd]
  have d1 := @s_l05Some_1_l
  all_goals exact go
end
section
theorem s_l05Places_k0 : mkR 3000 [] = rws eI [] := rfl
attribute [local go_sem] s_l05Places_k0
theorem s_l05Places_k1 : mkR 7008 [] = rws eI [] := rfl
attribute [local go_sem] s_l05Places_k1
noncomputable def s_l05Places_1_s (n2 : Int) (most2 : Int) (list : List Ext) (c : List Ext) (c2 : Int) (c3 : List UInt8) (c4 : Int) (c5 : Int) (c6 : List UInt8) (c7 : Int) (c8 : List Ext) (c9 : Int) (c10 : List UInt8) (c11 : Int) : (List Int) × Int → Option (((List Int) × Int) ⊕ (((List Int) × Int × Bool)))
  | (l, i) =>
    br (decide (i < n2)) (
      (atL list i).bind fun x =>
      br (decide (most2 ≠ 0)) (
        br (fits ((l ++ ([(x.A.tmod most2)] : List Int)).length) 8) (
          some (.inl ((l ++ ([(x.A.tmod most2)] : List Int)), (IntKind.wrap .i64 (i + (1 : Int)))))) (
          none)) (
        none)) (
      some (.inr (l, i, decide (i < n2))))
@[reducible] def s_l05Places_1_S (n2 : Int) (most2 : Int) (list : List Ext) (c : List Ext) (c2 : Int) (c3 : List UInt8) (c4 : Int) (c5 : Int) (c6 : List UInt8) (c7 : Int) (c8 : List Ext) (c9 : Int) (c10 : List UInt8) (c11 : Int) (s : (List Int) × Int) : St := ⟨[(1, I n2), (2, I most2), (6, .ptr 1001 0 0 1), (8, .ptr 2006 0 0 1), (9, sl eExt list), (10, .sl 3000 0 s.1.length), (11, I s.2)], [(1000, ⟨4, true, [[sl eExt c, I c2, S c3, I c4]]⟩), (1001, ⟨4, true, [[.lit (.slice none 0 0), I c5, S c6, I c7]]⟩), (2006, ⟨4, true, [[sl eExt c8, I c9, S c10, I c11]]⟩), (3000, ⟨1, false, rws eI s.1⟩)]⟩
@[reducible] def s_l05Places_1_E (n2 : Int) (most2 : Int) (list : List Ext) (c : List Ext) (c2 : Int) (c3 : List UInt8) (c4 : Int) (c5 : Int) (c6 : List UInt8) (c7 : Int) (c8 : List Ext) (c9 : Int) (c10 : List UInt8) (c11 : Int) : ((List Int) × Int × Bool) → AExit × St := fun e => (.exit 0, ⟨[(1, I n2), (2, I most2), (6, .ptr 1001 0 0 1), (8, .ptr 2006 0 0 1), (9, sl eExt list), (10, .sl 3000 0 e.1.length), (11, I e.2.1), (21, B e.2.2)], [(1000, ⟨4, true, [[sl eExt c, I c2, S c3, I c4]]⟩), (1001, ⟨4, true, [[.lit (.slice none 0 0), I c5, S c6, I c7]]⟩), (2006, ⟨4, true, [[sl eExt c8, I c9, S c10, I c11]]⟩), (3000, ⟨1, false, rws eI e.1⟩)]⟩)
theorem s_l05Places_1_l {n2 most2 list c c2 c3 c4 c5 c6 c7 c8 c9 c10 c11 s e} (h : Loop (s_l05Places_1_s n2 most2 list c c2 c3 c4 c5 c6 c7 c8 c9 c10 c11) s = some e) : LoopX tab ow (.close [7008,7009]) b_s_l05Places_4 (s_l05Places_1_S n2 most2 list c c2 c3 c4 c5 c6 c7 c8 c9 c10 c11 s) = some (s_l05Places_1_E n2 most2 list c c2 c3 c4 c5 c6 c7 c8 c9 c10 c11 e) := by
  refine lrG (fun s o h => ?_) h
  obtain ⟨_, _⟩ := s
  simp only [s_l05Places_1_s] at h
  simp +decide only [s_l05Places_1_S, s_l05Places_1_E, b_s_l05Places_4, go_sem, reduceIte, Nat.reduceAdd]
  all_goals exact go
noncomputable def s_l05Places (s : Source) (n : Int) (most : Int) : Option (Source × (List Int)) :=
  (s_l05Some s n).bind fun r_ =>
  (Loop (s_l05Places_1_s n most r_.2 s.Script s.At s.State s.Count (0 : Int) (([] : List UInt8)) (0 : Int) r_.1.Script r_.1.At r_.1.State r_.1.Count) (([] : List Int), (0 : Int))).bind fun e_ =>
  some (r_.1, e_.1)
theorem s_l05Places_c {s n most r} (h : s_l05Places s n most = some r) : Call tab ow 201 [.agg [sl eExt s.Script, I s.At, S s.State, I s.Count], I n, I most] [] = some (.tup [.agg [sl eExt r.1.Script, I r.1.At, S r.1.State, I r.1.Count], sl eI r.2], []) := by
  rw [Call_run (af := a_s_l05Places) rfl]
  unfold s_l05Places at h
  simp +decide only [a_s_l05Places, b_s_l05Places, go_sem, reduceIte, Nat.reduceAdd]
  have d1 := @s_l05Some_c
  have d2 := @s_l05Places_1_l
  all_goals exact go
end
section
theorem s_l04Path_k0 : mkR 2000 [] = rws eS [] := rfl
attribute [local go_sem] s_l04Path_k0
theorem s_l04Path_k1 : mkR 6009 [] = rws eS [] := rfl
attribute [local go_sem] s_l04Path_k1
noncomputable def s_l04Path_1_s (levels2 : List (List (List UInt8))) : (List (List UInt8)) × Int × Int → Option (((List (List UInt8)) × Int × Int) ⊕ (((List (List UInt8)) × Int × Int × Bool)))
  | (l, i2, k) =>
    br (decide ((IntKind.wrap .i64 (k + (1 : Int))) < ((levels2.length : Nat) : Int))) (
      (atL levels2 k).bind fun x =>
      (atL x (xor64 .i64 i2 (1 : Int))).bind fun x2 =>
      br (fits ((l ++ ([x2] : List (List UInt8))).length) 16) (
        some (.inl ((l ++ ([x2] : List (List UInt8))), (IntKind.wrap .i64 (i2.tdiv (2 : Int))), (IntKind.wrap .i64 (k + (1 : Int)))))) (
        none)) (
      some (.inr (l, i2, k, decide ((IntKind.wrap .i64 (k + (1 : Int))) < ((levels2.length : Nat) : Int)))))
@[reducible] def s_l04Path_1_S (levels2 : List (List (List UInt8))) (s : (List (List UInt8)) × Int × Int) : St := ⟨[(0, sl (eL eS) levels2), (1, I s.2.1), (5, .sl 2000 0 s.1.length), (6, I s.2.2)], [(2000, ⟨1, false, rws eS s.1⟩)]⟩
@[reducible] def s_l04Path_1_E (levels2 : List (List (List UInt8))) : ((List (List UInt8)) × Int × Int × Bool) → AExit × St := fun e => (.exit 0, ⟨[(0, sl (eL eS) levels2), (1, I e.2.1), (5, .sl 2000 0 e.1.length), (6, I e.2.2.1), (12, B e.2.2.2)], [(2000, ⟨1, false, rws eS e.1⟩)]⟩)
theorem s_l04Path_1_l {levels2 s e} (h : Loop (s_l04Path_1_s levels2) s = some e) : LoopX tab ow (.close [6009,6010]) b_s_l04Path_3 (s_l04Path_1_S levels2 s) = some (s_l04Path_1_E levels2 e) := by
  refine lrG (fun s o h => ?_) h
  obtain ⟨_, _, _⟩ := s
  simp only [s_l04Path_1_s] at h
  simp +decide only [s_l04Path_1_S, s_l04Path_1_E, b_s_l04Path_3, go_sem, reduceIte, Nat.reduceAdd]
  all_goals exact go
noncomputable def s_l04Path (levels : (List (List (List UInt8)))) (i : Int) : Option ((List (List UInt8))) :=
  (Loop (s_l04Path_1_s levels) (([] : List (List UInt8)), i, (0 : Int))).bind fun e_ =>
  some e_.1
theorem s_l04Path_c {levels i r} (h : s_l04Path levels i = some r) : Call tab ow 202 [sl (eL eS) levels, I i] [] = some (sl eS r, []) := by
  rw [Call_run (af := a_s_l04Path) rfl]
  unfold s_l04Path at h
  simp +decide only [a_s_l04Path, b_s_l04Path, go_sem, reduceIte, Nat.reduceAdd]
  have d1 := @s_l04Path_1_l
  all_goals exact go
end
end Go.AI.Fn

set_option linter.unusedVariables false
set_option linter.unusedSimpArgs false
set_option maxRecDepth 100000
set_option maxHeartbeats 1000000
namespace Go.AI.Fn
section
theorem s_l09Open_k0 : mkR 2000 [] = rws (eL eExt) [] := rfl
attribute [local go_sem] s_l09Open_k0
theorem s_l09Open_k1 : mkR 2001 [] = rws eS [] := rfl
attribute [local go_sem] s_l09Open_k1
theorem s_l09Open_k2 : mkR 2002 [] = rws eQuery [] := rfl
attribute [local go_sem] s_l09Open_k2
theorem s_l09Open_k3 : mkR 3000 [] = rws eExt [] := rfl
attribute [local go_sem] s_l09Open_k3
theorem s_l09Open_k4 : mkR 3005 [] = rws (eL eExt) [] := rfl
attribute [local go_sem] s_l09Open_k4
theorem s_l09Open_k5 : mkR 5000 [] = rws (eL eExt) [] := rfl
attribute [local go_sem] s_l09Open_k5
theorem s_l09Open_k6 : mkR 7002 [] = rws (eL eExt) [] := rfl
attribute [local go_sem] s_l09Open_k6
theorem s_l09Open_k7 : mkR 14003 [] = rws (eL eExt) [] := rfl
attribute [local go_sem] s_l09Open_k7
theorem s_l09Open_k8 : mkR 18003 [] = rws eS [] := rfl
attribute [local go_sem] s_l09Open_k8
theorem s_l09Open_k9 : mkR 20003 [] = rws eExt [] := rfl
attribute [local go_sem] s_l09Open_k9
theorem s_l09Open_k10 : mkR 31000 [] = rws eExt [] := rfl
attribute [local go_sem] s_l09Open_k10
theorem s_l09Open_k11 : mkR 31001 [] = rws (eL eS) [] := rfl
attribute [local go_sem] s_l09Open_k11
theorem s_l09Open_k12 : mkR 38018 [] = rws eExt [] := rfl
attribute [local go_sem] s_l09Open_k12
theorem s_l09Open_k13 : mkR 39010 [] = rws (eL eS) [] := rfl
attribute [local go_sem] s_l09Open_k13
theorem s_l09Open_k14 : mkR 40003 [] = rws eQuery [] := rfl
attribute [local go_sem] s_l09Open_k14
noncomputable def s_l09Open_1_s (l3 : List Query) (c : Int) (c2 : Int) (c3 : Int) (c8 : Int) (c9 : Int) (c10 : Int) (c11 : Int) (c12 : List UInt8) (c13 : Int) (c14 : Int) (c15 : Int) (c16 : Int) : (List (List Ext)) × (List (List UInt8)) × (List (List Ext)) × (List (List Ext)) × (List Ext) × (List Ext) × Int × (List UInt8) × Int → Option (((List (List Ext)) × (List (List UInt8)) × (List (List Ext)) × (List (List Ext)) × (List Ext) × (List Ext) × Int × (List UInt8) × Int) ⊕ (((List (List Ext)) × (List (List UInt8)) × (List (List Ext)) × (List (List Ext)) × (List Ext) × Bool × (List Ext) × Int × (List UInt8) × Int)))
  | (l, l2, l4, t, t2, c4, c5, c6, c7) =>
    (atL t (0 : Int)).bind fun x =>
    br (decide (((x.length : Nat) : Int) > (1 : Int))) (
      br (fits ((l4 ++ ([t2] : List (List Ext))).length) 24) (
        (s_l08Round (1 : Int) t).bind fun r_3 =>
        (s_l05Exts (Source.mk c4 c5 c6 c7) r_3).bind fun r_4 =>
        (s_l05Draw r_4).bind fun r_5 =>
        (s_l08Bind t r_5.2).bind fun r_6 =>
        (s_l07Fold t2 r_5.2).bind fun r_7 =>
        br (fits ((l ++ ([r_3] : List (List Ext))).length) 24) (
          (atL r_6 (0 : Int)).bind fun x2 =>
          br (decide (((x2.length : Nat) : Int) > (1 : Int))) (
            (s_l09Leaves r_7).bind fun r_8 =>
            (s_l04Root r_8).bind fun r_9 =>
            (s_l05Absorb r_5.1 r_9).bind fun r_10 =>
            br (fits ((l2 ++ ([r_9] : List (List UInt8))).length) 16) (
              some (.inl ((l ++ ([r_3] : List (List Ext))), (l2 ++ ([r_9] : List (List UInt8))), (l4 ++ ([t2] : List (List Ext))), r_6, r_7, r_10.Script, r_10.At, r_10.State, r_10.Count))) (
              none)) (
            some (.inl ((l ++ ([r_3] : List (List Ext))), l2, (l4 ++ ([t2] : List (List Ext))), r_6, r_7, r_5.1.Script, r_5.1.At, r_5.1.State, r_5.1.Count)))) (
          none)) (
        none)) (
      some (.inr (l, l2, l4, t, t2, decide (((x.length : Nat) : Int) > (1 : Int)), c4, c5, c6, c7)))
@[reducible] def s_l09Open_1_S (l3 : List Query) (c : Int) (c2 : Int) (c3 : Int) (c8 : Int) (c9 : Int) (c10 : Int) (c11 : Int) (c12 : List UInt8) (c13 : Int) (c14 : Int) (c15 : Int) (c16 : Int) (s : (List (List Ext)) × (List (List UInt8)) × (List (List Ext)) × (List (List Ext)) × (List Ext) × (List Ext) × Int × (List UInt8) × Int) : St := ⟨[(6, .ptr 1000 0 0 1), (7, .ptr 1001 0 0 1), (8, .ptr 1002 0 0 1), (9, .ptr 1003 0 0 1), (11, .ptr 2004 0 0 1), (12, sl (eL eExt) s.2.2.2.1), (13, sl eExt s.2.2.2.2.1), (14, .sl 5000 0 s.2.2.1.length), (79, .undef)], [(1000, ⟨3, true, [[I c, I c2, I c3]]⟩), (1001, ⟨4, true, [[sl eExt s.2.2.2.2.2.1, I s.2.2.2.2.2.2.1, S s.2.2.2.2.2.2.2.1, I s.2.2.2.2.2.2.2.2]]⟩), (1002, ⟨6, true, [[.lit (.slice none 0 0), .lit (.slice none 0 0), I c8, I c9, I c10, .lit (.slice none 0 0)]]⟩), (1003, ⟨4, true, [[.lit (.slice none 0 0), I c11, S c12, I c13]]⟩), (2000, ⟨1, false, rws (eL eExt) s.1⟩), (2001, ⟨1, false, rws eS s.2.1⟩), (2002, ⟨2, false, rws eQuery l3⟩), (2004, ⟨6, true, [[.sl 2000 0 s.1.length, .sl 2001 0 s.2.1.length, I c14, I c15, I c16, .sl 2002 0 l3.length]]⟩), (3000, dead), (5000, ⟨1, false, rws (eL eExt) s.2.2.1⟩)]⟩
@[reducible] def s_l09Open_1_E (l3 : List Query) (c : Int) (c2 : Int) (c3 : Int) (c8 : Int) (c9 : Int) (c10 : Int) (c11 : Int) (c12 : List UInt8) (c13 : Int) (c14 : Int) (c15 : Int) (c16 : Int) : ((List (List Ext)) × (List (List UInt8)) × (List (List Ext)) × (List (List Ext)) × (List Ext) × Bool × (List Ext) × Int × (List UInt8) × Int) → AExit × St := fun e => (.exit 0, ⟨[(6, .ptr 1000 0 0 1), (7, .ptr 1001 0 0 1), (8, .ptr 1002 0 0 1), (9, .ptr 1003 0 0 1), (11, .ptr 2004 0 0 1), (12, sl (eL eExt) e.2.2.2.1), (13, sl eExt e.2.2.2.2.1), (14, .sl 5000 0 e.2.2.1.length), (47, B e.2.2.2.2.2.1)], [(1000, ⟨3, true, [[I c, I c2, I c3]]⟩), (1001, ⟨4, true, [[sl eExt e.2.2.2.2.2.2.1, I e.2.2.2.2.2.2.2.1, S e.2.2.2.2.2.2.2.2.1, I e.2.2.2.2.2.2.2.2.2]]⟩), (1002, ⟨6, true, [[.lit (.slice none 0 0), .lit (.slice none 0 0), I c8, I c9, I c10, .lit (.slice none 0 0)]]⟩), (1003, ⟨4, true, [[.lit (.slice none 0 0), I c11, S c12, I c13]]⟩), (2000, ⟨1, false, rws (eL eExt) e.1⟩), (2001, ⟨1, false, rws eS e.2.1⟩), (2002, ⟨2, false, rws eQuery l3⟩), (2004, ⟨6, true, [[.sl 2000 0 e.1.length, .sl 2001 0 e.2.1.length, I c14, I c15, I c16, .sl 2002 0 l3.length]]⟩), (3000, dead), (5000, ⟨1, false, rws (eL eExt) e.2.2.1⟩)]⟩)
theorem s_l09Open_1_l {l3 c c2 c3 c8 c9 c10 c11 c12 c13 c14 c15 c16 s e} (h : Loop (s_l09Open_1_s l3 c c2 c3 c8 c9 c10 c11 c12 c13 c14 c15 c16) s = some e) : LoopX tab ow (.both (.close [7002,7003,8001,9002,10001,10005,10006,12002,13002,14003,14004,16001,16002,17002,18003,18004,3005]) (.drop [79])) b_s_l09Open_5 (s_l09Open_1_S l3 c c2 c3 c8 c9 c10 c11 c12 c13 c14 c15 c16 s) = some (s_l09Open_1_E l3 c c2 c3 c8 c9 c10 c11 c12 c13 c14 c15 c16 e) := by
  refine lrG (fun s o h => ?_) h
  obtain ⟨_, _, _, _, _, _, _, _, _⟩ := s
  simp only [s_l09Open_1_s] at h
  simp +decide only [s_l09Open_1_S, s_l09Open_1_E, b_s_l09Open_5, go_sem, reduceIte, Nat.reduceAdd]
  have d1 := @s_l08Round_c
  have d2 := @s_l05Exts_c
  have d3 := @s_l05Draw_c
  have d4 := @s_l08Bind_c
  have d5 := @s_l07Fold_c
  have d6 := @s_l09Leaves_c
  have d7 := @s_l04Root_c
  have d8 := @s_l05Absorb_c
  all_goals exact go
noncomputable def s_l09Open_3_s (l9 : List (List Ext)) (l10 : List (List UInt8)) (l11 : List Query) (l12 : List (List Ext)) (t5 : List Int) (t6 : Int) (c37 : Int) (c38 : Int) (c39 : Int) (c40 : List Ext) (c41 : Int) (c42 : List UInt8) (c43 : Int) (c44 : Int) (c45 : Int) (c46 : Int) (c47 : Int) (c48 : List UInt8) (c49 : Int) (c50 : Int) (c51 : Int) (c52 : Int) (c53 : List Ext) (c54 : Int) (c55 : List UInt8) (c56 : Int) : (List Ext) × (List (List (List UInt8))) × Int × Int → Option (((List Ext) × (List (List (List UInt8))) × Int × Int) ⊕ (((List Ext) × (List (List (List UInt8))) × Int × Int × Bool)))
  | (l13, l14, t7, t8) =>
    br (decide (t8 < ((l12.length : Nat) : Int))) (
      br (decide (0 ≤ t8)) (
        br (decide (t8.toNat < l12.length)) (
          (l12[t8.toNat]?).bind fun x7 =>
          br (decide ((IntKind.wrap .i64 (((x7.length : Nat) : Int).tdiv (2 : Int))) ≠ 0)) (
            br (decide (0 ≤ t8)) (
              br (decide (t8.toNat < l12.length)) (
                (l12[t8.toNat]?).bind fun x8 =>
                (atL x8 (t7.tmod (IntKind.wrap .i64 (((x7.length : Nat) : Int).tdiv (2 : Int))))).bind fun x9 =>
                br (decide (0 ≤ t8)) (
                  br (decide (t8.toNat < l12.length)) (
                    (l12[t8.toNat]?).bind fun x10 =>
                    (atL x10 (IntKind.wrap .i64 ((t7.tmod (IntKind.wrap .i64 (((x7.length : Nat) : Int).tdiv (2 : Int)))) + (IntKind.wrap .i64 (((x7.length : Nat) : Int).tdiv (2 : Int)))))).bind fun x11 =>
                    br (fits ((l13 ++ ([x9, x11] : List Ext)).length) 16) (
                      br (decide (0 ≤ t8)) (
                        br (decide (t8.toNat < l12.length)) (
                          (l12[t8.toNat]?).bind fun x12 =>
                          (s_l09Leaves x12).bind fun r_16 =>
                          (s_l04Levels r_16).bind fun r_17 =>
                          (s_l04Path r_17 (t7.tmod (IntKind.wrap .i64 (((x7.length : Nat) : Int).tdiv (2 : Int))))).bind fun r_18 =>
                          br (fits ((l14 ++ ([r_18] : List (List (List UInt8)))).length) 24) (
                            some (.inl ((l13 ++ ([x9, x11] : List Ext)), (l14 ++ ([r_18] : List (List (List UInt8)))), (t7.tmod (IntKind.wrap .i64 (((x7.length : Nat) : Int).tdiv (2 : Int)))), (IntKind.wrap .i64 (t8 + (1 : Int)))))) (
                            none)) (
                          none)) (
                        none)) (
                      none)) (
                    none)) (
                  none)) (
                none)) (
              none)) (
            none)) (
          none)) (
        none)) (
      some (.inr (l13, l14, t7, t8, decide (t8 < ((l12.length : Nat) : Int)))))
@[reducible] def s_l09Open_3_S (l9 : List (List Ext)) (l10 : List (List UInt8)) (l11 : List Query) (l12 : List (List Ext)) (t5 : List Int) (t6 : Int) (c37 : Int) (c38 : Int) (c39 : Int) (c40 : List Ext) (c41 : Int) (c42 : List UInt8) (c43 : Int) (c44 : Int) (c45 : Int) (c46 : Int) (c47 : Int) (c48 : List UInt8) (c49 : Int) (c50 : Int) (c51 : Int) (c52 : Int) (c53 : List Ext) (c54 : Int) (c55 : List UInt8) (c56 : Int) (s : (List Ext) × (List (List (List UInt8))) × Int × Int) : St := ⟨[(7, .ptr 1001 0 0 1), (8, .ptr 1002 0 0 1), (9, .ptr 1003 0 0 1), (11, .ptr 2004 0 0 1), (14, .sl 5000 0 l12.length), (22, sl eI t5), (23, I t6), (24, .ptr 31003 0 0 1), (25, I s.2.2.1), (26, I s.2.2.2)], [(1000, ⟨3, true, [[I c37, I c38, I c39]]⟩), (1001, ⟨4, true, [[sl eExt c40, I c41, S c42, I c43]]⟩), (1002, ⟨6, true, [[.lit (.slice none 0 0), .lit (.slice none 0 0), I c44, I c45, I c46, .lit (.slice none 0 0)]]⟩), (1003, ⟨4, true, [[.lit (.slice none 0 0), I c47, S c48, I c49]]⟩), (2000, ⟨1, false, rws (eL eExt) l9⟩), (2001, ⟨1, false, rws eS l10⟩), (2002, ⟨2, false, rws eQuery l11⟩), (2004, ⟨6, true, [[.sl 2000 0 l9.length, .sl 2001 0 l10.length, I c50, I c51, I c52, .sl 2002 0 l11.length]]⟩), (3000, dead), (5000, ⟨1, false, rws (eL eExt) l12⟩), (20003, dead), (26012, ⟨4, true, [[sl eExt c53, I c54, S c55, I c56]]⟩), (31000, ⟨2, false, rws eExt s.1⟩), (31001, ⟨1, false, rws (eL eS) s.2.1⟩), (31003, ⟨2, true, [[.sl 31000 0 s.1.length, .sl 31001 0 s.2.1.length]]⟩)]⟩
@[reducible] def s_l09Open_3_E (l9 : List (List Ext)) (l10 : List (List UInt8)) (l11 : List Query) (l12 : List (List Ext)) (t5 : List Int) (t6 : Int) (c37 : Int) (c38 : Int) (c39 : Int) (c40 : List Ext) (c41 : Int) (c42 : List UInt8) (c43 : Int) (c44 : Int) (c45 : Int) (c46 : Int) (c47 : Int) (c48 : List UInt8) (c49 : Int) (c50 : Int) (c51 : Int) (c52 : Int) (c53 : List Ext) (c54 : Int) (c55 : List UInt8) (c56 : Int) : ((List Ext) × (List (List (List UInt8))) × Int × Int × Bool) → AExit × St := fun e => (.exit 4, ⟨[(7, .ptr 1001 0 0 1), (8, .ptr 1002 0 0 1), (9, .ptr 1003 0 0 1), (11, .ptr 2004 0 0 1), (14, .sl 5000 0 l12.length), (22, sl eI t5), (23, I t6), (24, .ptr 31003 0 0 1), (25, I e.2.2.1), (26, I e.2.2.2.1), (150, B e.2.2.2.2)], [(1000, ⟨3, true, [[I c37, I c38, I c39]]⟩), (1001, ⟨4, true, [[sl eExt c40, I c41, S c42, I c43]]⟩), (1002, ⟨6, true, [[.lit (.slice none 0 0), .lit (.slice none 0 0), I c44, I c45, I c46, .lit (.slice none 0 0)]]⟩), (1003, ⟨4, true, [[.lit (.slice none 0 0), I c47, S c48, I c49]]⟩), (2000, ⟨1, false, rws (eL eExt) l9⟩), (2001, ⟨1, false, rws eS l10⟩), (2002, ⟨2, false, rws eQuery l11⟩), (2004, ⟨6, true, [[.sl 2000 0 l9.length, .sl 2001 0 l10.length, I c50, I c51, I c52, .sl 2002 0 l11.length]]⟩), (3000, dead), (5000, ⟨1, false, rws (eL eExt) l12⟩), (20003, dead), (26012, ⟨4, true, [[sl eExt c53, I c54, S c55, I c56]]⟩), (31000, ⟨2, false, rws eExt e.1⟩), (31001, ⟨1, false, rws (eL eS) e.2.1⟩), (31003, ⟨2, true, [[.sl 31000 0 e.1.length, .sl 31001 0 e.2.1.length]]⟩)]⟩)
theorem s_l09Open_3_l {l9 l10 l11 l12 t5 t6 c37 c38 c39 c40 c41 c42 c43 c44 c45 c46 c47 c48 c49 c50 c51 c52 c53 c54 c55 c56 s e} (h : Loop (s_l09Open_3_s l9 l10 l11 l12 t5 t6 c37 c38 c39 c40 c41 c42 c43 c44 c45 c46 c47 c48 c49 c50 c51 c52 c53 c54 c55 c56) s = some e) : LoopX tab ow (.close [38018,38019,39006,39007,39009,39010,39011]) b_s_l09Open_33 (s_l09Open_3_S l9 l10 l11 l12 t5 t6 c37 c38 c39 c40 c41 c42 c43 c44 c45 c46 c47 c48 c49 c50 c51 c52 c53 c54 c55 c56 s) = some (s_l09Open_3_E l9 l10 l11 l12 t5 t6 c37 c38 c39 c40 c41 c42 c43 c44 c45 c46 c47 c48 c49 c50 c51 c52 c53 c54 c55 c56 e) := by
  refine lrG (fun s o h => ?_) h
  obtain ⟨_, _, _, _⟩ := s
  simp only [s_l09Open_3_s] at h
  simp +decide only [s_l09Open_3_S, s_l09Open_3_E, b_s_l09Open_33, go_sem, reduceIte, Nat.reduceAdd]
  have d1 := @s_l09Leaves_c
  have d2 := @s_l04Levels_c
  have d3 := @s_l04Path_c
  all_goals exact go
noncomputable def s_l09Open_2_s (l5 : List (List Ext)) (l6 : List (List UInt8)) (l8 : List (List Ext)) (t3 : List Int) (c17 : Int) (c18 : Int) (c19 : Int) (c20 : List Ext) (c21 : Int) (c22 : List UInt8) (c23 : Int) (c24 : Int) (c25 : Int) (c26 : Int) (c27 : Int) (c28 : List UInt8) (c29 : Int) (c30 : Int) (c31 : Int) (c32 : Int) (c33 : List Ext) (c34 : Int) (c35 : List UInt8) (c36 : Int) : (List Query) × Int → Option (((List Query) × Int) ⊕ (((List Query) × Int × Bool)))
  | (l7, t4) =>
    br (decide (t4 < ((t3.length : Nat) : Int))) (
      (atL t3 t4).bind fun x6 =>
      (Loop (s_l09Open_3_s l5 l6 l7 l8 t3 t4 c17 c18 c19 c20 c21 c22 c23 c24 c25 c26 c27 c28 c29 c30 c31 c32 c33 c34 c35 c36) (([] : List Ext), ([] : List (List (List UInt8))), x6, (0 : Int))).bind fun e_2 =>
      br (fits ((l7 ++ ([(Query.mk e_2.1 e_2.2.1)] : List Query)).length) 48) (
        some (.inl ((l7 ++ ([(Query.mk e_2.1 e_2.2.1)] : List Query)), (IntKind.wrap .i64 (t4 + (1 : Int)))))) (
        none)) (
      some (.inr (l7, t4, decide (t4 < ((t3.length : Nat) : Int)))))
@[reducible] def s_l09Open_2_S (l5 : List (List Ext)) (l6 : List (List UInt8)) (l8 : List (List Ext)) (t3 : List Int) (c17 : Int) (c18 : Int) (c19 : Int) (c20 : List Ext) (c21 : Int) (c22 : List UInt8) (c23 : Int) (c24 : Int) (c25 : Int) (c26 : Int) (c27 : Int) (c28 : List UInt8) (c29 : Int) (c30 : Int) (c31 : Int) (c32 : Int) (c33 : List Ext) (c34 : Int) (c35 : List UInt8) (c36 : Int) (s : (List Query) × Int) : St := ⟨[(7, .ptr 1001 0 0 1), (8, .ptr 1002 0 0 1), (9, .ptr 1003 0 0 1), (11, .ptr 2004 0 0 1), (14, .sl 5000 0 l8.length), (22, sl eI t3), (23, I s.2)], [(1000, ⟨3, true, [[I c17, I c18, I c19]]⟩), (1001, ⟨4, true, [[sl eExt c20, I c21, S c22, I c23]]⟩), (1002, ⟨6, true, [[.lit (.slice none 0 0), .lit (.slice none 0 0), I c24, I c25, I c26, .lit (.slice none 0 0)]]⟩), (1003, ⟨4, true, [[.lit (.slice none 0 0), I c27, S c28, I c29]]⟩), (2000, ⟨1, false, rws (eL eExt) l5⟩), (2001, ⟨1, false, rws eS l6⟩), (2002, ⟨2, false, rws eQuery s.1⟩), (2004, ⟨6, true, [[.sl 2000 0 l5.length, .sl 2001 0 l6.length, I c30, I c31, I c32, .sl 2002 0 s.1.length]]⟩), (3000, dead), (5000, ⟨1, false, rws (eL eExt) l8⟩), (20003, dead), (26012, ⟨4, true, [[sl eExt c33, I c34, S c35, I c36]]⟩)]⟩
@[reducible] def s_l09Open_2_E (l5 : List (List Ext)) (l6 : List (List UInt8)) (l8 : List (List Ext)) (t3 : List Int) (c17 : Int) (c18 : Int) (c19 : Int) (c20 : List Ext) (c21 : Int) (c22 : List UInt8) (c23 : Int) (c24 : Int) (c25 : Int) (c26 : Int) (c27 : Int) (c28 : List UInt8) (c29 : Int) (c30 : Int) (c31 : Int) (c32 : Int) (c33 : List Ext) (c34 : Int) (c35 : List UInt8) (c36 : Int) : ((List Query) × Int × Bool) → AExit × St := fun e => (.exit 2, ⟨[(7, .ptr 1001 0 0 1), (8, .ptr 1002 0 0 1), (9, .ptr 1003 0 0 1), (11, .ptr 2004 0 0 1), (14, .sl 5000 0 l8.length), (22, sl eI t3), (23, I e.2.1), (137, B e.2.2)], [(1000, ⟨3, true, [[I c17, I c18, I c19]]⟩), (1001, ⟨4, true, [[sl eExt c20, I c21, S c22, I c23]]⟩), (1002, ⟨6, true, [[.lit (.slice none 0 0), .lit (.slice none 0 0), I c24, I c25, I c26, .lit (.slice none 0 0)]]⟩), (1003, ⟨4, true, [[.lit (.slice none 0 0), I c27, S c28, I c29]]⟩), (2000, ⟨1, false, rws (eL eExt) l5⟩), (2001, ⟨1, false, rws eS l6⟩), (2002, ⟨2, false, rws eQuery e.1⟩), (2004, ⟨6, true, [[.sl 2000 0 l5.length, .sl 2001 0 l6.length, I c30, I c31, I c32, .sl 2002 0 e.1.length]]⟩), (3000, dead), (5000, ⟨1, false, rws (eL eExt) l8⟩), (20003, dead), (26012, ⟨4, true, [[sl eExt c33, I c34, S c35, I c36]]⟩)]⟩)
theorem s_l09Open_2_l {l5 l6 l8 t3 c17 c18 c19 c20 c21 c22 c23 c24 c25 c26 c27 c28 c29 c30 c31 c32 c33 c34 c35 c36 s e} (h : Loop (s_l09Open_2_s l5 l6 l8 t3 c17 c18 c19 c20 c21 c22 c23 c24 c25 c26 c27 c28 c29 c30 c31 c32 c33 c34 c35 c36) s = some e) : LoopX tab ow (.close [31000,31001,31003,38018,38019,39006,39007,39009,39010,39011,40003,40004]) b_s_l09Open_28 (s_l09Open_2_S l5 l6 l8 t3 c17 c18 c19 c20 c21 c22 c23 c24 c25 c26 c27 c28 c29 c30 c31 c32 c33 c34 c35 c36 s) = some (s_l09Open_2_E l5 l6 l8 t3 c17 c18 c19 c20 c21 c22 c23 c24 c25 c26 c27 c28 c29 c30 c31 c32 c33 c34 c35 c36 e) := by
  refine lrG (fun s o h => ?_) h
  obtain ⟨_, _⟩ := s
  simp only [s_l09Open_2_s] at h
  simp +decide only [s_l09Open_2_S, s_l09Open_2_E, b_s_l09Open_28, go_sem, reduceIte, Nat.reduceAdd]
  have d1 := @s_l09Open_3_l
  all_goals exact go
noncomputable def s_l09Open (ListtoArray : (List Ext)) (a : (List Ext)) (a2 : Setting) (a3 : Source) : Option (Opening × Source × Bool) :=
  br (fits ((([] : List Ext) ++ ListtoArray).length) 16) (
    (s_l06Eq a).bind fun r_ =>
    (s_l09Word ListtoArray a2.Rate).bind fun r_2 =>
    (Loop (s_l09Open_1_s ([] : List Query) a2.Rate a2.Queries a2.Grind (0 : Int) (0 : Int) (0 : Int) (0 : Int) (([] : List UInt8)) (0 : Int) (0 : Int) (0 : Int) (0 : Int)) (([] : List (List Ext)), ([] : List (List UInt8)), ([] : List (List Ext)), ([(([] : List Ext) ++ ListtoArray), r_] : List (List Ext)), r_2, a3.Script, a3.At, a3.State, a3.Count)).bind fun e_ =>
    (atL e_.2.2.2.1 (0 : Int)).bind fun x3 =>
    (atL x3 (0 : Int)).bind fun x4 =>
    (s_l05Exts (Source.mk e_.2.2.2.2.2.2.1 e_.2.2.2.2.2.2.2.1 e_.2.2.2.2.2.2.2.2.1 e_.2.2.2.2.2.2.2.2.2) ([x4] : List Ext)).bind fun r_11 =>
    (s_l05Grind r_11 a2.Grind).bind fun r_12 =>
    br (!r_12.2) (
      some ((Opening.mk ([] : List (List Ext)) ([] : List (List UInt8)) (Ext.mk (0 : Int) (0 : Int)) (0 : Int) ([] : List Query)), r_11, false)) (
      (s_l02Number r_12.1 (4 : Int)).bind fun r_13 =>
      (s_l05Absorb r_11 r_13).bind fun r_14 =>
      br (decide (0 < e_.2.2.1.length)) (
        (e_.2.2.1[0]?).bind fun x5 =>
        (s_l05Places r_14 a2.Queries (IntKind.wrap .i64 (((x5.length : Nat) : Int).tdiv (2 : Int)))).bind fun r_15 =>
        (Loop (s_l09Open_2_s e_.1 e_.2.1 e_.2.2.1 r_15.2 a2.Rate a2.Queries a2.Grind r_15.1.Script r_15.1.At r_15.1.State r_15.1.Count (0 : Int) (0 : Int) (0 : Int) (0 : Int) (([] : List UInt8)) (0 : Int) x4.A x4.B r_12.1 r_15.1.Script r_15.1.At r_15.1.State r_15.1.Count) (([] : List Query), (0 : Int))).bind fun e_3 =>
        some ((Opening.mk e_.1 e_.2.1 x4 r_12.1 e_3.1), r_15.1, true)) (
        none))) (
    none)
theorem s_l09Open_c {ListtoArray a a2 a3 r} (h : s_l09Open ListtoArray a a2 a3 = some r) : Call tab ow 116 [sl eExt ListtoArray, sl eExt a, .agg [I a2.Rate, I a2.Queries, I a2.Grind], .agg [sl eExt a3.Script, I a3.At, S a3.State, I a3.Count]] [] = some (.tup [.agg [sl (eL eExt) r.1.Rounds, sl eS r.1.Roots, I r.1.Last.A, I r.1.Last.B, I r.1.Nonce, sl eQuery r.1.Queries], .agg [sl eExt r.2.1.Script, I r.2.1.At, S r.2.1.State, I r.2.1.Count], B r.2.2], []) := by
  rw [Call_run (af := a_s_l09Open) rfl]
  unfold s_l09Open at h
  simp +decide only [a_s_l09Open, b_s_l09Open, go_sem, reduceIte, Nat.reduceAdd]
  have d1 := @s_l06Eq_c
  have d2 := @s_l09Word_c
  have d3 := @s_l09Open_1_l
  have d4 := @s_l05Exts_c
  have d5 := @s_l05Grind_c
  have d6 := @s_l02Number_c
  have d7 := @s_l05Absorb_c
  have d8 := @s_l05Places_c
  have d9 := @s_l09Open_2_l
  all_goals exact go
end
noncomputable def s_OpenTable (ListtoArray : (List Ext)) (a : (List Ext)) (a2 : Setting) (a3 : Source) : Option (Opening × Source × Int) :=
  br (decide (((ListtoArray.length : Nat) : Int) > (4096 : Int))) (
    some ((Opening.mk ([] : List (List Ext)) ([] : List (List UInt8)) (Ext.mk (0 : Int) (0 : Int)) (0 : Int) ([] : List Query)), (Source.mk ([] : List Ext) (0 : Int) (([] : List UInt8)) (0 : Int)), (2 : Int))) (
    br (decide (((a.length : Nat) : Int) > (4096 : Int))) (
      some ((Opening.mk ([] : List (List Ext)) ([] : List (List UInt8)) (Ext.mk (0 : Int) (0 : Int)) (0 : Int) ([] : List Query)), (Source.mk ([] : List Ext) (0 : Int) (([] : List UInt8)) (0 : Int)), (2 : Int))) (
      (s_TableOK ListtoArray).bind fun r_ =>
      br (!r_) (
        some ((Opening.mk ([] : List (List Ext)) ([] : List (List UInt8)) (Ext.mk (0 : Int) (0 : Int)) (0 : Int) ([] : List Query)), (Source.mk ([] : List Ext) (0 : Int) (([] : List UInt8)) (0 : Int)), (1 : Int))) (
        (s_l06Point a).bind fun r_2 =>
        br (!r_2) (
          some ((Opening.mk ([] : List (List Ext)) ([] : List (List UInt8)) (Ext.mk (0 : Int) (0 : Int)) (0 : Int) ([] : List Query)), (Source.mk ([] : List Ext) (0 : Int) (([] : List UInt8)) (0 : Int)), (1 : Int))) (
          (s_SettingOK a2).bind fun r_3 =>
          br (!r_3) (
            some ((Opening.mk ([] : List (List Ext)) ([] : List (List UInt8)) (Ext.mk (0 : Int) (0 : Int)) (0 : Int) ([] : List Query)), (Source.mk ([] : List Ext) (0 : Int) (([] : List UInt8)) (0 : Int)), (1 : Int))) (
            (s_SourceOK a3).bind fun r_4 =>
            br (!r_4) (
              some ((Opening.mk ([] : List (List Ext)) ([] : List (List UInt8)) (Ext.mk (0 : Int) (0 : Int)) (0 : Int) ([] : List Query)), (Source.mk ([] : List Ext) (0 : Int) (([] : List UInt8)) (0 : Int)), (1 : Int))) (
              (s_l09Vars ((ListtoArray.length : Nat) : Int)).bind fun r_5 =>
              br (!r_5) (
                some ((Opening.mk ([] : List (List Ext)) ([] : List (List UInt8)) (Ext.mk (0 : Int) (0 : Int)) (0 : Int) ([] : List Query)), (Source.mk ([] : List Ext) (0 : Int) (([] : List UInt8)) (0 : Int)), (4 : Int))) (
                br (decide (0 ≤ (IntKind.wrap .u64 ((a.length : Nat) : Int)))) (
                  br (((ListtoArray.length : Nat) : Int) != (shl64 .i64 (1 : Int) (IntKind.wrap .u64 ((a.length : Nat) : Int)))) (
                    some ((Opening.mk ([] : List (List Ext)) ([] : List (List UInt8)) (Ext.mk (0 : Int) (0 : Int)) (0 : Int) ([] : List Query)), (Source.mk ([] : List Ext) (0 : Int) (([] : List UInt8)) (0 : Int)), (8 : Int))) (
                    (s_l05Spent a3 (100 : Int)).bind fun r_6 =>
                    br r_6 (
                      some ((Opening.mk ([] : List (List Ext)) ([] : List (List UInt8)) (Ext.mk (0 : Int) (0 : Int)) (0 : Int) ([] : List Query)), (Source.mk ([] : List Ext) (0 : Int) (([] : List UInt8)) (0 : Int)), (6 : Int))) (
                      (s_l09Open ListtoArray a a2 a3).bind fun r_7 =>
                      br (!r_7.2.2) (
                        some ((Opening.mk ([] : List (List Ext)) ([] : List (List UInt8)) (Ext.mk (0 : Int) (0 : Int)) (0 : Int) ([] : List Query)), (Source.mk ([] : List Ext) (0 : Int) (([] : List UInt8)) (0 : Int)), (14 : Int))) (
                        (s_l05Own r_7.2.1).bind fun r_8 =>
                        some (r_7.1, r_8, (0 : Int)))))) (
                  none))))))))
theorem s_OpenTable_c {ListtoArray a a2 a3 r} (h : s_OpenTable ListtoArray a a2 a3 = some r) : Call tab ow 35 [sl eExt ListtoArray, sl eExt a, .agg [I a2.Rate, I a2.Queries, I a2.Grind], .agg [sl eExt a3.Script, I a3.At, S a3.State, I a3.Count]] [] = some (.tup [.agg [sl (eL eExt) r.1.Rounds, sl eS r.1.Roots, I r.1.Last.A, I r.1.Last.B, I r.1.Nonce, sl eQuery r.1.Queries], .agg [sl eExt r.2.1.Script, I r.2.1.At, S r.2.1.State, I r.2.1.Count], I r.2.2], []) := by
  rw [Call_run (af := a_s_OpenTable) rfl]
  unfold s_OpenTable at h
  simp +decide only [a_s_OpenTable, b_s_OpenTable, go_sem, reduceIte, Nat.reduceAdd]
  have d1 := @s_TableOK_c
  have d2 := @s_l06Point_c
  have d3 := @s_SettingOK_c
  have d4 := @s_SourceOK_c
  have d5 := @s_l09Vars_c
  have d6 := @s_l05Spent_c
  have d7 := @s_l09Open_c
  have d8 := @s_l05Own_c
  all_goals exact go
noncomputable def i_areRounds_1 (round : (List Ext)) (m : Int) : Option (Bool × Int) :=
  br (((round.length : Nat) : Int) != m) (
    some (true, m)) (
    (i_are_i_Ext_ExtOK round).bind fun r_ =>
    some ((!r_), m))
theorem i_areRounds_1_c {round m r} (h : i_areRounds_1 round m = some r) : Call tab ow 272 [sl eExt round, .ptr 0 0 0 1] [⟨1, true, [[I m]]⟩] = some (B r.1, [⟨1, true, [[I r.2]]⟩]) := by
  rw [Call_run (af := a_i_areRounds_1) rfl]
  unfold i_areRounds_1 at h
  simp +decide only [a_i_areRounds_1, b_i_areRounds_1, go_sem, reduceIte, Nat.reduceAdd]
  have d1 := @i_are_i_Ext_ExtOK_c
  all_goals exact go
noncomputable def slices_IndexFunc_LLi_Ext_Li_Ext_areRounds_1_1_s (s2 : List (List Ext)) (t : Int) : Int × Int → Option ((Int × Int) ⊕ ((Int × Int) ⊕ (Int × Bool × Int)))
  | (t2, c) =>
    br (decide (t2 < t)) (
      (atL s2 t2).bind fun x =>
      (i_areRounds_1 x c).bind fun r_ =>
      br r_.1 (
        some (.inr (.inl (t2, r_.2)))) (
        some (.inl ((IntKind.wrap .i64 (t2 + (1 : Int))), r_.2)))) (
      some (.inr (.inr (t2, decide (t2 < t), c))))
@[reducible] def slices_IndexFunc_LLi_Ext_Li_Ext_areRounds_1_1_S (s2 : List (List Ext)) (t : Int) (s : Int × Int) : St := ⟨[(0, sl (eL eExt) s2), (1, .fn 272 [.ptr 0 0 0 1]), (7, I t), (8, I s.1)], [(0, ⟨1, true, [[I s.2]]⟩)]⟩
@[reducible] def slices_IndexFunc_LLi_Ext_Li_Ext_areRounds_1_1_E (s2 : List (List Ext)) (t : Int) : ((Int × Int) ⊕ (Int × Bool × Int)) → AExit × St := alt (fun e => ((.ret, ⟨[(4, I e.1)], [(0, ⟨1, true, [[I e.2]]⟩)]⟩) : AExit × St)) (fun e => (.exit 0, ⟨[(0, sl (eL eExt) s2), (1, .fn 272 [.ptr 0 0 0 1]), (7, I t), (8, I e.1), (9, B e.2.1)], [(0, ⟨1, true, [[I e.2.2]]⟩)]⟩))
theorem slices_IndexFunc_LLi_Ext_Li_Ext_areRounds_1_1_l {s2 t s e} (h : Loop (slices_IndexFunc_LLi_Ext_Li_Ext_areRounds_1_1_s s2 t) s = some e) : LoopX tab ow (.close [5005]) b_slices_IndexFunc_LLi_Ext_Li_Ext_2 (slices_IndexFunc_LLi_Ext_Li_Ext_areRounds_1_1_S s2 t s) = some (slices_IndexFunc_LLi_Ext_Li_Ext_areRounds_1_1_E s2 t e) := by
  refine lrG (fun s o h => ?_) h
  obtain ⟨_, _⟩ := s
  simp only [slices_IndexFunc_LLi_Ext_Li_Ext_areRounds_1_1_s] at h
  simp +decide only [slices_IndexFunc_LLi_Ext_Li_Ext_areRounds_1_1_S, slices_IndexFunc_LLi_Ext_Li_Ext_areRounds_1_1_E, b_slices_IndexFunc_LLi_Ext_Li_Ext_2, go_sem, reduceIte, Nat.reduceAdd]
  have d1 := @i_areRounds_1_c
  all_goals exact go
noncomputable def slices_IndexFunc_LLi_Ext_Li_Ext_areRounds_1 (s : (List (List Ext))) (m : Int) : Option (Int × Int) :=
  (Loop (slices_IndexFunc_LLi_Ext_Li_Ext_areRounds_1_1_s s ((s.length : Nat) : Int)) ((0 : Int), m)).bind (alt (fun e_2 =>
    some (e_2.1, e_2.2)) (fun e_3 =>
    some ((-1 : Int), e_3.2.2)))
theorem slices_IndexFunc_LLi_Ext_Li_Ext_areRounds_1_c {s m r} (h : slices_IndexFunc_LLi_Ext_Li_Ext_areRounds_1 s m = some r) : Call tab ow 182 [sl (eL eExt) s, .fn 272 [.ptr 0 0 0 1]] [⟨1, true, [[I m]]⟩] = some (I r.1, [⟨1, true, [[I r.2]]⟩]) := by
  rw [Call_run (af := a_slices_IndexFunc_LLi_Ext_Li_Ext) rfl]
  unfold slices_IndexFunc_LLi_Ext_Li_Ext_areRounds_1 at h
  simp +decide only [a_slices_IndexFunc_LLi_Ext_Li_Ext, b_slices_IndexFunc_LLi_Ext_Li_Ext, go_sem, reduceIte, Nat.reduceAdd]
  have d1 := @slices_IndexFunc_LLi_Ext_Li_Ext_areRounds_1_1_l
  all_goals exact go
noncomputable def slices_ContainsFunc_LLi_Ext_Li_Ext_areRounds_1 (s : (List (List Ext))) (m : Int) : Option (Bool × Int) :=
  (slices_IndexFunc_LLi_Ext_Li_Ext_areRounds_1 s m).bind fun r_ =>
  some (decide (r_.1 ≥ (0 : Int)), r_.2)
theorem slices_ContainsFunc_LLi_Ext_Li_Ext_areRounds_1_c {s m r} (h : slices_ContainsFunc_LLi_Ext_Li_Ext_areRounds_1 s m = some r) : Call tab ow 94 [sl (eL eExt) s, .fn 272 [.ptr 0 0 0 1]] [⟨1, true, [[I m]]⟩] = some (B r.1, [⟨1, true, [[I r.2]]⟩]) := by
  rw [Call_run (af := a_slices_ContainsFunc_LLi_Ext_Li_Ext) rfl]
  unfold slices_ContainsFunc_LLi_Ext_Li_Ext_areRounds_1 at h
  simp +decide only [a_slices_ContainsFunc_LLi_Ext_Li_Ext, b_slices_ContainsFunc_LLi_Ext_Li_Ext, go_sem, reduceIte, Nat.reduceAdd]
  have d1 := @slices_IndexFunc_LLi_Ext_Li_Ext_areRounds_1_c
  all_goals exact go
noncomputable def i_areRounds (rounds : (List (List Ext))) (many : Int) (size : Int) : Option (Bool) :=
  br (((rounds.length : Nat) : Int) == many) (
    (slices_ContainsFunc_LLi_Ext_Li_Ext_areRounds_1 rounds size).bind fun r_ =>
    some (!r_.1)) (
    some false)
theorem i_areRounds_c {rounds many size r} (h : i_areRounds rounds many size = some r) : Call tab ow 204 [sl (eL eExt) rounds, I many, I size] [] = some (B r, []) := by
  rw [Call_run (af := a_i_areRounds) rfl]
  unfold i_areRounds at h
  simp +decide only [a_i_areRounds, b_i_areRounds, go_sem, reduceIte, Nat.reduceAdd]
  have d1 := @slices_ContainsFunc_LLi_Ext_Li_Ext_areRounds_1_c
  all_goals exact go
noncomputable def i_are_string_1_isHash (x : (List UInt8)) : Option (Bool) :=
  (i_isHash x).bind fun r_ =>
  some (!r_)
theorem i_are_string_1_isHash_c {x r} (h : i_are_string_1_isHash x = some r) : Call tab ow 274 [S x, .ptr 0 0 0 1] [⟨1, true, [[.fn 178 []]]⟩] = some (B r, [⟨1, true, [[.fn 178 []]]⟩]) := by
  rw [Call_run (af := a_i_are_string_1) rfl]
  unfold i_are_string_1_isHash at h
  simp +decide only [a_i_are_string_1, b_i_are_string_1, go_sem, reduceIte, Nat.reduceAdd]
  have d1 := @i_isHash_c
  all_goals exact go
noncomputable def slices_IndexFunc_Lstring_string_are_string_1_isHash_1_s (s2 : List (List UInt8)) (t : Int) : Int → Option ((Int) ⊕ (Int ⊕ (Int × Bool)))
  | t2 =>
    br (decide (t2 < t)) (
      (atL s2 t2).bind fun x =>
      (i_are_string_1_isHash x).bind fun r_ =>
      br r_ (
        some (.inr (.inl t2))) (
        some (.inl (IntKind.wrap .i64 (t2 + (1 : Int)))))) (
      some (.inr (.inr (t2, decide (t2 < t)))))
@[reducible] def slices_IndexFunc_Lstring_string_are_string_1_isHash_1_S (s2 : List (List UInt8)) (t : Int) (s : Int) : St := ⟨[(0, sl eS s2), (1, .fn 274 [.ptr 0 0 0 1]), (7, I t), (8, I s)], [(0, ⟨1, true, [[.fn 178 []]]⟩)]⟩
@[reducible] def slices_IndexFunc_Lstring_string_are_string_1_isHash_1_E (s2 : List (List UInt8)) (t : Int) : (Int ⊕ (Int × Bool)) → AExit × St := alt (fun e => ((.ret, ⟨[(4, I e)], [(0, ⟨1, true, [[.fn 178 []]]⟩)]⟩) : AExit × St)) (fun e => (.exit 0, ⟨[(0, sl eS s2), (1, .fn 274 [.ptr 0 0 0 1]), (7, I t), (8, I e.1), (9, B e.2)], [(0, ⟨1, true, [[.fn 178 []]]⟩)]⟩))
theorem slices_IndexFunc_Lstring_string_are_string_1_isHash_1_l {s2 t s e} (h : Loop (slices_IndexFunc_Lstring_string_are_string_1_isHash_1_s s2 t) s = some e) : LoopX tab ow (.close [5005]) b_slices_IndexFunc_Lstring_string_2 (slices_IndexFunc_Lstring_string_are_string_1_isHash_1_S s2 t s) = some (slices_IndexFunc_Lstring_string_are_string_1_isHash_1_E s2 t e) := by
  refine lrG (fun s o h => ?_) h
  simp only [slices_IndexFunc_Lstring_string_are_string_1_isHash_1_s] at h
  simp +decide only [slices_IndexFunc_Lstring_string_are_string_1_isHash_1_S, slices_IndexFunc_Lstring_string_are_string_1_isHash_1_E, b_slices_IndexFunc_Lstring_string_2, go_sem, reduceIte, Nat.reduceAdd]
  have d1 := @i_are_string_1_isHash_c
  all_goals exact go
noncomputable def slices_IndexFunc_Lstring_string_are_string_1_isHash (s : (List (List UInt8))) : Option (Int) :=
  (Loop (slices_IndexFunc_Lstring_string_are_string_1_isHash_1_s s ((s.length : Nat) : Int)) (0 : Int)).bind (alt (fun e_2 =>
    some e_2) (fun e_3 =>
    some (-1 : Int)))
theorem slices_IndexFunc_Lstring_string_are_string_1_isHash_c {s r} (h : slices_IndexFunc_Lstring_string_are_string_1_isHash s = some r) : Call tab ow 298 [sl eS s, .fn 274 [.ptr 0 0 0 1]] [⟨1, true, [[.fn 178 []]]⟩] = some (I r, [⟨1, true, [[.fn 178 []]]⟩]) := by
  rw [Call_run (af := a_slices_IndexFunc_Lstring_string) rfl]
  unfold slices_IndexFunc_Lstring_string_are_string_1_isHash at h
  simp +decide only [a_slices_IndexFunc_Lstring_string, b_slices_IndexFunc_Lstring_string, go_sem, reduceIte, Nat.reduceAdd]
  have d1 := @slices_IndexFunc_Lstring_string_are_string_1_isHash_1_l
  all_goals exact go
noncomputable def slices_ContainsFunc_Lstring_string_are_string_1_isHash (s : (List (List UInt8))) : Option (Bool) :=
  (slices_IndexFunc_Lstring_string_are_string_1_isHash s).bind fun r_ =>
  some (decide (r_ ≥ (0 : Int)))
theorem slices_ContainsFunc_Lstring_string_are_string_1_isHash_c {s r} (h : slices_ContainsFunc_Lstring_string_are_string_1_isHash s = some r) : Call tab ow 273 [sl eS s, .fn 274 [.ptr 0 0 0 1]] [⟨1, true, [[.fn 178 []]]⟩] = some (B r, [⟨1, true, [[.fn 178 []]]⟩]) := by
  rw [Call_run (af := a_slices_ContainsFunc_Lstring_string) rfl]
  unfold slices_ContainsFunc_Lstring_string_are_string_1_isHash at h
  simp +decide only [a_slices_ContainsFunc_Lstring_string, b_slices_ContainsFunc_Lstring_string, go_sem, reduceIte, Nat.reduceAdd]
  have d1 := @slices_IndexFunc_Lstring_string_are_string_1_isHash_c
  all_goals exact go
noncomputable def i_are_string_isHash (list : (List (List UInt8))) : Option (Bool) :=
  (slices_ContainsFunc_Lstring_string_are_string_1_isHash list).bind fun r_ =>
  some (!r_)
theorem i_are_string_isHash_c {list r} (h : i_are_string_isHash list = some r) : Call tab ow 205 [.fn 178 [], sl eS list] [] = some (B r, []) := by
  rw [Call_run (af := a_i_are_string) rfl]
  unfold i_are_string_isHash at h
  simp +decide only [a_i_are_string, b_i_are_string, go_sem, reduceIte, Nat.reduceAdd]
  have d1 := @slices_ContainsFunc_Lstring_string_are_string_1_isHash_c
  all_goals exact go
noncomputable def i_isQuery_1_s (vars2 : Int) (t2 : List (List (List UInt8))) (t3 : Int) (c : List Ext) (c2 : List (List (List UInt8))) (c3 : Int) (c4 : Int) (c5 : Int) : Int → Option ((Int) ⊕ (Unit ⊕ (Int × Bool)))
  | t4 =>
    br (decide (t4 < t3)) (
      (atL t2 t4).bind fun x =>
      br (((x.length : Nat) : Int) != (IntKind.wrap .i64 ((IntKind.wrap .i64 ((IntKind.wrap .i64 (vars2 + c3)) - (1 : Int))) - t4))) (
        some (.inr (.inl ()))) (
        (i_are_string_isHash x).bind fun r_2 =>
        br (!r_2) (
          some (.inr (.inl ()))) (
          some (.inl (IntKind.wrap .i64 (t4 + (1 : Int))))))) (
      some (.inr (.inr (t4, decide (t4 < t3)))))
@[reducible] def i_isQuery_1_S (vars2 : Int) (t2 : List (List (List UInt8))) (t3 : Int) (c : List Ext) (c2 : List (List (List UInt8))) (c3 : Int) (c4 : Int) (c5 : Int) (s : Int) : St := ⟨[(1, I vars2), (5, .ptr 1001 0 0 1), (29, sl (eL eS) t2), (30, I t3), (31, I s)], [(1000, ⟨2, true, [[sl eExt c, sl (eL eS) c2]]⟩), (1001, ⟨3, true, [[I c3, I c4, I c5]]⟩)]⟩
@[reducible] def i_isQuery_1_E (vars2 : Int) (t2 : List (List (List UInt8))) (t3 : Int) (c : List Ext) (c2 : List (List (List UInt8))) (c3 : Int) (c4 : Int) (c5 : Int) : (Unit ⊕ (Int × Bool)) → AExit × St := alt (fun e => ((.ret, ⟨[(6, B false)], [(1000, ⟨2, true, [[sl eExt c, sl (eL eS) c2]]⟩), (1001, ⟨3, true, [[I c3, I c4, I c5]]⟩)]⟩) : AExit × St)) (fun e => (.exit 0, ⟨[(1, I vars2), (5, .ptr 1001 0 0 1), (29, sl (eL eS) t2), (30, I t3), (31, I e.1), (32, B e.2)], [(1000, ⟨2, true, [[sl eExt c, sl (eL eS) c2]]⟩), (1001, ⟨3, true, [[I c3, I c4, I c5]]⟩)]⟩))
theorem i_isQuery_1_l {vars2 t2 t3 c c2 c3 c4 c5 s e} (h : Loop (i_isQuery_1_s vars2 t2 t3 c c2 c3 c4 c5) s = some e) : LoopX tab ow (.close [7012]) b_i_isQuery_4 (i_isQuery_1_S vars2 t2 t3 c c2 c3 c4 c5 s) = some (i_isQuery_1_E vars2 t2 t3 c c2 c3 c4 c5 e) := by
  refine lrG (fun s o h => ?_) h
  simp only [i_isQuery_1_s] at h
  simp +decide only [i_isQuery_1_S, i_isQuery_1_E, b_i_isQuery_4, go_sem, reduceIte, Nat.reduceAdd]
  have d1 := @i_are_string_isHash_c
  all_goals exact go
noncomputable def i_isQuery (q : Query) (vars : Int) (t : Setting) : Option (Bool) :=
  br (((q.Pairs.length : Nat) : Int) != (IntKind.wrap .i64 ((2 : Int) * vars))) (
    some false) (
    (i_are_i_Ext_ExtOK q.Pairs).bind fun r_ =>
    br (!r_) (
      some false) (
      br (((q.Paths.length : Nat) : Int) != vars) (
        some false) (
        (Loop (i_isQuery_1_s vars q.Paths ((q.Paths.length : Nat) : Int) q.Pairs q.Paths t.Rate t.Queries t.Grind) (0 : Int)).bind (alt (fun e_2 =>
          some false) (fun e_3 =>
          some true)))))
theorem i_isQuery_c {q vars t r} (h : i_isQuery q vars t = some r) : Call tab ow 208 [.agg [sl eExt q.Pairs, sl (eL eS) q.Paths], I vars, .agg [I t.Rate, I t.Queries, I t.Grind]] [] = some (B r, []) := by
  rw [Call_run (af := a_i_isQuery) rfl]
  unfold i_isQuery at h
  simp +decide only [a_i_isQuery, b_i_isQuery, go_sem, reduceIte, Nat.reduceAdd]
  have d1 := @i_are_i_Ext_ExtOK_c
  have d2 := @i_isQuery_1_l
  all_goals exact go
noncomputable def i_OpeningOK_1 (q : Query) (m : Int) (m2 : Setting) : Option (Bool × Int × Setting) :=
  (i_isQuery q m m2).bind fun r_ =>
  some (r_, m, m2)
theorem i_OpeningOK_1_c {q m m2 r} (h : i_OpeningOK_1 q m m2 = some r) : Call tab ow 207 [.agg [sl eExt q.Pairs, sl (eL eS) q.Paths], .ptr 0 0 0 1, .ptr 1 0 0 1] [⟨1, true, [[I m]]⟩, ⟨3, true, [[I m2.Rate, I m2.Queries, I m2.Grind]]⟩] = some (B r.1, [⟨1, true, [[I r.2.1]]⟩, ⟨3, true, [[I r.2.2.Rate, I r.2.2.Queries, I r.2.2.Grind]]⟩]) := by
  rw [Call_run (af := a_i_OpeningOK_1) rfl]
  unfold i_OpeningOK_1 at h
  simp +decide only [a_i_OpeningOK_1, b_i_OpeningOK_1, go_sem, reduceIte, Nat.reduceAdd]
  have d1 := @i_isQuery_c
  all_goals exact go
noncomputable def i_are_i_Query_1_OpeningOK_1 (x : Query) (m : Int) (m2 : Setting) : Option (Bool × Int × Setting) :=
  (i_OpeningOK_1 x m m2).bind fun r_ =>
  some ((!r_.1), r_.2.1, r_.2.2)
theorem i_are_i_Query_1_OpeningOK_1_c {x m m2 r} (h : i_are_i_Query_1_OpeningOK_1 x m m2 = some r) : Call tab ow 276 [.agg [sl eExt x.Pairs, sl (eL eS) x.Paths], .ptr 0 0 0 1] [⟨1, true, [[.fn 207 [.ptr 1 0 0 1, .ptr 2 0 0 1]]]⟩, ⟨1, true, [[I m]]⟩, ⟨3, true, [[I m2.Rate, I m2.Queries, I m2.Grind]]⟩] = some (B r.1, [⟨1, true, [[.fn 207 [.ptr 1 0 0 1, .ptr 2 0 0 1]]]⟩, ⟨1, true, [[I r.2.1]]⟩, ⟨3, true, [[I r.2.2.Rate, I r.2.2.Queries, I r.2.2.Grind]]⟩]) := by
  rw [Call_run (af := a_i_are_i_Query_1) rfl]
  unfold i_are_i_Query_1_OpeningOK_1 at h
  simp +decide only [a_i_are_i_Query_1, b_i_are_i_Query_1, go_sem, reduceIte, Nat.reduceAdd]
  have d1 := @i_OpeningOK_1_c
  all_goals exact go
noncomputable def slices_IndexFunc_Li_Query_i_Query_are_i_Query_1_OpeningOK_1_1_s (s2 : List Query) (t : Int) : Int × Int × Int × Int × Int → Option ((Int × Int × Int × Int × Int) ⊕ ((Int × Int × Int × Int × Int) ⊕ (Int × Bool × Int × Int × Int × Int)))
  | (t2, c, c2, c3, c4) =>
    br (decide (t2 < t)) (
      (atL s2 t2).bind fun x =>
      (i_are_i_Query_1_OpeningOK_1 x c (Setting.mk c2 c3 c4)).bind fun r_ =>
      br r_.1 (
        some (.inr (.inl (t2, r_.2.1, r_.2.2.Rate, r_.2.2.Queries, r_.2.2.Grind)))) (
        some (.inl ((IntKind.wrap .i64 (t2 + (1 : Int))), r_.2.1, r_.2.2.Rate, r_.2.2.Queries, r_.2.2.Grind)))) (
      some (.inr (.inr (t2, decide (t2 < t), c, c2, c3, c4))))
@[reducible] def slices_IndexFunc_Li_Query_i_Query_are_i_Query_1_OpeningOK_1_1_S (s2 : List Query) (t : Int) (s : Int × Int × Int × Int × Int) : St := ⟨[(0, sl eQuery s2), (1, .fn 276 [.ptr 0 0 0 1]), (7, I t), (8, I s.1)], [(0, ⟨1, true, [[.fn 207 [.ptr 1 0 0 1, .ptr 2 0 0 1]]]⟩), (1, ⟨1, true, [[I s.2.1]]⟩), (2, ⟨3, true, [[I s.2.2.1, I s.2.2.2.1, I s.2.2.2.2]]⟩)]⟩
@[reducible] def slices_IndexFunc_Li_Query_i_Query_are_i_Query_1_OpeningOK_1_1_E (s2 : List Query) (t : Int) : ((Int × Int × Int × Int × Int) ⊕ (Int × Bool × Int × Int × Int × Int)) → AExit × St := alt (fun e => ((.ret, ⟨[(4, I e.1)], [(0, ⟨1, true, [[.fn 207 [.ptr 1 0 0 1, .ptr 2 0 0 1]]]⟩), (1, ⟨1, true, [[I e.2.1]]⟩), (2, ⟨3, true, [[I e.2.2.1, I e.2.2.2.1, I e.2.2.2.2]]⟩)]⟩) : AExit × St)) (fun e => (.exit 0, ⟨[(0, sl eQuery s2), (1, .fn 276 [.ptr 0 0 0 1]), (7, I t), (8, I e.1), (9, B e.2.1)], [(0, ⟨1, true, [[.fn 207 [.ptr 1 0 0 1, .ptr 2 0 0 1]]]⟩), (1, ⟨1, true, [[I e.2.2.1]]⟩), (2, ⟨3, true, [[I e.2.2.2.1, I e.2.2.2.2.1, I e.2.2.2.2.2]]⟩)]⟩))
theorem slices_IndexFunc_Li_Query_i_Query_are_i_Query_1_OpeningOK_1_1_l {s2 t s e} (h : Loop (slices_IndexFunc_Li_Query_i_Query_are_i_Query_1_OpeningOK_1_1_s s2 t) s = some e) : LoopX tab ow (.close [5005]) b_slices_IndexFunc_Li_Query_i_Query_2 (slices_IndexFunc_Li_Query_i_Query_are_i_Query_1_OpeningOK_1_1_S s2 t s) = some (slices_IndexFunc_Li_Query_i_Query_are_i_Query_1_OpeningOK_1_1_E s2 t e) := by
  refine lrG (fun s o h => ?_) h
  obtain ⟨_, _, _, _, _⟩ := s
  simp only [slices_IndexFunc_Li_Query_i_Query_are_i_Query_1_OpeningOK_1_1_s] at h
  simp +decide only [slices_IndexFunc_Li_Query_i_Query_are_i_Query_1_OpeningOK_1_1_S, slices_IndexFunc_Li_Query_i_Query_are_i_Query_1_OpeningOK_1_1_E, b_slices_IndexFunc_Li_Query_i_Query_2, go_sem, reduceIte, Nat.reduceAdd]
  have d1 := @i_are_i_Query_1_OpeningOK_1_c
  all_goals exact go
noncomputable def slices_IndexFunc_Li_Query_i_Query_are_i_Query_1_OpeningOK_1 (s : (List Query)) (m : Int) (m2 : Setting) : Option (Int × Int × Setting) :=
  (Loop (slices_IndexFunc_Li_Query_i_Query_are_i_Query_1_OpeningOK_1_1_s s ((s.length : Nat) : Int)) ((0 : Int), m, m2.Rate, m2.Queries, m2.Grind)).bind (alt (fun e_2 =>
    some (e_2.1, e_2.2.1, (Setting.mk e_2.2.2.1 e_2.2.2.2.1 e_2.2.2.2.2))) (fun e_3 =>
    some ((-1 : Int), e_3.2.2.1, (Setting.mk e_3.2.2.2.1 e_3.2.2.2.2.1 e_3.2.2.2.2.2))))
theorem slices_IndexFunc_Li_Query_i_Query_are_i_Query_1_OpeningOK_1_c {s m m2 r} (h : slices_IndexFunc_Li_Query_i_Query_are_i_Query_1_OpeningOK_1 s m m2 = some r) : Call tab ow 299 [sl eQuery s, .fn 276 [.ptr 0 0 0 1]] [⟨1, true, [[.fn 207 [.ptr 1 0 0 1, .ptr 2 0 0 1]]]⟩, ⟨1, true, [[I m]]⟩, ⟨3, true, [[I m2.Rate, I m2.Queries, I m2.Grind]]⟩] = some (I r.1, [⟨1, true, [[.fn 207 [.ptr 1 0 0 1, .ptr 2 0 0 1]]]⟩, ⟨1, true, [[I r.2.1]]⟩, ⟨3, true, [[I r.2.2.Rate, I r.2.2.Queries, I r.2.2.Grind]]⟩]) := by
  rw [Call_run (af := a_slices_IndexFunc_Li_Query_i_Query) rfl]
  unfold slices_IndexFunc_Li_Query_i_Query_are_i_Query_1_OpeningOK_1 at h
  simp +decide only [a_slices_IndexFunc_Li_Query_i_Query, b_slices_IndexFunc_Li_Query_i_Query, go_sem, reduceIte, Nat.reduceAdd]
  have d1 := @slices_IndexFunc_Li_Query_i_Query_are_i_Query_1_OpeningOK_1_1_l
  all_goals exact go
noncomputable def slices_ContainsFunc_Li_Query_i_Query_are_i_Query_1_OpeningOK_1 (s : (List Query)) (m : Int) (m2 : Setting) : Option (Bool × Int × Setting) :=
  (slices_IndexFunc_Li_Query_i_Query_are_i_Query_1_OpeningOK_1 s m m2).bind fun r_ =>
  some (decide (r_.1 ≥ (0 : Int)), r_.2.1, r_.2.2)
theorem slices_ContainsFunc_Li_Query_i_Query_are_i_Query_1_OpeningOK_1_c {s m m2 r} (h : slices_ContainsFunc_Li_Query_i_Query_are_i_Query_1_OpeningOK_1 s m m2 = some r) : Call tab ow 275 [sl eQuery s, .fn 276 [.ptr 0 0 0 1]] [⟨1, true, [[.fn 207 [.ptr 1 0 0 1, .ptr 2 0 0 1]]]⟩, ⟨1, true, [[I m]]⟩, ⟨3, true, [[I m2.Rate, I m2.Queries, I m2.Grind]]⟩] = some (B r.1, [⟨1, true, [[.fn 207 [.ptr 1 0 0 1, .ptr 2 0 0 1]]]⟩, ⟨1, true, [[I r.2.1]]⟩, ⟨3, true, [[I r.2.2.Rate, I r.2.2.Queries, I r.2.2.Grind]]⟩]) := by
  rw [Call_run (af := a_slices_ContainsFunc_Li_Query_i_Query) rfl]
  unfold slices_ContainsFunc_Li_Query_i_Query_are_i_Query_1_OpeningOK_1 at h
  simp +decide only [a_slices_ContainsFunc_Li_Query_i_Query, b_slices_ContainsFunc_Li_Query_i_Query, go_sem, reduceIte, Nat.reduceAdd]
  have d1 := @slices_IndexFunc_Li_Query_i_Query_are_i_Query_1_OpeningOK_1_c
  all_goals exact go
noncomputable def i_are_i_Query_OpeningOK_1 (list : (List Query)) (m : Int) (m2 : Setting) : Option (Bool × Int × Setting) :=
  (slices_ContainsFunc_Li_Query_i_Query_are_i_Query_1_OpeningOK_1 list m m2).bind fun r_ =>
  some ((!r_.1), r_.2.1, r_.2.2)
theorem i_are_i_Query_OpeningOK_1_c {list m m2 r} (h : i_are_i_Query_OpeningOK_1 list m m2 = some r) : Call tab ow 206 [.fn 207 [.ptr 0 0 0 1, .ptr 1 0 0 1], sl eQuery list] [⟨1, true, [[I m]]⟩, ⟨3, true, [[I m2.Rate, I m2.Queries, I m2.Grind]]⟩] = some (B r.1, [⟨1, true, [[I r.2.1]]⟩, ⟨3, true, [[I r.2.2.Rate, I r.2.2.Queries, I r.2.2.Grind]]⟩]) := by
  rw [Call_run (af := a_i_are_i_Query) rfl]
  unfold i_are_i_Query_OpeningOK_1 at h
  simp +decide only [a_i_are_i_Query, b_i_are_i_Query, go_sem, reduceIte, Nat.reduceAdd]
  have d1 := @slices_ContainsFunc_Li_Query_i_Query_are_i_Query_1_OpeningOK_1_c
  all_goals exact go
noncomputable def i_OpeningOK (o_ : Opening) (vars : Int) (t : Setting) : Option (Bool) :=
  (i_in vars (1 : Int) (6 : Int)).bind fun r_ =>
  br r_ (
    (i_SettingOK t).bind fun r_2 =>
    br r_2 (
      (i_areRounds o_.Rounds vars (3 : Int)).bind fun r_3 =>
      br r_3 (
        br (((o_.Roots.length : Nat) : Int) == (IntKind.wrap .i64 (vars - (1 : Int)))) (
          (i_are_string_isHash o_.Roots).bind fun r_4 =>
          br r_4 (
            (i_ExtOK o_.Last).bind fun r_5 =>
            br r_5 (
              (i_in o_.Nonce (0 : Int) (65535 : Int)).bind fun r_6 =>
              br r_6 (
                br (((o_.Queries.length : Nat) : Int) == t.Queries) (
                  (i_are_i_Query_OpeningOK_1 o_.Queries vars t).bind fun r_7 =>
                  some r_7.1) (
                  some false)) (
                some false)) (
              some false)) (
            some false)) (
          some false)) (
        some false)) (
      some false)) (
    some false)
theorem i_OpeningOK_c {o_ vars t r} (h : i_OpeningOK o_ vars t = some r) : Call tab ow 117 [.agg [sl (eL eExt) o_.Rounds, sl eS o_.Roots, I o_.Last.A, I o_.Last.B, I o_.Nonce, sl eQuery o_.Queries], I vars, .agg [I t.Rate, I t.Queries, I t.Grind]] [] = some (B r, []) := by
  rw [Call_run (af := a_i_OpeningOK) rfl]
  unfold i_OpeningOK at h
  simp +decide only [a_i_OpeningOK, b_i_OpeningOK, go_sem, reduceIte, Nat.reduceAdd]
  have d1 := @i_in_c
  have d2 := @i_SettingOK_c
  have d3 := @i_areRounds_c
  have d4 := @i_are_string_isHash_c
  have d5 := @i_ExtOK_c
  have d6 := @i_are_i_Query_OpeningOK_1_c
  all_goals exact go
end Go.AI.Fn

set_option linter.unusedVariables false
set_option linter.unusedSimpArgs false
set_option maxRecDepth 100000
set_option maxHeartbeats 1000000
namespace Go.AI.Fn
section
theorem i_Opening_bytes_k0 : mkR 2000 [] = rws eU8 [] := rfl
attribute [local go_sem] i_Opening_bytes_k0
theorem i_Opening_bytes_k1 : mkR 13003 [] = rws eExt [] := rfl
attribute [local go_sem] i_Opening_bytes_k1
noncomputable def i_Opening_bytes_1_s (t : List (List Ext)) (t2 : Int) (c : List (List Ext)) (c2 : List (List UInt8)) (c3 : Int) (c4 : Int) (c5 : Int) (c6 : List Query) : (List UInt8) × Int → Option (((List UInt8) × Int) ⊕ (((List UInt8) × Int × Bool)))
  | (l, t3) =>
    br (decide (t3 < t2)) (
      (atL t t3).bind fun x =>
      (i_extBytes x).bind fun r_ =>
      br (fits ((l ++ r_).length) 1) (
        some (.inl ((l ++ r_), (IntKind.wrap .i64 (t3 + (1 : Int)))))) (
        none)) (
      some (.inr (l, t3, decide (t3 < t2))))
@[reducible] def i_Opening_bytes_1_S (t : List (List Ext)) (t2 : Int) (c : List (List Ext)) (c2 : List (List UInt8)) (c3 : Int) (c4 : Int) (c5 : Int) (c6 : List Query) (s : (List UInt8) × Int) : St := ⟨[(1, .ptr 1000 0 0 1), (3, .sl 2000 0 s.1.length), (16, sl (eL eExt) t), (17, I t2), (18, I s.2)], [(1000, ⟨6, true, [[sl (eL eExt) c, sl eS c2, I c3, I c4, I c5, sl eQuery c6]]⟩), (2000, ⟨1, false, rws eU8 s.1⟩)]⟩
@[reducible] def i_Opening_bytes_1_E (t : List (List Ext)) (t2 : Int) (c : List (List Ext)) (c2 : List (List UInt8)) (c3 : Int) (c4 : Int) (c5 : Int) (c6 : List Query) : ((List UInt8) × Int × Bool) → AExit × St := fun e => (.exit 0, ⟨[(1, .ptr 1000 0 0 1), (3, .sl 2000 0 e.1.length), (16, sl (eL eExt) t), (17, I t2), (18, I e.2.1), (19, B e.2.2)], [(1000, ⟨6, true, [[sl (eL eExt) c, sl eS c2, I c3, I c4, I c5, sl eQuery c6]]⟩), (2000, ⟨1, false, rws eU8 e.1⟩)]⟩)
theorem i_Opening_bytes_1_l {t t2 c c2 c3 c4 c5 c6 s e} (h : Loop (i_Opening_bytes_1_s t t2 c c2 c3 c4 c5 c6) s = some e) : LoopX tab ow (.close [6002,6003]) b_i_Opening_bytes_3 (i_Opening_bytes_1_S t t2 c c2 c3 c4 c5 c6 s) = some (i_Opening_bytes_1_E t t2 c c2 c3 c4 c5 c6 e) := by
  refine lrG (fun s o h => ?_) h
  obtain ⟨_, _⟩ := s
  simp only [i_Opening_bytes_1_s] at h
  simp +decide only [i_Opening_bytes_1_S, i_Opening_bytes_1_E, b_i_Opening_bytes_3, go_sem, reduceIte, Nat.reduceAdd]
  have d1 := @i_extBytes_c
  all_goals exact go
noncomputable def i_Opening_bytes_2_s (t4 : List (List UInt8)) (t5 : Int) (c7 : List (List Ext)) (c8 : List (List UInt8)) (c9 : Int) (c10 : Int) (c11 : Int) (c12 : List Query) : (List UInt8) × Int → Option (((List UInt8) × Int) ⊕ (((List UInt8) × Int × Bool)))
  | (l2, t6) =>
    br (decide (t6 < t5)) (
      (atL t4 t6).bind fun x2 =>
      br (fits ((l2 ++ x2).length) 1) (
        some (.inl ((l2 ++ x2), (IntKind.wrap .i64 (t6 + (1 : Int)))))) (
        none)) (
      some (.inr (l2, t6, decide (t6 < t5))))
@[reducible] def i_Opening_bytes_2_S (t4 : List (List UInt8)) (t5 : Int) (c7 : List (List Ext)) (c8 : List (List UInt8)) (c9 : Int) (c10 : Int) (c11 : Int) (c12 : List Query) (s : (List UInt8) × Int) : St := ⟨[(1, .ptr 1000 0 0 1), (3, .sl 2000 0 s.1.length), (28, sl eS t4), (29, I t5), (30, I s.2)], [(1000, ⟨6, true, [[sl (eL eExt) c7, sl eS c8, I c9, I c10, I c11, sl eQuery c12]]⟩), (2000, ⟨1, false, rws eU8 s.1⟩)]⟩
@[reducible] def i_Opening_bytes_2_E (t4 : List (List UInt8)) (t5 : Int) (c7 : List (List Ext)) (c8 : List (List UInt8)) (c9 : Int) (c10 : Int) (c11 : Int) (c12 : List Query) : ((List UInt8) × Int × Bool) → AExit × St := fun e => (.exit 2, ⟨[(1, .ptr 1000 0 0 1), (3, .sl 2000 0 e.1.length), (28, sl eS t4), (29, I t5), (30, I e.2.1), (31, B e.2.2)], [(1000, ⟨6, true, [[sl (eL eExt) c7, sl eS c8, I c9, I c10, I c11, sl eQuery c12]]⟩), (2000, ⟨1, false, rws eU8 e.1⟩)]⟩)
theorem i_Opening_bytes_2_l {t4 t5 c7 c8 c9 c10 c11 c12 s e} (h : Loop (i_Opening_bytes_2_s t4 t5 c7 c8 c9 c10 c11 c12) s = some e) : LoopX tab ow (.close [11002]) b_i_Opening_bytes_8 (i_Opening_bytes_2_S t4 t5 c7 c8 c9 c10 c11 c12 s) = some (i_Opening_bytes_2_E t4 t5 c7 c8 c9 c10 c11 c12 e) := by
  refine lrG (fun s o h => ?_) h
  obtain ⟨_, _⟩ := s
  simp only [i_Opening_bytes_2_s] at h
  simp +decide only [i_Opening_bytes_2_S, i_Opening_bytes_2_E, b_i_Opening_bytes_8, go_sem, reduceIte, Nat.reduceAdd]
  all_goals exact go
noncomputable def i_Opening_bytes_5_s (t16 : List Query) (t17 : Int) (t18 : Int) (t19 : List (List (List UInt8))) (t20 : Int) (t21 : Int) (t22 : List (List UInt8)) (t23 : Int) (c27 : List (List Ext)) (c28 : List (List UInt8)) (c29 : Int) (c30 : Int) (c31 : Int) (c32 : List Query) (c33 : List Ext) (c34 : List (List (List UInt8))) : (List UInt8) × Int → Option (((List UInt8) × Int) ⊕ (((List UInt8) × Int × Bool)))
  | (l5, t24) =>
    br (decide (t24 < t23)) (
      (atL t22 t24).bind fun x5 =>
      br (fits ((l5 ++ x5).length) 1) (
        some (.inl ((l5 ++ x5), (IntKind.wrap .i64 (t24 + (1 : Int)))))) (
        none)) (
      some (.inr (l5, t24, decide (t24 < t23))))
@[reducible] def i_Opening_bytes_5_S (t16 : List Query) (t17 : Int) (t18 : Int) (t19 : List (List (List UInt8))) (t20 : Int) (t21 : Int) (t22 : List (List UInt8)) (t23 : Int) (c27 : List (List Ext)) (c28 : List (List UInt8)) (c29 : Int) (c30 : Int) (c31 : Int) (c32 : List Query) (c33 : List Ext) (c34 : List (List (List UInt8))) (s : (List UInt8) × Int) : St := ⟨[(3, .sl 2000 0 s.1.length), (48, sl eQuery t16), (49, I t17), (50, I t18), (60, sl (eL eS) t19), (61, I t20), (62, I t21), (66, sl eS t22), (67, I t23), (68, I s.2)], [(1000, ⟨6, true, [[sl (eL eExt) c27, sl eS c28, I c29, I c30, I c31, sl eQuery c32]]⟩), (2000, ⟨1, false, rws eU8 s.1⟩), (13003, dead), (16002, ⟨2, true, [[sl eExt c33, sl (eL eS) c34]]⟩)]⟩
@[reducible] def i_Opening_bytes_5_E (t16 : List Query) (t17 : Int) (t18 : Int) (t19 : List (List (List UInt8))) (t20 : Int) (t21 : Int) (t22 : List (List UInt8)) (t23 : Int) (c27 : List (List Ext)) (c28 : List (List UInt8)) (c29 : Int) (c30 : Int) (c31 : Int) (c32 : List Query) (c33 : List Ext) (c34 : List (List (List UInt8))) : ((List UInt8) × Int × Bool) → AExit × St := fun e => (.exit 8, ⟨[(3, .sl 2000 0 e.1.length), (48, sl eQuery t16), (49, I t17), (50, I t18), (60, sl (eL eS) t19), (61, I t20), (62, I t21), (66, sl eS t22), (67, I t23), (68, I e.2.1), (69, B e.2.2)], [(1000, ⟨6, true, [[sl (eL eExt) c27, sl eS c28, I c29, I c30, I c31, sl eQuery c32]]⟩), (2000, ⟨1, false, rws eU8 e.1⟩), (13003, dead), (16002, ⟨2, true, [[sl eExt c33, sl (eL eS) c34]]⟩)]⟩)
theorem i_Opening_bytes_5_l {t16 t17 t18 t19 t20 t21 t22 t23 c27 c28 c29 c30 c31 c32 c33 c34 s e} (h : Loop (i_Opening_bytes_5_s t16 t17 t18 t19 t20 t21 t22 t23 c27 c28 c29 c30 c31 c32 c33 c34) s = some e) : LoopX tab ow (.close [24002]) b_i_Opening_bytes_21 (i_Opening_bytes_5_S t16 t17 t18 t19 t20 t21 t22 t23 c27 c28 c29 c30 c31 c32 c33 c34 s) = some (i_Opening_bytes_5_E t16 t17 t18 t19 t20 t21 t22 t23 c27 c28 c29 c30 c31 c32 c33 c34 e) := by
  refine lrG (fun s o h => ?_) h
  obtain ⟨_, _⟩ := s
  simp only [i_Opening_bytes_5_s] at h
  simp +decide only [i_Opening_bytes_5_S, i_Opening_bytes_5_E, b_i_Opening_bytes_21, go_sem, reduceIte, Nat.reduceAdd]
  all_goals exact go
noncomputable def i_Opening_bytes_4_s (t10 : List Query) (t11 : Int) (t12 : Int) (t13 : List (List (List UInt8))) (t14 : Int) (c19 : List (List Ext)) (c20 : List (List UInt8)) (c21 : Int) (c22 : Int) (c23 : Int) (c24 : List Query) (c25 : List Ext) (c26 : List (List (List UInt8))) : (List UInt8) × Int → Option (((List UInt8) × Int) ⊕ (((List UInt8) × Int × Bool)))
  | (l4, t15) =>
    br (decide (t15 < t14)) (
      (atL t13 t15).bind fun x4 =>
      (Loop (i_Opening_bytes_5_s t10 t11 t12 t13 t14 t15 x4 ((x4.length : Nat) : Int) c19 c20 c21 c22 c23 c24 c25 c26) (l4, (0 : Int))).bind fun e_3 =>
      some (.inl (e_3.1, (IntKind.wrap .i64 (t15 + (1 : Int)))))) (
      some (.inr (l4, t15, decide (t15 < t14))))
@[reducible] def i_Opening_bytes_4_S (t10 : List Query) (t11 : Int) (t12 : Int) (t13 : List (List (List UInt8))) (t14 : Int) (c19 : List (List Ext)) (c20 : List (List UInt8)) (c21 : Int) (c22 : Int) (c23 : Int) (c24 : List Query) (c25 : List Ext) (c26 : List (List (List UInt8))) (s : (List UInt8) × Int) : St := ⟨[(3, .sl 2000 0 s.1.length), (48, sl eQuery t10), (49, I t11), (50, I t12), (60, sl (eL eS) t13), (61, I t14), (62, I s.2)], [(1000, ⟨6, true, [[sl (eL eExt) c19, sl eS c20, I c21, I c22, I c23, sl eQuery c24]]⟩), (2000, ⟨1, false, rws eU8 s.1⟩), (13003, dead), (16002, ⟨2, true, [[sl eExt c25, sl (eL eS) c26]]⟩)]⟩
@[reducible] def i_Opening_bytes_4_E (t10 : List Query) (t11 : Int) (t12 : Int) (t13 : List (List (List UInt8))) (t14 : Int) (c19 : List (List Ext)) (c20 : List (List UInt8)) (c21 : Int) (c22 : Int) (c23 : Int) (c24 : List Query) (c25 : List Ext) (c26 : List (List (List UInt8))) : ((List UInt8) × Int × Bool) → AExit × St := fun e => (.exit 6, ⟨[(3, .sl 2000 0 e.1.length), (48, sl eQuery t10), (49, I t11), (50, I t12), (60, sl (eL eS) t13), (61, I t14), (62, I e.2.1), (63, B e.2.2)], [(1000, ⟨6, true, [[sl (eL eExt) c19, sl eS c20, I c21, I c22, I c23, sl eQuery c24]]⟩), (2000, ⟨1, false, rws eU8 e.1⟩), (13003, dead), (16002, ⟨2, true, [[sl eExt c25, sl (eL eS) c26]]⟩)]⟩)
theorem i_Opening_bytes_4_l {t10 t11 t12 t13 t14 c19 c20 c21 c22 c23 c24 c25 c26 s e} (h : Loop (i_Opening_bytes_4_s t10 t11 t12 t13 t14 c19 c20 c21 c22 c23 c24 c25 c26) s = some e) : LoopX tab ow (.close [24002]) b_i_Opening_bytes_18 (i_Opening_bytes_4_S t10 t11 t12 t13 t14 c19 c20 c21 c22 c23 c24 c25 c26 s) = some (i_Opening_bytes_4_E t10 t11 t12 t13 t14 c19 c20 c21 c22 c23 c24 c25 c26 e) := by
  refine lrG (fun s o h => ?_) h
  obtain ⟨_, _⟩ := s
  simp only [i_Opening_bytes_4_s] at h
  simp +decide only [i_Opening_bytes_4_S, i_Opening_bytes_4_E, b_i_Opening_bytes_18, go_sem, reduceIte, Nat.reduceAdd]
  have d1 := @i_Opening_bytes_5_l
  all_goals exact go
noncomputable def i_Opening_bytes_3_s (t7 : List Query) (t8 : Int) (c13 : List (List Ext)) (c14 : List (List UInt8)) (c15 : Int) (c16 : Int) (c17 : Int) (c18 : List Query) : (List UInt8) × Int → Option (((List UInt8) × Int) ⊕ (((List UInt8) × Int × Bool)))
  | (l3, t9) =>
    br (decide (t9 < t8)) (
      (atL t7 t9).bind fun x3 =>
      (i_extBytes x3.Pairs).bind fun r_4 =>
      br (fits ((l3 ++ r_4).length) 1) (
        (Loop (i_Opening_bytes_4_s t7 t8 t9 x3.Paths ((x3.Paths.length : Nat) : Int) c13 c14 c15 c16 c17 c18 x3.Pairs x3.Paths) ((l3 ++ r_4), (0 : Int))).bind fun e_4 =>
        some (.inl (e_4.1, (IntKind.wrap .i64 (t9 + (1 : Int)))))) (
        none)) (
      some (.inr (l3, t9, decide (t9 < t8))))
@[reducible] def i_Opening_bytes_3_S (t7 : List Query) (t8 : Int) (c13 : List (List Ext)) (c14 : List (List UInt8)) (c15 : Int) (c16 : Int) (c17 : Int) (c18 : List Query) (s : (List UInt8) × Int) : St := ⟨[(3, .sl 2000 0 s.1.length), (48, sl eQuery t7), (49, I t8), (50, I s.2)], [(1000, ⟨6, true, [[sl (eL eExt) c13, sl eS c14, I c15, I c16, I c17, sl eQuery c18]]⟩), (2000, ⟨1, false, rws eU8 s.1⟩), (13003, dead)]⟩
@[reducible] def i_Opening_bytes_3_E (t7 : List Query) (t8 : Int) (c13 : List (List Ext)) (c14 : List (List UInt8)) (c15 : Int) (c16 : Int) (c17 : Int) (c18 : List Query) : ((List UInt8) × Int × Bool) → AExit × St := fun e => (.exit 4, ⟨[(3, .sl 2000 0 e.1.length), (48, sl eQuery t7), (49, I t8), (50, I e.2.1), (51, B e.2.2)], [(1000, ⟨6, true, [[sl (eL eExt) c13, sl eS c14, I c15, I c16, I c17, sl eQuery c18]]⟩), (2000, ⟨1, false, rws eU8 e.1⟩), (13003, dead)]⟩)
theorem i_Opening_bytes_3_l {t7 t8 c13 c14 c15 c16 c17 c18 s e} (h : Loop (i_Opening_bytes_3_s t7 t8 c13 c14 c15 c16 c17 c18) s = some e) : LoopX tab ow (.close [16002,17003,17004,24002]) b_i_Opening_bytes_14 (i_Opening_bytes_3_S t7 t8 c13 c14 c15 c16 c17 c18 s) = some (i_Opening_bytes_3_E t7 t8 c13 c14 c15 c16 c17 c18 e) := by
  refine lrG (fun s o h => ?_) h
  obtain ⟨_, _⟩ := s
  simp only [i_Opening_bytes_3_s] at h
  simp +decide only [i_Opening_bytes_3_S, i_Opening_bytes_3_E, b_i_Opening_bytes_14, go_sem, reduceIte, Nat.reduceAdd]
  have d1 := @i_extBytes_c
  have d2 := @i_Opening_bytes_4_l
  all_goals exact go
noncomputable def i_Opening_bytes (ListtoArray : Opening) : Option ((List UInt8)) :=
  (Loop (i_Opening_bytes_1_s ListtoArray.Rounds ((ListtoArray.Rounds.length : Nat) : Int) ListtoArray.Rounds ListtoArray.Roots ListtoArray.Last.A ListtoArray.Last.B ListtoArray.Nonce ListtoArray.Queries) (([] : List UInt8), (0 : Int))).bind fun e_ =>
  (Loop (i_Opening_bytes_2_s ListtoArray.Roots ((ListtoArray.Roots.length : Nat) : Int) ListtoArray.Rounds ListtoArray.Roots ListtoArray.Last.A ListtoArray.Last.B ListtoArray.Nonce ListtoArray.Queries) (e_.1, (0 : Int))).bind fun e_2 =>
  (i_extBytes ([ListtoArray.Last] : List Ext)).bind fun r_2 =>
  br (fits ((e_2.1 ++ r_2).length) 1) (
    (i_four_o ListtoArray.Nonce (e_2.1 ++ r_2)).bind fun r_3 =>
    (Loop (i_Opening_bytes_3_s ListtoArray.Queries ((ListtoArray.Queries.length : Nat) : Int) ListtoArray.Rounds ListtoArray.Roots ListtoArray.Last.A ListtoArray.Last.B ListtoArray.Nonce ListtoArray.Queries) (r_3, (0 : Int))).bind fun e_5 =>
    some e_5.1) (
    none)
theorem i_Opening_bytes_c {ListtoArray r} (h : i_Opening_bytes ListtoArray = some r) : Call tab ow 118 [.agg [sl (eL eExt) ListtoArray.Rounds, sl eS ListtoArray.Roots, I ListtoArray.Last.A, I ListtoArray.Last.B, I ListtoArray.Nonce, sl eQuery ListtoArray.Queries]] [] = some (sl eU8 r, []) := by
  rw [Call_run (af := a_i_Opening_bytes) rfl]
  unfold i_Opening_bytes at h
  simp +decide only [a_i_Opening_bytes, b_i_Opening_bytes, go_sem, reduceIte, Nat.reduceAdd]
  have d1 := @i_Opening_bytes_1_l
  have d2 := @i_Opening_bytes_2_l
  have d3 := @i_extBytes_c
  have d4 := @i_four_o_c
  have d5 := @i_Opening_bytes_3_l
  all_goals exact go
end
noncomputable def i_OpeningBytes (o_ : Opening) (vars : Int) (t : Setting) : Option ((List UInt8) × Int) :=
  (i_OpeningOK o_ vars t).bind fun r_ =>
  br (!r_) (
    some (([] : List UInt8), (1 : Int))) (
    (i_Opening_bytes o_).bind fun r_2 =>
    some (r_2, (0 : Int)))
theorem i_OpeningBytes_c {o_ vars t r} (h : i_OpeningBytes o_ vars t = some r) : Call tab ow 36 [.agg [sl (eL eExt) o_.Rounds, sl eS o_.Roots, I o_.Last.A, I o_.Last.B, I o_.Nonce, sl eQuery o_.Queries], I vars, .agg [I t.Rate, I t.Queries, I t.Grind]] [] = some (.tup [sl eU8 r.1, I r.2], []) := by
  rw [Call_run (af := a_i_OpeningBytes) rfl]
  unfold i_OpeningBytes at h
  simp +decide only [a_i_OpeningBytes, b_i_OpeningBytes, go_sem, reduceIte, Nat.reduceAdd]
  have d1 := @i_OpeningOK_c
  have d2 := @i_Opening_bytes_c
  all_goals exact go
noncomputable def s_OpeningOK_1_s (t : Int) (c : List (List Ext)) (c2 : List (List UInt8)) (c3 : Int) (c4 : Int) (c5 : Int) (c6 : List Query) (c7 : Int) (c8 : Int) (c9 : Int) : Int → Option ((Int) ⊕ (Unit ⊕ (Int × Bool)))
  | t2 =>
    br (decide (t2 < t)) (
      (atL c t2).bind fun x =>
      br (((x.length : Nat) : Int) != (3 : Int)) (
        some (.inr (.inl ()))) (
        (atL c t2).bind fun x2 =>
        (s_l02List x2).bind fun r_5 =>
        br (!r_5) (
          some (.inr (.inl ()))) (
          br (decide (t2 > (0 : Int))) (
            (atL c2 (IntKind.wrap .i64 (t2 - (1 : Int)))).bind fun x3 =>
            br (((x3.length : Nat) : Int) != (32 : Int)) (
              some (.inr (.inl ()))) (
              some (.inl (IntKind.wrap .i64 (t2 + (1 : Int)))))) (
            some (.inl (IntKind.wrap .i64 (t2 + (1 : Int)))))))) (
      some (.inr (.inr (t2, decide (t2 < t)))))
@[reducible] def s_OpeningOK_1_S (t : Int) (c : List (List Ext)) (c2 : List (List UInt8)) (c3 : Int) (c4 : Int) (c5 : Int) (c6 : List Query) (c7 : Int) (c8 : Int) (c9 : Int) (s : Int) : St := ⟨[(1, I t), (3, .ptr 1000 0 0 1), (5, .ptr 1001 0 0 1), (7, I s)], [(1000, ⟨6, true, [[sl (eL eExt) c, sl eS c2, I c3, I c4, I c5, sl eQuery c6]]⟩), (1001, ⟨3, true, [[I c7, I c8, I c9]]⟩)]⟩
@[reducible] def s_OpeningOK_1_E (t : Int) (c : List (List Ext)) (c2 : List (List UInt8)) (c3 : Int) (c4 : Int) (c5 : Int) (c6 : List Query) (c7 : Int) (c8 : Int) (c9 : Int) : (Unit ⊕ (Int × Bool)) → AExit × St := alt (fun e => ((.ret, ⟨[(6, B false)], [(1000, ⟨6, true, [[sl (eL eExt) c, sl eS c2, I c3, I c4, I c5, sl eQuery c6]]⟩), (1001, ⟨3, true, [[I c7, I c8, I c9]]⟩)]⟩) : AExit × St)) (fun e => (.exit 0, ⟨[(1, I t), (3, .ptr 1000 0 0 1), (5, .ptr 1001 0 0 1), (7, I e.1), (57, B e.2)], [(1000, ⟨6, true, [[sl (eL eExt) c, sl eS c2, I c3, I c4, I c5, sl eQuery c6]]⟩), (1001, ⟨3, true, [[I c7, I c8, I c9]]⟩)]⟩))
theorem s_OpeningOK_1_l {t c c2 c3 c4 c5 c6 c7 c8 c9 s e} (h : Loop (s_OpeningOK_1_s t c c2 c3 c4 c5 c6 c7 c8 c9) s = some e) : LoopX tab ow (.close [7013]) b_s_OpeningOK_4 (s_OpeningOK_1_S t c c2 c3 c4 c5 c6 c7 c8 c9 s) = some (s_OpeningOK_1_E t c c2 c3 c4 c5 c6 c7 c8 c9 e) := by
  refine lrG (fun s o h => ?_) h
  simp only [s_OpeningOK_1_s] at h
  simp +decide only [s_OpeningOK_1_S, s_OpeningOK_1_E, b_s_OpeningOK_4, go_sem, reduceIte, Nat.reduceAdd]
  have d1 := @s_l02List_c
  all_goals exact go
noncomputable def s_OpeningOK_4_s (t8 : Int) (t9 : Int) (t10 : Int) (c30 : List (List Ext)) (c31 : List (List UInt8)) (c32 : Int) (c33 : Int) (c34 : Int) (c35 : List Query) (c36 : Int) (c37 : Int) (c38 : Int) (c39 : List Ext) (c40 : List (List (List UInt8))) : Int → Option ((Int) ⊕ (Unit ⊕ (Int × Bool)))
  | t11 =>
    (atL c40 t10).bind fun x6 =>
    br (decide (t11 < ((x6.length : Nat) : Int))) (
      (atL c40 t10).bind fun x7 =>
      (atL x7 t11).bind fun x8 =>
      br (((x8.length : Nat) : Int) != (32 : Int)) (
        some (.inr (.inl ()))) (
        some (.inl (IntKind.wrap .i64 (t11 + (1 : Int)))))) (
      some (.inr (.inr (t11, decide (t11 < ((x6.length : Nat) : Int))))))
@[reducible] def s_OpeningOK_4_S (t8 : Int) (t9 : Int) (t10 : Int) (c30 : List (List Ext)) (c31 : List (List UInt8)) (c32 : Int) (c33 : Int) (c34 : Int) (c35 : List Query) (c36 : Int) (c37 : Int) (c38 : Int) (c39 : List Ext) (c40 : List (List (List UInt8))) (s : Int) : St := ⟨[(1, I t8), (3, .ptr 1000 0 0 1), (5, .ptr 1001 0 0 1), (8, I t9), (9, .ptr 12005 0 0 1), (10, I t10), (11, I s)], [(1000, ⟨6, true, [[sl (eL eExt) c30, sl eS c31, I c32, I c33, I c34, sl eQuery c35]]⟩), (1001, ⟨3, true, [[I c36, I c37, I c38]]⟩), (12005, ⟨2, true, [[sl eExt c39, sl (eL eS) c40]]⟩)]⟩
@[reducible] def s_OpeningOK_4_E (t8 : Int) (t9 : Int) (t10 : Int) (c30 : List (List Ext)) (c31 : List (List UInt8)) (c32 : Int) (c33 : Int) (c34 : Int) (c35 : List Query) (c36 : Int) (c37 : Int) (c38 : Int) (c39 : List Ext) (c40 : List (List (List UInt8))) : (Unit ⊕ (Int × Bool)) → AExit × St := alt (fun e => ((.ret, ⟨[(6, B false)], [(1000, ⟨6, true, [[sl (eL eExt) c30, sl eS c31, I c32, I c33, I c34, sl eQuery c35]]⟩), (1001, ⟨3, true, [[I c36, I c37, I c38]]⟩), (12005, ⟨2, true, [[sl eExt c39, sl (eL eS) c40]]⟩)]⟩) : AExit × St)) (fun e => (.exit 6, ⟨[(1, I t8), (3, .ptr 1000 0 0 1), (5, .ptr 1001 0 0 1), (8, I t9), (9, .ptr 12005 0 0 1), (10, I t10), (11, I e.1), (147, B e.2)], [(1000, ⟨6, true, [[sl (eL eExt) c30, sl eS c31, I c32, I c33, I c34, sl eQuery c35]]⟩), (1001, ⟨3, true, [[I c36, I c37, I c38]]⟩), (12005, ⟨2, true, [[sl eExt c39, sl (eL eS) c40]]⟩)]⟩))
theorem s_OpeningOK_4_l {t8 t9 t10 c30 c31 c32 c33 c34 c35 c36 c37 c38 c39 c40 s e} (h : Loop (s_OpeningOK_4_s t8 t9 t10 c30 c31 c32 c33 c34 c35 c36 c37 c38 c39 c40) s = some e) : LoopX tab ow (.close []) b_s_OpeningOK_20 (s_OpeningOK_4_S t8 t9 t10 c30 c31 c32 c33 c34 c35 c36 c37 c38 c39 c40 s) = some (s_OpeningOK_4_E t8 t9 t10 c30 c31 c32 c33 c34 c35 c36 c37 c38 c39 c40 e) := by
  refine lrG (fun s o h => ?_) h
  simp only [s_OpeningOK_4_s] at h
  simp +decide only [s_OpeningOK_4_S, s_OpeningOK_4_E, b_s_OpeningOK_20, go_sem, reduceIte, Nat.reduceAdd]
  all_goals exact go
noncomputable def s_OpeningOK_3_s (t5 : Int) (t6 : Int) (c19 : List (List Ext)) (c20 : List (List UInt8)) (c21 : Int) (c22 : Int) (c23 : Int) (c24 : List Query) (c25 : Int) (c26 : Int) (c27 : Int) (c28 : List Ext) (c29 : List (List (List UInt8))) : Int → Option ((Int) ⊕ (Unit ⊕ (Int × Bool)))
  | t7 =>
    br (decide (t7 < t5)) (
      (atL c29 t7).bind fun x5 =>
      br (((x5.length : Nat) : Int) != (IntKind.wrap .i64 ((IntKind.wrap .i64 ((IntKind.wrap .i64 (t5 + c25)) - (1 : Int))) - t7))) (
        some (.inr (.inl ()))) (
        (Loop (s_OpeningOK_4_s t5 t6 t7 c19 c20 c21 c22 c23 c24 c25 c26 c27 c28 c29) (0 : Int)).bind (alt (fun e_5 =>
          some (.inr (.inl ()))) (fun e_6 =>
          some (.inl (IntKind.wrap .i64 (t7 + (1 : Int)))))))) (
      some (.inr (.inr (t7, decide (t7 < t5)))))
@[reducible] def s_OpeningOK_3_S (t5 : Int) (t6 : Int) (c19 : List (List Ext)) (c20 : List (List UInt8)) (c21 : Int) (c22 : Int) (c23 : Int) (c24 : List Query) (c25 : Int) (c26 : Int) (c27 : Int) (c28 : List Ext) (c29 : List (List (List UInt8))) (s : Int) : St := ⟨[(1, I t5), (3, .ptr 1000 0 0 1), (5, .ptr 1001 0 0 1), (8, I t6), (9, .ptr 12005 0 0 1), (10, I s)], [(1000, ⟨6, true, [[sl (eL eExt) c19, sl eS c20, I c21, I c22, I c23, sl eQuery c24]]⟩), (1001, ⟨3, true, [[I c25, I c26, I c27]]⟩), (12005, ⟨2, true, [[sl eExt c28, sl (eL eS) c29]]⟩)]⟩
@[reducible] def s_OpeningOK_3_E (t5 : Int) (t6 : Int) (c19 : List (List Ext)) (c20 : List (List UInt8)) (c21 : Int) (c22 : Int) (c23 : Int) (c24 : List Query) (c25 : Int) (c26 : Int) (c27 : Int) (c28 : List Ext) (c29 : List (List (List UInt8))) : (Unit ⊕ (Int × Bool)) → AExit × St := alt (fun e => ((.ret, ⟨[(6, B false)], [(1000, ⟨6, true, [[sl (eL eExt) c19, sl eS c20, I c21, I c22, I c23, sl eQuery c24]]⟩), (1001, ⟨3, true, [[I c25, I c26, I c27]]⟩), (12005, ⟨2, true, [[sl eExt c28, sl (eL eS) c29]]⟩)]⟩) : AExit × St)) (fun e => (.exit 4, ⟨[(1, I t5), (3, .ptr 1000 0 0 1), (5, .ptr 1001 0 0 1), (8, I t6), (9, .ptr 12005 0 0 1), (10, I e.1), (123, B e.2)], [(1000, ⟨6, true, [[sl (eL eExt) c19, sl eS c20, I c21, I c22, I c23, sl eQuery c24]]⟩), (1001, ⟨3, true, [[I c25, I c26, I c27]]⟩), (12005, ⟨2, true, [[sl eExt c28, sl (eL eS) c29]]⟩)]⟩))
theorem s_OpeningOK_3_l {t5 t6 c19 c20 c21 c22 c23 c24 c25 c26 c27 c28 c29 s e} (h : Loop (s_OpeningOK_3_s t5 t6 c19 c20 c21 c22 c23 c24 c25 c26 c27 c28 c29) s = some e) : LoopX tab ow (.close []) b_s_OpeningOK_15 (s_OpeningOK_3_S t5 t6 c19 c20 c21 c22 c23 c24 c25 c26 c27 c28 c29 s) = some (s_OpeningOK_3_E t5 t6 c19 c20 c21 c22 c23 c24 c25 c26 c27 c28 c29 e) := by
  refine lrG (fun s o h => ?_) h
  simp only [s_OpeningOK_3_s] at h
  simp +decide only [s_OpeningOK_3_S, s_OpeningOK_3_E, b_s_OpeningOK_15, go_sem, reduceIte, Nat.reduceAdd]
  have d1 := @s_OpeningOK_4_l
  all_goals exact go
noncomputable def s_OpeningOK_2_s (t3 : Int) (c10 : List (List Ext)) (c11 : List (List UInt8)) (c12 : Int) (c13 : Int) (c14 : Int) (c15 : List Query) (c16 : Int) (c17 : Int) (c18 : Int) : Int → Option ((Int) ⊕ (((List Ext) × (List (List (List UInt8)))) ⊕ (Int × Bool)))
  | t4 =>
    br (decide (t4 < ((c15.length : Nat) : Int))) (
      (atL c15 t4).bind fun x4 =>
      br (((x4.Pairs.length : Nat) : Int) != (IntKind.wrap .i64 ((2 : Int) * t3))) (
        some (.inr (.inl (x4.Pairs, x4.Paths)))) (
        (s_l02List x4.Pairs).bind fun r_6 =>
        br (!r_6) (
          some (.inr (.inl (x4.Pairs, x4.Paths)))) (
          br (((x4.Paths.length : Nat) : Int) != t3) (
            some (.inr (.inl (x4.Pairs, x4.Paths)))) (
            (Loop (s_OpeningOK_3_s t3 t4 c10 c11 c12 c13 c14 c15 c16 c17 c18 x4.Pairs x4.Paths) (0 : Int)).bind (alt (fun e_8 =>
              some (.inr (.inl (x4.Pairs, x4.Paths)))) (fun e_9 =>
              some (.inl (IntKind.wrap .i64 (t4 + (1 : Int)))))))))) (
      some (.inr (.inr (t4, decide (t4 < ((c15.length : Nat) : Int))))))
@[reducible] def s_OpeningOK_2_S (t3 : Int) (c10 : List (List Ext)) (c11 : List (List UInt8)) (c12 : Int) (c13 : Int) (c14 : Int) (c15 : List Query) (c16 : Int) (c17 : Int) (c18 : Int) (s : Int) : St := ⟨[(1, I t3), (3, .ptr 1000 0 0 1), (5, .ptr 1001 0 0 1), (8, I s)], [(1000, ⟨6, true, [[sl (eL eExt) c10, sl eS c11, I c12, I c13, I c14, sl eQuery c15]]⟩), (1001, ⟨3, true, [[I c16, I c17, I c18]]⟩)]⟩
@[reducible] def s_OpeningOK_2_E (t3 : Int) (c10 : List (List Ext)) (c11 : List (List UInt8)) (c12 : Int) (c13 : Int) (c14 : Int) (c15 : List Query) (c16 : Int) (c17 : Int) (c18 : Int) : (((List Ext) × (List (List (List UInt8)))) ⊕ (Int × Bool)) → AExit × St := alt (fun e => ((.ret, ⟨[(6, B false)], [(1000, ⟨6, true, [[sl (eL eExt) c10, sl eS c11, I c12, I c13, I c14, sl eQuery c15]]⟩), (1001, ⟨3, true, [[I c16, I c17, I c18]]⟩), (12005, ⟨2, true, [[sl eExt e.1, sl (eL eS) e.2]]⟩)]⟩) : AExit × St)) (fun e => (.exit 2, ⟨[(1, I t3), (3, .ptr 1000 0 0 1), (5, .ptr 1001 0 0 1), (8, I e.1), (94, B e.2)], [(1000, ⟨6, true, [[sl (eL eExt) c10, sl eS c11, I c12, I c13, I c14, sl eQuery c15]]⟩), (1001, ⟨3, true, [[I c16, I c17, I c18]]⟩)]⟩))
theorem s_OpeningOK_2_l {t3 c10 c11 c12 c13 c14 c15 c16 c17 c18 s e} (h : Loop (s_OpeningOK_2_s t3 c10 c11 c12 c13 c14 c15 c16 c17 c18) s = some e) : LoopX tab ow (.close [12005,13009]) b_s_OpeningOK_9 (s_OpeningOK_2_S t3 c10 c11 c12 c13 c14 c15 c16 c17 c18 s) = some (s_OpeningOK_2_E t3 c10 c11 c12 c13 c14 c15 c16 c17 c18 e) := by
  refine lrG (fun s o h => ?_) h
  simp only [s_OpeningOK_2_s] at h
  simp +decide only [s_OpeningOK_2_S, s_OpeningOK_2_E, b_s_OpeningOK_9, go_sem, reduceIte, Nat.reduceAdd]
  have d1 := @s_l02List_c
  have d2 := @s_OpeningOK_3_l
  all_goals exact go
noncomputable def s_OpeningOK (ListtoArray : Opening) (a : Int) (a2 : Setting) : Option (Bool) :=
  (s_l01In a (1 : Int) (6 : Int)).bind fun r_ =>
  br (!r_) (
    some false) (
    (s_SettingOK a2).bind fun r_2 =>
    br (!r_2) (
      some false) (
      br (((ListtoArray.Rounds.length : Nat) : Int) != a) (
        some false) (
        br (((ListtoArray.Roots.length : Nat) : Int) != (IntKind.wrap .i64 (a - (1 : Int)))) (
          some false) (
          br (((ListtoArray.Queries.length : Nat) : Int) != a2.Queries) (
            some false) (
            (s_ExtOK ListtoArray.Last).bind fun r_3 =>
            br (!r_3) (
              some false) (
              (s_l01In ListtoArray.Nonce (0 : Int) (65535 : Int)).bind fun r_4 =>
              br (!r_4) (
                some false) (
                (Loop (s_OpeningOK_1_s a ListtoArray.Rounds ListtoArray.Roots ListtoArray.Last.A ListtoArray.Last.B ListtoArray.Nonce ListtoArray.Queries a2.Rate a2.Queries a2.Grind) (0 : Int)).bind (alt (fun e_2 =>
                  some false) (fun e_3 =>
                  (Loop (s_OpeningOK_2_s a ListtoArray.Rounds ListtoArray.Roots ListtoArray.Last.A ListtoArray.Last.B ListtoArray.Nonce ListtoArray.Queries a2.Rate a2.Queries a2.Grind) (0 : Int)).bind (alt (fun e_11 =>
                    some false) (fun e_12 =>
                    some true)))))))))))
theorem s_OpeningOK_c {ListtoArray a a2 r} (h : s_OpeningOK ListtoArray a a2 = some r) : Call tab ow 119 [.agg [sl (eL eExt) ListtoArray.Rounds, sl eS ListtoArray.Roots, I ListtoArray.Last.A, I ListtoArray.Last.B, I ListtoArray.Nonce, sl eQuery ListtoArray.Queries], I a, .agg [I a2.Rate, I a2.Queries, I a2.Grind]] [] = some (B r, []) := by
  rw [Call_run (af := a_s_OpeningOK) rfl]
  unfold s_OpeningOK at h
  simp +decide only [a_s_OpeningOK, b_s_OpeningOK, go_sem, reduceIte, Nat.reduceAdd]
  have d1 := @s_l01In_c
  have d2 := @s_SettingOK_c
  have d3 := @s_ExtOK_c
  have d4 := @s_OpeningOK_1_l
  have d5 := @s_OpeningOK_2_l
  all_goals exact go
section
theorem s_l09Bytes_k0 : mkR 2000 [] = rws eU8 [] := rfl
attribute [local go_sem] s_l09Bytes_k0
theorem s_l09Bytes_k1 : mkR 11003 [] = rws eExt [] := rfl
attribute [local go_sem] s_l09Bytes_k1
noncomputable def s_l09Bytes_1_s (c : List (List Ext)) (c2 : List (List UInt8)) (c3 : Int) (c4 : Int) (c5 : Int) (c6 : List Query) : (List UInt8) × Int → Option (((List UInt8) × Int) ⊕ (((List UInt8) × Int × Bool)))
  | (l, t) =>
    br (decide (t < ((c.length : Nat) : Int))) (
      (atL c t).bind fun x =>
      (s_l02Bytes x).bind fun r_ =>
      br (fits ((l ++ r_).length) 1) (
        some (.inl ((l ++ r_), (IntKind.wrap .i64 (t + (1 : Int)))))) (
        none)) (
      some (.inr (l, t, decide (t < ((c.length : Nat) : Int)))))
@[reducible] def s_l09Bytes_1_S (c : List (List Ext)) (c2 : List (List UInt8)) (c3 : Int) (c4 : Int) (c5 : Int) (c6 : List Query) (s : (List UInt8) × Int) : St := ⟨[(1, .ptr 1000 0 0 1), (3, .sl 2000 0 s.1.length), (4, I s.2)], [(1000, ⟨6, true, [[sl (eL eExt) c, sl eS c2, I c3, I c4, I c5, sl eQuery c6]]⟩), (2000, ⟨1, false, rws eU8 s.1⟩)]⟩
@[reducible] def s_l09Bytes_1_E (c : List (List Ext)) (c2 : List (List UInt8)) (c3 : Int) (c4 : Int) (c5 : Int) (c6 : List Query) : ((List UInt8) × Int × Bool) → AExit × St := fun e => (.exit 0, ⟨[(1, .ptr 1000 0 0 1), (3, .sl 2000 0 e.1.length), (4, I e.2.1), (15, B e.2.2)], [(1000, ⟨6, true, [[sl (eL eExt) c, sl eS c2, I c3, I c4, I c5, sl eQuery c6]]⟩), (2000, ⟨1, false, rws eU8 e.1⟩)]⟩)
theorem s_l09Bytes_1_l {c c2 c3 c4 c5 c6 s e} (h : Loop (s_l09Bytes_1_s c c2 c3 c4 c5 c6) s = some e) : LoopX tab ow (.close [6006,6007]) b_s_l09Bytes_3 (s_l09Bytes_1_S c c2 c3 c4 c5 c6 s) = some (s_l09Bytes_1_E c c2 c3 c4 c5 c6 e) := by
  refine lrG (fun s o h => ?_) h
  obtain ⟨_, _⟩ := s
  simp only [s_l09Bytes_1_s] at h
  simp +decide only [s_l09Bytes_1_S, s_l09Bytes_1_E, b_s_l09Bytes_3, go_sem, reduceIte, Nat.reduceAdd]
  have d1 := @s_l02Bytes_c
  all_goals exact go
noncomputable def s_l09Bytes_2_s (c7 : List (List Ext)) (c8 : List (List UInt8)) (c9 : Int) (c10 : Int) (c11 : Int) (c12 : List Query) : (List UInt8) × Int → Option (((List UInt8) × Int) ⊕ (((List UInt8) × Int × Bool)))
  | (l2, t2) =>
    br (decide (t2 < ((c8.length : Nat) : Int))) (
      (atL c8 t2).bind fun x2 =>
      br (fits ((l2 ++ x2).length) 1) (
        some (.inl ((l2 ++ x2), (IntKind.wrap .i64 (t2 + (1 : Int)))))) (
        none)) (
      some (.inr (l2, t2, decide (t2 < ((c8.length : Nat) : Int)))))
@[reducible] def s_l09Bytes_2_S (c7 : List (List Ext)) (c8 : List (List UInt8)) (c9 : Int) (c10 : Int) (c11 : Int) (c12 : List Query) (s : (List UInt8) × Int) : St := ⟨[(1, .ptr 1000 0 0 1), (3, .sl 2000 0 s.1.length), (5, I s.2)], [(1000, ⟨6, true, [[sl (eL eExt) c7, sl eS c8, I c9, I c10, I c11, sl eQuery c12]]⟩), (2000, ⟨1, false, rws eU8 s.1⟩)]⟩
@[reducible] def s_l09Bytes_2_E (c7 : List (List Ext)) (c8 : List (List UInt8)) (c9 : Int) (c10 : Int) (c11 : Int) (c12 : List Query) : ((List UInt8) × Int × Bool) → AExit × St := fun e => (.exit 2, ⟨[(1, .ptr 1000 0 0 1), (3, .sl 2000 0 e.1.length), (5, I e.2.1), (30, B e.2.2)], [(1000, ⟨6, true, [[sl (eL eExt) c7, sl eS c8, I c9, I c10, I c11, sl eQuery c12]]⟩), (2000, ⟨1, false, rws eU8 e.1⟩)]⟩)
theorem s_l09Bytes_2_l {c7 c8 c9 c10 c11 c12 s e} (h : Loop (s_l09Bytes_2_s c7 c8 c9 c10 c11 c12) s = some e) : LoopX tab ow (.close [10006]) b_s_l09Bytes_7 (s_l09Bytes_2_S c7 c8 c9 c10 c11 c12 s) = some (s_l09Bytes_2_E c7 c8 c9 c10 c11 c12 e) := by
  refine lrG (fun s o h => ?_) h
  obtain ⟨_, _⟩ := s
  simp only [s_l09Bytes_2_s] at h
  simp +decide only [s_l09Bytes_2_S, s_l09Bytes_2_E, b_s_l09Bytes_7, go_sem, reduceIte, Nat.reduceAdd]
  all_goals exact go
noncomputable def s_l09Bytes_5_s (t6 : Int) (t7 : Int) (c27 : List (List Ext)) (c28 : List (List UInt8)) (c29 : Int) (c30 : Int) (c31 : Int) (c32 : List Query) (c33 : List Ext) (c34 : List (List (List UInt8))) : (List UInt8) × Int → Option (((List UInt8) × Int) ⊕ (((List UInt8) × Int × Bool)))
  | (l5, t8) =>
    (atL c34 t7).bind fun x4 =>
    br (decide (t8 < ((x4.length : Nat) : Int))) (
      (atL c34 t7).bind fun x5 =>
      (atL x5 t8).bind fun x6 =>
      br (fits ((l5 ++ x6).length) 1) (
        some (.inl ((l5 ++ x6), (IntKind.wrap .i64 (t8 + (1 : Int)))))) (
        none)) (
      some (.inr (l5, t8, decide (t8 < ((x4.length : Nat) : Int)))))
@[reducible] def s_l09Bytes_5_S (t6 : Int) (t7 : Int) (c27 : List (List Ext)) (c28 : List (List UInt8)) (c29 : Int) (c30 : Int) (c31 : Int) (c32 : List Query) (c33 : List Ext) (c34 : List (List (List UInt8))) (s : (List UInt8) × Int) : St := ⟨[(1, .ptr 1000 0 0 1), (3, .sl 2000 0 s.1.length), (6, I t6), (7, .ptr 15005 0 0 1), (8, I t7), (9, I s.2)], [(1000, ⟨6, true, [[sl (eL eExt) c27, sl eS c28, I c29, I c30, I c31, sl eQuery c32]]⟩), (2000, ⟨1, false, rws eU8 s.1⟩), (11003, dead), (15005, ⟨2, true, [[sl eExt c33, sl (eL eS) c34]]⟩)]⟩
@[reducible] def s_l09Bytes_5_E (t6 : Int) (t7 : Int) (c27 : List (List Ext)) (c28 : List (List UInt8)) (c29 : Int) (c30 : Int) (c31 : Int) (c32 : List Query) (c33 : List Ext) (c34 : List (List (List UInt8))) : ((List UInt8) × Int × Bool) → AExit × St := fun e => (.exit 8, ⟨[(1, .ptr 1000 0 0 1), (3, .sl 2000 0 e.1.length), (6, I t6), (7, .ptr 15005 0 0 1), (8, I t7), (9, I e.2.1), (81, B e.2.2)], [(1000, ⟨6, true, [[sl (eL eExt) c27, sl eS c28, I c29, I c30, I c31, sl eQuery c32]]⟩), (2000, ⟨1, false, rws eU8 e.1⟩), (11003, dead), (15005, ⟨2, true, [[sl eExt c33, sl (eL eS) c34]]⟩)]⟩)
theorem s_l09Bytes_5_l {t6 t7 c27 c28 c29 c30 c31 c32 c33 c34 s e} (h : Loop (s_l09Bytes_5_s t6 t7 c27 c28 c29 c30 c31 c32 c33 c34) s = some e) : LoopX tab ow (.close [23009]) b_s_l09Bytes_20 (s_l09Bytes_5_S t6 t7 c27 c28 c29 c30 c31 c32 c33 c34 s) = some (s_l09Bytes_5_E t6 t7 c27 c28 c29 c30 c31 c32 c33 c34 e) := by
  refine lrG (fun s o h => ?_) h
  obtain ⟨_, _⟩ := s
  simp only [s_l09Bytes_5_s] at h
  simp +decide only [s_l09Bytes_5_S, s_l09Bytes_5_E, b_s_l09Bytes_20, go_sem, reduceIte, Nat.reduceAdd]
  all_goals exact go
noncomputable def s_l09Bytes_4_s (t4 : Int) (c19 : List (List Ext)) (c20 : List (List UInt8)) (c21 : Int) (c22 : Int) (c23 : Int) (c24 : List Query) (c25 : List Ext) (c26 : List (List (List UInt8))) : (List UInt8) × Int → Option (((List UInt8) × Int) ⊕ (((List UInt8) × Int × Bool)))
  | (l4, t5) =>
    br (decide (t5 < ((c26.length : Nat) : Int))) (
      (Loop (s_l09Bytes_5_s t4 t5 c19 c20 c21 c22 c23 c24 c25 c26) (l4, (0 : Int))).bind fun e_3 =>
      some (.inl (e_3.1, (IntKind.wrap .i64 (t5 + (1 : Int)))))) (
      some (.inr (l4, t5, decide (t5 < ((c26.length : Nat) : Int)))))
@[reducible] def s_l09Bytes_4_S (t4 : Int) (c19 : List (List Ext)) (c20 : List (List UInt8)) (c21 : Int) (c22 : Int) (c23 : Int) (c24 : List Query) (c25 : List Ext) (c26 : List (List (List UInt8))) (s : (List UInt8) × Int) : St := ⟨[(1, .ptr 1000 0 0 1), (3, .sl 2000 0 s.1.length), (6, I t4), (7, .ptr 15005 0 0 1), (8, I s.2)], [(1000, ⟨6, true, [[sl (eL eExt) c19, sl eS c20, I c21, I c22, I c23, sl eQuery c24]]⟩), (2000, ⟨1, false, rws eU8 s.1⟩), (11003, dead), (15005, ⟨2, true, [[sl eExt c25, sl (eL eS) c26]]⟩)]⟩
@[reducible] def s_l09Bytes_4_E (t4 : Int) (c19 : List (List Ext)) (c20 : List (List UInt8)) (c21 : Int) (c22 : Int) (c23 : Int) (c24 : List Query) (c25 : List Ext) (c26 : List (List (List UInt8))) : ((List UInt8) × Int × Bool) → AExit × St := fun e => (.exit 6, ⟨[(1, .ptr 1000 0 0 1), (3, .sl 2000 0 e.1.length), (6, I t4), (7, .ptr 15005 0 0 1), (8, I e.2.1), (71, B e.2.2)], [(1000, ⟨6, true, [[sl (eL eExt) c19, sl eS c20, I c21, I c22, I c23, sl eQuery c24]]⟩), (2000, ⟨1, false, rws eU8 e.1⟩), (11003, dead), (15005, ⟨2, true, [[sl eExt c25, sl (eL eS) c26]]⟩)]⟩)
theorem s_l09Bytes_4_l {t4 c19 c20 c21 c22 c23 c24 c25 c26 s e} (h : Loop (s_l09Bytes_4_s t4 c19 c20 c21 c22 c23 c24 c25 c26) s = some e) : LoopX tab ow (.close [23009]) b_s_l09Bytes_17 (s_l09Bytes_4_S t4 c19 c20 c21 c22 c23 c24 c25 c26 s) = some (s_l09Bytes_4_E t4 c19 c20 c21 c22 c23 c24 c25 c26 e) := by
  refine lrG (fun s o h => ?_) h
  obtain ⟨_, _⟩ := s
  simp only [s_l09Bytes_4_s] at h
  simp +decide only [s_l09Bytes_4_S, s_l09Bytes_4_E, b_s_l09Bytes_17, go_sem, reduceIte, Nat.reduceAdd]
  have d1 := @s_l09Bytes_5_l
  all_goals exact go
noncomputable def s_l09Bytes_3_s (c13 : List (List Ext)) (c14 : List (List UInt8)) (c15 : Int) (c16 : Int) (c17 : Int) (c18 : List Query) : (List UInt8) × Int → Option (((List UInt8) × Int) ⊕ (((List UInt8) × Int × Bool)))
  | (l3, t3) =>
    br (decide (t3 < ((c18.length : Nat) : Int))) (
      (atL c18 t3).bind fun x3 =>
      (s_l02Bytes x3.Pairs).bind fun r_4 =>
      br (fits ((l3 ++ r_4).length) 1) (
        (Loop (s_l09Bytes_4_s t3 c13 c14 c15 c16 c17 c18 x3.Pairs x3.Paths) ((l3 ++ r_4), (0 : Int))).bind fun e_4 =>
        some (.inl (e_4.1, (IntKind.wrap .i64 (t3 + (1 : Int)))))) (
        none)) (
      some (.inr (l3, t3, decide (t3 < ((c18.length : Nat) : Int)))))
@[reducible] def s_l09Bytes_3_S (c13 : List (List Ext)) (c14 : List (List UInt8)) (c15 : Int) (c16 : Int) (c17 : Int) (c18 : List Query) (s : (List UInt8) × Int) : St := ⟨[(1, .ptr 1000 0 0 1), (3, .sl 2000 0 s.1.length), (6, I s.2)], [(1000, ⟨6, true, [[sl (eL eExt) c13, sl eS c14, I c15, I c16, I c17, sl eQuery c18]]⟩), (2000, ⟨1, false, rws eU8 s.1⟩), (11003, dead)]⟩
@[reducible] def s_l09Bytes_3_E (c13 : List (List Ext)) (c14 : List (List UInt8)) (c15 : Int) (c16 : Int) (c17 : Int) (c18 : List Query) : ((List UInt8) × Int × Bool) → AExit × St := fun e => (.exit 4, ⟨[(1, .ptr 1000 0 0 1), (3, .sl 2000 0 e.1.length), (6, I e.2.1), (54, B e.2.2)], [(1000, ⟨6, true, [[sl (eL eExt) c13, sl eS c14, I c15, I c16, I c17, sl eQuery c18]]⟩), (2000, ⟨1, false, rws eU8 e.1⟩), (11003, dead)]⟩)
theorem s_l09Bytes_3_l {c13 c14 c15 c16 c17 c18 s e} (h : Loop (s_l09Bytes_3_s c13 c14 c15 c16 c17 c18) s = some e) : LoopX tab ow (.close [15005,16003,16004,23009]) b_s_l09Bytes_12 (s_l09Bytes_3_S c13 c14 c15 c16 c17 c18 s) = some (s_l09Bytes_3_E c13 c14 c15 c16 c17 c18 e) := by
  refine lrG (fun s o h => ?_) h
  obtain ⟨_, _⟩ := s
  simp only [s_l09Bytes_3_s] at h
  simp +decide only [s_l09Bytes_3_S, s_l09Bytes_3_E, b_s_l09Bytes_12, go_sem, reduceIte, Nat.reduceAdd]
  have d1 := @s_l02Bytes_c
  have d2 := @s_l09Bytes_4_l
  all_goals exact go
noncomputable def s_l09Bytes (ListtoArray : Opening) : Option ((List UInt8)) :=
  (Loop (s_l09Bytes_1_s ListtoArray.Rounds ListtoArray.Roots ListtoArray.Last.A ListtoArray.Last.B ListtoArray.Nonce ListtoArray.Queries) (([] : List UInt8), (0 : Int))).bind fun e_ =>
  (Loop (s_l09Bytes_2_s ListtoArray.Rounds ListtoArray.Roots ListtoArray.Last.A ListtoArray.Last.B ListtoArray.Nonce ListtoArray.Queries) (e_.1, (0 : Int))).bind fun e_2 =>
  (s_l02Bytes ([ListtoArray.Last] : List Ext)).bind fun r_2 =>
  br (fits ((e_2.1 ++ r_2).length) 1) (
    (s_l02Number ListtoArray.Nonce (4 : Int)).bind fun r_3 =>
    br (fits (((e_2.1 ++ r_2) ++ r_3).length) 1) (
      (Loop (s_l09Bytes_3_s ListtoArray.Rounds ListtoArray.Roots ListtoArray.Last.A ListtoArray.Last.B ListtoArray.Nonce ListtoArray.Queries) (((e_2.1 ++ r_2) ++ r_3), (0 : Int))).bind fun e_5 =>
      some e_5.1) (
      none)) (
    none)
theorem s_l09Bytes_c {ListtoArray r} (h : s_l09Bytes ListtoArray = some r) : Call tab ow 120 [.agg [sl (eL eExt) ListtoArray.Rounds, sl eS ListtoArray.Roots, I ListtoArray.Last.A, I ListtoArray.Last.B, I ListtoArray.Nonce, sl eQuery ListtoArray.Queries]] [] = some (sl eU8 r, []) := by
  rw [Call_run (af := a_s_l09Bytes) rfl]
  unfold s_l09Bytes at h
  simp +decide only [a_s_l09Bytes, b_s_l09Bytes, go_sem, reduceIte, Nat.reduceAdd]
  have d1 := @s_l09Bytes_1_l
  have d2 := @s_l09Bytes_2_l
  have d3 := @s_l02Bytes_c
  have d4 := @s_l02Number_c
  have d5 := @s_l09Bytes_3_l
  all_goals exact go
end
section
theorem s_OpeningBytes_k0 : mkR 3000 [] = rws eU8 [] := rfl
attribute [local go_sem] s_OpeningBytes_k0
noncomputable def s_OpeningBytes (o_ : Opening) (vars : Int) (t : Setting) : Option ((List UInt8) × Int) :=
  (s_OpeningOK o_ vars t).bind fun r_ =>
  br (!r_) (
    some (([] : List UInt8), (1 : Int))) (
    (s_l09Bytes o_).bind fun r_2 =>
    some (r_2, (0 : Int)))
theorem s_OpeningBytes_c {o_ vars t r} (h : s_OpeningBytes o_ vars t = some r) : Call tab ow 37 [.agg [sl (eL eExt) o_.Rounds, sl eS o_.Roots, I o_.Last.A, I o_.Last.B, I o_.Nonce, sl eQuery o_.Queries], I vars, .agg [I t.Rate, I t.Queries, I t.Grind]] [] = some (.tup [sl eU8 r.1, I r.2], []) := by
  rw [Call_run (af := a_s_OpeningBytes) rfl]
  unfold s_OpeningBytes at h
  simp +decide only [a_s_OpeningBytes, b_s_OpeningBytes, go_sem, reduceIte, Nat.reduceAdd]
  have d1 := @s_OpeningOK_c
  have d2 := @s_l09Bytes_c
  all_goals exact go
end
noncomputable def i_openingCode (vars : Int) (t : Setting) : Option (Int) :=
  (i_SettingOK t).bind fun r_ =>
  br (!r_) (
    some (1 : Int)) (
    (i_in vars (1 : Int) (6 : Int)).bind fun r_2 =>
    br (!r_2) (
      some (4 : Int)) (
      some (0 : Int)))
theorem i_openingCode_c {vars t r} (h : i_openingCode vars t = some r) : Call tab ow 121 [I vars, .agg [I t.Rate, I t.Queries, I t.Grind]] [] = some (I r, []) := by
  rw [Call_run (af := a_i_openingCode) rfl]
  unfold i_openingCode at h
  simp +decide only [a_i_openingCode, b_i_openingCode, go_sem, reduceIte, Nat.reduceAdd]
  have d1 := @i_SettingOK_c
  have d2 := @i_in_c
  all_goals exact go
noncomputable def i_openingSize_1_s (vars2 : Int) (t2 : Int) (c : Int) (c2 : Int) (c3 : Int) : Int × Int → Option ((Int × Int) ⊕ ((Int × Int × Bool)))
  | (hashes, t3) =>
    br (decide (t3 < t2)) (
      some (.inl ((IntKind.wrap .i64 (hashes + (IntKind.wrap .i64 ((IntKind.wrap .i64 ((IntKind.wrap .i64 (vars2 + c)) - (1 : Int))) - t3)))), (IntKind.wrap .i64 (t3 + (1 : Int)))))) (
      some (.inr (hashes, t3, decide (t3 < t2))))
@[reducible] def i_openingSize_1_S (vars2 : Int) (t2 : Int) (c : Int) (c2 : Int) (c3 : Int) (s : Int × Int) : St := ⟨[(0, I vars2), (3, .ptr 1000 0 0 1), (5, I s.1), (7, I t2), (8, I s.2)], [(1000, ⟨3, true, [[I c, I c2, I c3]]⟩)]⟩
@[reducible] def i_openingSize_1_E (vars2 : Int) (t2 : Int) (c : Int) (c2 : Int) (c3 : Int) : (Int × Int × Bool) → AExit × St := fun e => (.exit 0, ⟨[(0, I vars2), (3, .ptr 1000 0 0 1), (5, I e.1), (7, I t2), (8, I e.2.1), (9, B e.2.2)], [(1000, ⟨3, true, [[I c, I c2, I c3]]⟩)]⟩)
theorem i_openingSize_1_l {vars2 t2 c c2 c3 s e} (h : Loop (i_openingSize_1_s vars2 t2 c c2 c3) s = some e) : LoopX tab ow (.close []) b_i_openingSize_3 (i_openingSize_1_S vars2 t2 c c2 c3 s) = some (i_openingSize_1_E vars2 t2 c c2 c3 e) := by
  refine lrG (fun s o h => ?_) h
  obtain ⟨_, _⟩ := s
  simp only [i_openingSize_1_s] at h
  simp +decide only [i_openingSize_1_S, i_openingSize_1_E, b_i_openingSize_3, go_sem, reduceIte, Nat.reduceAdd]
  all_goals exact go
noncomputable def i_openingSize (vars : Int) (t : Setting) : Option (Int) :=
  (Loop (i_openingSize_1_s vars vars t.Rate t.Queries t.Grind) ((0 : Int), (0 : Int))).bind fun e_ =>
  some (IntKind.wrap .i64 ((IntKind.wrap .i64 ((IntKind.wrap .i64 ((IntKind.wrap .i64 ((IntKind.wrap .i64 ((24 : Int) * vars)) + (IntKind.wrap .i64 ((32 : Int) * (IntKind.wrap .i64 (vars - (1 : Int))))))) + (8 : Int))) + (4 : Int))) + (IntKind.wrap .i64 (t.Queries * (IntKind.wrap .i64 ((IntKind.wrap .i64 ((16 : Int) * vars)) + (IntKind.wrap .i64 ((32 : Int) * e_.1))))))))
theorem i_openingSize_c {vars t r} (h : i_openingSize vars t = some r) : Call tab ow 122 [I vars, .agg [I t.Rate, I t.Queries, I t.Grind]] [] = some (I r, []) := by
  rw [Call_run (af := a_i_openingSize) rfl]
  unfold i_openingSize at h
  simp +decide only [a_i_openingSize, b_i_openingSize, go_sem, reduceIte, Nat.reduceAdd]
  have d1 := @i_openingSize_1_l
  all_goals exact go
noncomputable def i_OpeningSize (vars : Int) (t : Setting) : Option (Int × Int) :=
  (i_openingCode vars t).bind fun r_ =>
  br (r_ != (0 : Int)) (
    some ((0 : Int), r_)) (
    (i_openingSize vars t).bind fun r_2 =>
    some (r_2, (0 : Int)))
theorem i_OpeningSize_c {vars t r} (h : i_OpeningSize vars t = some r) : Call tab ow 38 [I vars, .agg [I t.Rate, I t.Queries, I t.Grind]] [] = some (.tup [I r.1, I r.2], []) := by
  rw [Call_run (af := a_i_OpeningSize) rfl]
  unfold i_OpeningSize at h
  simp +decide only [a_i_OpeningSize, b_i_OpeningSize, go_sem, reduceIte, Nat.reduceAdd]
  have d1 := @i_openingCode_c
  have d2 := @i_openingSize_c
  all_goals exact go
noncomputable def i_byteReader_take (n : Int) (m : byteReader) : Option ((List UInt8) × byteReader) :=
  (subL m.b (0 : Int) n).bind fun y =>
  (subL m.b n ((m.b.length : Nat) : Int)).bind fun y2 =>
  some (y, (byteReader.mk y2))
theorem i_byteReader_take_c {n m r} (h : i_byteReader_take n m = some r) : Call tab ow 215 [.ptr 0 0 0 1, I n] [⟨1, true, [[sl eU8 m.b]]⟩] = some (sl eU8 r.1, [⟨1, true, [[sl eU8 r.2.b]]⟩]) := by
  rw [Call_run (af := a_i_byteReader_take) rfl]
  unfold i_byteReader_take at h
  simp +decide only [a_i_byteReader_take, b_i_byteReader_take, go_sem, reduceIte, Nat.reduceAdd]
  all_goals exact go
noncomputable def i_number_1_s (t : List UInt8) (t2 : Int) : Int × Int → Option ((Int × Int) ⊕ ((Int × Int × Bool)))
  | (n, t3) =>
    br (decide (t3 < t2)) (
      (atL t t3).bind fun x =>
      some (.inl ((or64 .i64 (shl64 .i64 n (8 : Int)) (IntKind.wrap .i64 (x.toNat : Int))), (IntKind.wrap .i64 (t3 + (1 : Int)))))) (
      some (.inr (n, t3, decide (t3 < t2))))
@[reducible] def i_number_1_S (t : List UInt8) (t2 : Int) (s : Int × Int) : St := ⟨[(3, I s.1), (6, sl eU8 t), (7, I t2), (8, I s.2)], []⟩
@[reducible] def i_number_1_E (t : List UInt8) (t2 : Int) : (Int × Int × Bool) → AExit × St := fun e => (.exit 0, ⟨[(3, I e.1), (6, sl eU8 t), (7, I t2), (8, I e.2.1), (9, B e.2.2)], []⟩)
theorem i_number_1_l {t t2 s e} (h : Loop (i_number_1_s t t2) s = some e) : LoopX tab ow (.close []) b_i_number_3 (i_number_1_S t t2 s) = some (i_number_1_E t t2 e) := by
  refine lrG (fun s o h => ?_) h
  obtain ⟨_, _⟩ := s
  simp only [i_number_1_s] at h
  simp +decide only [i_number_1_S, i_number_1_E, b_i_number_3, go_sem, reduceIte, Nat.reduceAdd]
  all_goals exact go
noncomputable def i_number (b : (List UInt8)) : Option (Int) :=
  (Loop (i_number_1_s b ((b.length : Nat) : Int)) ((0 : Int), (0 : Int))).bind fun e_ =>
  some e_.1
theorem i_number_c {b r} (h : i_number b = some r) : Call tab ow 214 [sl eU8 b] [] = some (I r, []) := by
  rw [Call_run (af := a_i_number) rfl]
  unfold i_number at h
  simp +decide only [a_i_number, b_i_number, go_sem, reduceIte, Nat.reduceAdd]
  have d1 := @i_number_1_l
  all_goals exact go
section
theorem i_readExts_k0 : mkR 2000 [] = rws eExt [] := rfl
attribute [local go_sem] i_readExts_k0
theorem i_readExts_k1 : mkR 6015 [] = rws eExt [] := rfl
attribute [local go_sem] i_readExts_k1
noncomputable def i_readExts_1_s (b2 : List UInt8) : (List Ext) × Int → Option (((List Ext) × Int) ⊕ (((List Ext) × Int × Bool)))
  | (l, i) =>
    br (decide ((IntKind.wrap .i64 (i + (8 : Int))) ≤ ((b2.length : Nat) : Int))) (
      (subL b2 i (IntKind.wrap .i64 (i + (4 : Int)))).bind fun y =>
      (i_number y).bind fun r_ =>
      (subL b2 (IntKind.wrap .i64 (i + (4 : Int))) (IntKind.wrap .i64 (i + (8 : Int)))).bind fun y2 =>
      (i_number y2).bind fun r_2 =>
      br (fits ((l ++ ([(Ext.mk r_ r_2)] : List Ext)).length) 16) (
        some (.inl ((l ++ ([(Ext.mk r_ r_2)] : List Ext)), (IntKind.wrap .i64 (i + (8 : Int)))))) (
        none)) (
      some (.inr (l, i, decide ((IntKind.wrap .i64 (i + (8 : Int))) ≤ ((b2.length : Nat) : Int)))))
@[reducible] def i_readExts_1_S (b2 : List UInt8) (s : (List Ext) × Int) : St := ⟨[(0, sl eU8 b2), (4, .sl 2000 0 s.1.length), (5, I s.2)], [(2000, ⟨2, false, rws eExt s.1⟩)]⟩
@[reducible] def i_readExts_1_E (b2 : List UInt8) : ((List Ext) × Int × Bool) → AExit × St := fun e => (.exit 0, ⟨[(0, sl eU8 b2), (4, .sl 2000 0 e.1.length), (5, I e.2.1), (11, B e.2.2)], [(2000, ⟨2, false, rws eExt e.1⟩)]⟩)
theorem i_readExts_1_l {b2 s e} (h : Loop (i_readExts_1_s b2) s = some e) : LoopX tab ow (.close [6006,6013,6015,6016]) b_i_readExts_3 (i_readExts_1_S b2 s) = some (i_readExts_1_E b2 e) := by
  refine lrG (fun s o h => ?_) h
  obtain ⟨_, _⟩ := s
  simp only [i_readExts_1_s] at h
  simp +decide only [i_readExts_1_S, i_readExts_1_E, b_i_readExts_3, go_sem, reduceIte, Nat.reduceAdd]
  have d1 := @i_number_c
  all_goals exact go
noncomputable def i_readExts (b : (List UInt8)) : Option ((List Ext) × Bool) :=
  (Loop (i_readExts_1_s b) (([] : List Ext), (0 : Int))).bind fun e_ =>
  br ((((b.length : Nat) : Int).tmod (8 : Int)) == (0 : Int)) (
    (i_are_i_Ext_ExtOK e_.1).bind fun r_3 =>
    some (e_.1, r_3)) (
    some (e_.1, false))
theorem i_readExts_c {b r} (h : i_readExts b = some r) : Call tab ow 277 [sl eU8 b] [] = some (.tup [sl eExt r.1, B r.2], []) := by
  rw [Call_run (af := a_i_readExts) rfl]
  unfold i_readExts at h
  simp +decide only [a_i_readExts, b_i_readExts, go_sem, reduceIte, Nat.reduceAdd]
  have d1 := @i_readExts_1_l
  have d2 := @i_are_i_Ext_ExtOK_c
  all_goals exact go
end
noncomputable def i_byteReader_exts (n : Int) (m : byteReader) : Option ((List Ext) × byteReader) :=
  (i_byteReader_take (IntKind.wrap .i64 ((8 : Int) * n)) m).bind fun r_ =>
  (i_readExts r_.1).bind fun r_2 =>
  some (r_2.1, r_.2)
theorem i_byteReader_exts_c {n m r} (h : i_byteReader_exts n m = some r) : Call tab ow 213 [.ptr 0 0 0 1, I n] [⟨1, true, [[sl eU8 m.b]]⟩] = some (sl eExt r.1, [⟨1, true, [[sl eU8 r.2.b]]⟩]) := by
  rw [Call_run (af := a_i_byteReader_exts) rfl]
  unfold i_byteReader_exts at h
  simp +decide only [a_i_byteReader_exts, b_i_byteReader_exts, go_sem, reduceIte, Nat.reduceAdd]
  have d1 := @i_byteReader_take_c
  have d2 := @i_readExts_c
  all_goals exact go
section
theorem i_byteReader_rounds_k0 : mkR 2000 [] = rws (eL eExt) [] := rfl
attribute [local go_sem] i_byteReader_rounds_k0
theorem i_byteReader_rounds_k1 : mkR 5004 [] = rws (eL eExt) [] := rfl
attribute [local go_sem] i_byteReader_rounds_k1
noncomputable def i_byteReader_rounds_1_s (size2 : Int) (t : Int) : (List (List Ext)) × Int × (List UInt8) → Option (((List (List Ext)) × Int × (List UInt8)) ⊕ (((List (List Ext)) × Int × Bool × (List UInt8))))
  | (l, t2, c) =>
    br (decide (t2 < t)) (
      (i_byteReader_exts size2 (byteReader.mk c)).bind fun r_ =>
      br (fits ((l ++ ([r_.1] : List (List Ext))).length) 24) (
        some (.inl ((l ++ ([r_.1] : List (List Ext))), (IntKind.wrap .i64 (t2 + (1 : Int))), r_.2.b))) (
        none)) (
      some (.inr (l, t2, decide (t2 < t), c)))
@[reducible] def i_byteReader_rounds_1_S (size2 : Int) (t : Int) (s : (List (List Ext)) × Int × (List UInt8)) : St := ⟨[(0, .ptr 0 0 0 1), (2, I size2), (7, .sl 2000 0 s.1.length), (9, I t), (10, I s.2.1)], [(0, ⟨1, true, [[sl eU8 s.2.2]]⟩), (2000, ⟨1, false, rws (eL eExt) s.1⟩)]⟩
@[reducible] def i_byteReader_rounds_1_E (size2 : Int) (t : Int) : ((List (List Ext)) × Int × Bool × (List UInt8)) → AExit × St := fun e => (.exit 0, ⟨[(0, .ptr 0 0 0 1), (2, I size2), (7, .sl 2000 0 e.1.length), (9, I t), (10, I e.2.1), (11, B e.2.2.1)], [(0, ⟨1, true, [[sl eU8 e.2.2.2]]⟩), (2000, ⟨1, false, rws (eL eExt) e.1⟩)]⟩)
theorem i_byteReader_rounds_1_l {size2 t s e} (h : Loop (i_byteReader_rounds_1_s size2 t) s = some e) : LoopX tab ow (.close [5003,5004,5005]) b_i_byteReader_rounds_3 (i_byteReader_rounds_1_S size2 t s) = some (i_byteReader_rounds_1_E size2 t e) := by
  refine lrG (fun s o h => ?_) h
  obtain ⟨_, _, _⟩ := s
  simp only [i_byteReader_rounds_1_s] at h
  simp +decide only [i_byteReader_rounds_1_S, i_byteReader_rounds_1_E, b_i_byteReader_rounds_3, go_sem, reduceIte, Nat.reduceAdd]
  have d1 := @i_byteReader_exts_c
  all_goals exact go
noncomputable def i_byteReader_rounds (many : Int) (size : Int) (m : byteReader) : Option ((List (List Ext)) × byteReader) :=
  (Loop (i_byteReader_rounds_1_s size many) (([] : List (List Ext)), (0 : Int), m.b)).bind fun e_ =>
  some (e_.1, (byteReader.mk e_.2.2.2))
theorem i_byteReader_rounds_c {many size m r} (h : i_byteReader_rounds many size m = some r) : Call tab ow 211 [.ptr 0 0 0 1, I many, I size] [⟨1, true, [[sl eU8 m.b]]⟩] = some (sl (eL eExt) r.1, [⟨1, true, [[sl eU8 r.2.b]]⟩]) := by
  rw [Call_run (af := a_i_byteReader_rounds) rfl]
  unfold i_byteReader_rounds at h
  simp +decide only [a_i_byteReader_rounds, b_i_byteReader_rounds, go_sem, reduceIte, Nat.reduceAdd]
  have d1 := @i_byteReader_rounds_1_l
  all_goals exact go
end
noncomputable def i_byteReader_hash (m : byteReader) : Option ((List UInt8) × byteReader) :=
  (i_byteReader_take (32 : Int) m).bind fun r_ =>
  some (r_.1, r_.2)
theorem i_byteReader_hash_c {m r} (h : i_byteReader_hash m = some r) : Call tab ow 212 [.ptr 0 0 0 1] [⟨1, true, [[sl eU8 m.b]]⟩] = some (S r.1, [⟨1, true, [[sl eU8 r.2.b]]⟩]) := by
  rw [Call_run (af := a_i_byteReader_hash) rfl]
  unfold i_byteReader_hash at h
  simp +decide only [a_i_byteReader_hash, b_i_byteReader_hash, go_sem, reduceIte, Nat.reduceAdd]
  have d1 := @i_byteReader_take_c
  all_goals exact go
end Go.AI.Fn
