/- Walks through the program, with open values. -/
import Derived.Test.YtmhgflhndmcdmaaGreatStr
import Derived.Test.YtmhgflhndmcdmaaGreatTb2
set_option linter.unusedVariables false
set_option linter.unusedSimpArgs false
set_option maxRecDepth 100000
set_option maxHeartbeats 1000000
namespace Go.AI.Fn
noncomputable def s_l00Source (code : (List UInt8)) : Option (l00Src) :=
  some (l00Src.mk code (0 : Int) (((code.length : Nat) : Int).tmod (1000 : Int)))
theorem s_l00Source_c {code r} (h : s_l00Source code = some r) : Call tab ow 59 [sl eU8 code] [] = some (.ptr 0 0 0 1, [⟨3, true, [[sl eU8 r.code, I r.at_, I r.seed]]⟩]) := by
  rw [Call_run (af := a_s_l00Source) rfl]
  unfold s_l00Source at h
  simp +decide only [a_s_l00Source, b_s_l00Source, go_sem, reduceIte, Nat.reduceAdd]
  all_goals exact go
noncomputable def s_l00Src_byte (m : l00Src) : Option (Int × l00Src) :=
  br (decide ((IntKind.wrap .i64 (m.at_ + (1 : Int))) ≤ ((m.code.length : Nat) : Int))) (
    (atL m.code (IntKind.wrap .i64 ((IntKind.wrap .i64 (m.at_ + (1 : Int))) - (1 : Int)))).bind fun x =>
    (atL m.code (IntKind.wrap .i64 ((IntKind.wrap .i64 (m.at_ + (1 : Int))) - (1 : Int)))).bind fun x2 =>
    some ((IntKind.wrap .i64 (x2.toNat : Int)), (l00Src.mk m.code (IntKind.wrap .i64 (m.at_ + (1 : Int))) ((IntKind.wrap .i64 ((IntKind.wrap .i64 ((IntKind.wrap .i64 (m.seed * (31 : Int))) + (IntKind.wrap .i64 (x.toNat : Int)))) + (7 : Int))).tmod (2147483648 : Int))))) (
    br (decide ((IntKind.wrap .i64 (m.at_ + (1 : Int))) > (3000 : Int))) (
      some ((0 : Int), (l00Src.mk m.code (IntKind.wrap .i64 (m.at_ + (1 : Int))) m.seed))) (
      some (((IntKind.wrap .i64 (((IntKind.wrap .i64 ((IntKind.wrap .i64 (m.seed * (1103515245 : Int))) + (12345 : Int))).tmod (2147483648 : Int)).tdiv (65536 : Int))).tmod (256 : Int)), (l00Src.mk m.code (IntKind.wrap .i64 (m.at_ + (1 : Int))) ((IntKind.wrap .i64 ((IntKind.wrap .i64 (m.seed * (1103515245 : Int))) + (12345 : Int))).tmod (2147483648 : Int))))))
theorem s_l00Src_byte_c {m r} (h : s_l00Src_byte m = some r) : Call tab ow 239 [.ptr 0 0 0 1] [⟨3, true, [[sl eU8 m.code, I m.at_, I m.seed]]⟩] = some (I r.1, [⟨3, true, [[sl eU8 r.2.code, I r.2.at_, I r.2.seed]]⟩]) := by
  rw [Call_run (af := a_s_l00Src_byte) rfl]
  unfold s_l00Src_byte at h
  simp +decide only [a_s_l00Src_byte, b_s_l00Src_byte, go_sem, reduceIte, Nat.reduceAdd]
  all_goals exact go
noncomputable def s_l00Src_next (n : Int) (m : l00Src) : Option (Int × l00Src) :=
  br (decide (n ≤ (1 : Int))) (
    some ((0 : Int), m)) (
    br (decide (n ≤ (256 : Int))) (
      (s_l00Src_byte m).bind fun r_ =>
      br (decide (n ≠ 0)) (
        some ((r_.1.tmod n), r_.2)) (
        none)) (
      (s_l00Src_byte m).bind fun r_2 =>
      (s_l00Src_byte r_2.2).bind fun r_3 =>
      (s_l00Src_byte r_3.2).bind fun r_4 =>
      br (decide (n ≠ 0)) (
        some (((IntKind.wrap .i64 ((IntKind.wrap .i64 ((IntKind.wrap .i64 (r_2.1 * (65536 : Int))) + (IntKind.wrap .i64 (r_3.1 * (256 : Int))))) + r_4.1)).tmod n), r_4.2)) (
        none)))
theorem s_l00Src_next_c {n m r} (h : s_l00Src_next n m = some r) : Call tab ow 149 [.ptr 0 0 0 1, I n] [⟨3, true, [[sl eU8 m.code, I m.at_, I m.seed]]⟩] = some (I r.1, [⟨3, true, [[sl eU8 r.2.code, I r.2.at_, I r.2.seed]]⟩]) := by
  rw [Call_run (af := a_s_l00Src_next) rfl]
  unfold s_l00Src_next at h
  simp +decide only [a_s_l00Src_next, b_s_l00Src_next, go_sem, reduceIte, Nat.reduceAdd]
  have d1 := @s_l00Src_byte_c
  all_goals exact go
noncomputable def s_l00Src_chance (n : Int) (m : l00Src) : Option (Bool × l00Src) :=
  (s_l00Src_next n m).bind fun r_ =>
  some ((r_.1 == (IntKind.wrap .i64 (n - (1 : Int)))), r_.2)
theorem s_l00Src_chance_c {n m r} (h : s_l00Src_chance n m = some r) : Call tab ow 154 [.ptr 0 0 0 1, I n] [⟨3, true, [[sl eU8 m.code, I m.at_, I m.seed]]⟩] = some (B r.1, [⟨3, true, [[sl eU8 r.2.code, I r.2.at_, I r.2.seed]]⟩]) := by
  rw [Call_run (af := a_s_l00Src_chance) rfl]
  unfold s_l00Src_chance at h
  simp +decide only [a_s_l00Src_chance, b_s_l00Src_chance, go_sem, reduceIte, Nat.reduceAdd]
  have d1 := @s_l00Src_next_c
  all_goals exact go
noncomputable def s_l00Src_field_1_s : Int × Int × (List UInt8) × Int × Int → Option ((Int × Int × (List UInt8) × Int × Int) ⊕ ((Int × Int × Bool × (List UInt8) × Int × Int)))
  | (n, i, c, c2, c3) =>
    br (decide (i < (5 : Int))) (
      (s_l00Src_next (256 : Int) (l00Src.mk c c2 c3)).bind fun r_4 =>
      some (.inl (((IntKind.wrap .i64 ((IntKind.wrap .i64 (n * (256 : Int))) + r_4.1)).tmod (2130706433 : Int)), (IntKind.wrap .i64 (i + (1 : Int))), r_4.2.code, r_4.2.at_, r_4.2.seed))) (
      some (.inr (n, i, decide (i < (5 : Int)), c, c2, c3)))
@[reducible] def s_l00Src_field_1_S (s : Int × Int × (List UInt8) × Int × Int) : St := ⟨[(0, .ptr 0 0 0 1), (3, I s.1), (4, I s.2.1)], [(0, ⟨3, true, [[sl eU8 s.2.2.1, I s.2.2.2.1, I s.2.2.2.2]]⟩)]⟩
@[reducible] def s_l00Src_field_1_E : (Int × Int × Bool × (List UInt8) × Int × Int) → AExit × St := fun e => (.exit 1, ⟨[(0, .ptr 0 0 0 1), (3, I e.1), (4, I e.2.1), (17, B e.2.2.1)], [(0, ⟨3, true, [[sl eU8 e.2.2.2.1, I e.2.2.2.2.1, I e.2.2.2.2.2]]⟩)]⟩)
theorem s_l00Src_field_1_l { s e} (h : Loop (s_l00Src_field_1_s) s = some e) : LoopX tab ow (.close [11003]) b_s_l00Src_field_8 (s_l00Src_field_1_S s) = some (s_l00Src_field_1_E e) := by
  refine lrG (fun s o h => ?_) h
  obtain ⟨_, _, _, _, _⟩ := s
  simp only [s_l00Src_field_1_s] at h
  simp +decide only [s_l00Src_field_1_S, s_l00Src_field_1_E, b_s_l00Src_field_8, go_sem, reduceIte, Nat.reduceAdd]
  have d1 := @s_l00Src_next_c
  all_goals exact go
noncomputable def s_l00Src_field (m : l00Src) : Option (Int × l00Src) :=
  (s_l00Src_next (5 : Int) m).bind fun r_ =>
  br (r_.1 == (0 : Int)) (
    (s_l00Src_next (4 : Int) r_.2).bind fun r_2 =>
    some (r_2.1, r_2.2)) (
    br (r_.1 == (1 : Int)) (
      (s_l00Src_next (3 : Int) r_.2).bind fun r_3 =>
      some ((IntKind.wrap .i64 ((2130706432 : Int) - r_3.1)), r_3.2)) (
      (Loop (s_l00Src_field_1_s) ((0 : Int), (0 : Int), r_.2.code, r_.2.at_, r_.2.seed)).bind fun e_ =>
      some (e_.1, (l00Src.mk e_.2.2.2.1 e_.2.2.2.2.1 e_.2.2.2.2.2))))
theorem s_l00Src_field_c {m r} (h : s_l00Src_field m = some r) : Call tab ow 151 [.ptr 0 0 0 1] [⟨3, true, [[sl eU8 m.code, I m.at_, I m.seed]]⟩] = some (I r.1, [⟨3, true, [[sl eU8 r.2.code, I r.2.at_, I r.2.seed]]⟩]) := by
  rw [Call_run (af := a_s_l00Src_field) rfl]
  unfold s_l00Src_field at h
  simp +decide only [a_s_l00Src_field, b_s_l00Src_field, go_sem, reduceIte, Nat.reduceAdd]
  have d1 := @s_l00Src_next_c
  have d2 := @s_l00Src_field_1_l
  all_goals exact go
noncomputable def s_l00Src_pick (list : (List (List UInt8))) (m : l00Src) : Option ((List UInt8) × l00Src) :=
  br (((list.length : Nat) : Int) == (0 : Int)) (
    some ((([] : List UInt8)), m)) (
    (s_l00Src_next ((list.length : Nat) : Int) m).bind fun r_ =>
    (atL list r_.1).bind fun x =>
    some (x, r_.2))
theorem s_l00Src_pick_c {list m r} (h : s_l00Src_pick list m = some r) : Call tab ow 153 [.ptr 0 0 0 1, sl eS list] [⟨3, true, [[sl eU8 m.code, I m.at_, I m.seed]]⟩] = some (S r.1, [⟨3, true, [[sl eU8 r.2.code, I r.2.at_, I r.2.seed]]⟩]) := by
  rw [Call_run (af := a_s_l00Src_pick) rfl]
  unfold s_l00Src_pick at h
  simp +decide only [a_s_l00Src_pick, b_s_l00Src_pick, go_sem, reduceIte, Nat.reduceAdd]
  have d1 := @s_l00Src_next_c
  all_goals exact go
noncomputable def s_l03Lanes_1_s (m : List Int) (t2 : List UInt8) : (List Int) × Int → Option (((List Int) × Int) ⊕ (((List Int) × Int × Bool)))
  | (m2, i) =>
    br (decide (i < ((t2.length : Nat) : Int))) (
      br (decide (0 ≤ (IntKind.wrap .i64 (i.tdiv (8 : Int)))) && decide ((IntKind.wrap .i64 (i.tdiv (8 : Int))).toNat < 25)) (
        (m2[(IntKind.wrap .i64 (i.tdiv (8 : Int))).toNat]?).bind fun x =>
        (atL t2 i).bind fun c =>
        br (decide (0 ≤ (IntKind.wrap .u64 (IntKind.wrap .i64 ((8 : Int) * (i.tmod (8 : Int))))))) (
          br (decide (0 ≤ (IntKind.wrap .i64 (i.tdiv (8 : Int)))) && decide ((IntKind.wrap .i64 (i.tdiv (8 : Int))).toNat < 25)) (
            br (decide ((IntKind.wrap .i64 (i.tdiv (8 : Int))).toNat < m2.length)) (
              some (.inl ((m2.set ((IntKind.wrap .i64 (i.tdiv (8 : Int))).toNat) (or64 .u64 x (shl64 .u64 (IntKind.wrap .u64 (c.toNat : Int)) (IntKind.wrap .u64 (IntKind.wrap .i64 ((8 : Int) * (i.tmod (8 : Int)))))))), (IntKind.wrap .i64 (i + (1 : Int)))))) (
              none)) (
            none)) (
          none)) (
        none)) (
      some (.inr (m2, i, decide (i < ((t2.length : Nat) : Int)))))
@[reducible] def s_l03Lanes_1_S (m : List Int) (t2 : List UInt8) (s : (List Int) × Int) : St := ⟨[(0, S t2), (2, .ptr 1000 0 0 1), (3, .ptr 2001 0 0 1), (4, I s.2)], [(1000, ⟨25, true, [ar .u64 m]⟩), (2001, ⟨25, true, [ar .u64 s.1]⟩)]⟩
@[reducible] def s_l03Lanes_1_E (m : List Int) (t2 : List UInt8) : ((List Int) × Int × Bool) → AExit × St := fun e => (.exit 0, ⟨[(0, S t2), (2, .ptr 1000 0 0 1), (3, .ptr 2001 0 0 1), (4, I e.2.1), (9, B e.2.2)], [(1000, ⟨25, true, [ar .u64 m]⟩), (2001, ⟨25, true, [ar .u64 e.1]⟩)]⟩)
theorem s_l03Lanes_1_l {m t2 s e} (h : Loop (s_l03Lanes_1_s m t2) s = some e) : LoopX tab ow (.close []) b_s_l03Lanes_3 (s_l03Lanes_1_S m t2 s) = some (s_l03Lanes_1_E m t2 e) := by
  refine lrG (fun s o h => ?_) h
  obtain ⟨_, _⟩ := s
  simp only [s_l03Lanes_1_s] at h
  simp +decide only [s_l03Lanes_1_S, s_l03Lanes_1_E, b_s_l03Lanes_3, go_sem, reduceIte, Nat.reduceAdd]
  all_goals exact go
noncomputable def s_l03Lanes (t : (List UInt8)) : Option ((List Int)) :=
  (Loop (s_l03Lanes_1_s (nZ 25) t) ((nZ 25), (0 : Int))).bind fun e_ =>
  br (decide (e_.1.length = 25)) (
    br (decide (e_.1.length = 25)) (
      br (decide (e_.1.length = 25)) (
        some e_.1) (
        none)) (
      none)) (
    none)
theorem s_l03Lanes_c {t r} (h : s_l03Lanes t = some r) : Call tab ow 286 [S t] [] = some (.agg (ar .u64 r), []) := by
  rw [Call_run (af := a_s_l03Lanes) rfl]
  unfold s_l03Lanes at h
  simp +decide only [a_s_l03Lanes, b_s_l03Lanes, go_sem, reduceIte, Nat.reduceAdd]
  have d1 := @s_l03Lanes_1_l
  all_goals exact go
noncomputable def s_l03Rounds : Option ((List Int)) :=
  some ([1, 32898, 9223372036854808714, 9223372039002292224, 32907, 2147483649, 9223372039002292353, 9223372036854808585, 138, 136, 2147516425, 2147483658, 2147516555, 9223372036854775947, 9223372036854808713, 9223372036854808579, 9223372036854808578, 9223372036854775936, 32778, 9223372039002259466, 9223372039002292353, 9223372036854808704, 2147483649, 9223372039002292232] : List Int)
theorem s_l03Rounds_c {r} (h : s_l03Rounds = some r) : Call tab ow 303 [] [] = some (.agg (ar .u64 r), []) := by
  rw [Call_run (af := a_s_l03Rounds) rfl]
  unfold s_l03Rounds at h
  simp +decide only [a_s_l03Rounds, b_s_l03Rounds, go_sem, reduceIte, Nat.reduceAdd]
  all_goals exact go
noncomputable def s_l03Shifts : Option ((List Int)) :=
  some ([0, 1, 62, 28, 27, 36, 44, 6, 55, 20, 3, 10, 43, 25, 39, 41, 45, 15, 21, 8, 18, 2, 61, 56, 14] : List Int)
theorem s_l03Shifts_c {r} (h : s_l03Shifts = some r) : Call tab ow 304 [] [] = some (.agg (ar .u64 r), []) := by
  rw [Call_run (af := a_s_l03Shifts) rfl]
  unfold s_l03Shifts at h
  simp +decide only [a_s_l03Shifts, b_s_l03Shifts, go_sem, reduceIte, Nat.reduceAdd]
  all_goals exact go
noncomputable def s_l03Turn (x : Int) (n : Int) : Option (Int) :=
  br (n == (0 : Int)) (
    some x) (
    br (decide (0 ≤ n)) (
      br (decide (0 ≤ (IntKind.wrap .u64 ((64 : Int) - n)))) (
        some (or64 .u64 (shl64 .u64 x n) (shr64 .u64 x (IntKind.wrap .u64 ((64 : Int) - n))))) (
        none)) (
      none))
theorem s_l03Turn_c {x n r} (h : s_l03Turn x n = some r) : Call tab ow 305 [.lit (.int .u64 x), .lit (.int .u64 n)] [] = some (.lit (.int .u64 r), []) := by
  rw [Call_run (af := a_s_l03Turn) rfl]
  unfold s_l03Turn at h
  simp +decide only [a_s_l03Turn, b_s_l03Turn, go_sem, reduceIte, Nat.reduceAdd]
  all_goals exact go
noncomputable def s_l03Permute_2_s (m5 : List Int) (m6 : List Int) (m7 : List Int) (m8 : List Int) (t2 : Int) : (List Int) × Int → Option (((List Int) × Int) ⊕ (((List Int) × Int × Bool)))
  | (m9, t3) =>
    br (decide (t3 < (5 : Int))) (
      br (decide (0 ≤ t3) && decide (t3.toNat < 25)) (
        (m5[t3.toNat]?).bind fun x =>
        br (decide (0 ≤ (IntKind.wrap .i64 (t3 + (5 : Int)))) && decide ((IntKind.wrap .i64 (t3 + (5 : Int))).toNat < 25)) (
          (m5[(IntKind.wrap .i64 (t3 + (5 : Int))).toNat]?).bind fun x2 =>
          br (decide (0 ≤ (IntKind.wrap .i64 (t3 + (10 : Int)))) && decide ((IntKind.wrap .i64 (t3 + (10 : Int))).toNat < 25)) (
            (m5[(IntKind.wrap .i64 (t3 + (10 : Int))).toNat]?).bind fun x3 =>
            br (decide (0 ≤ (IntKind.wrap .i64 (t3 + (15 : Int)))) && decide ((IntKind.wrap .i64 (t3 + (15 : Int))).toNat < 25)) (
              (m5[(IntKind.wrap .i64 (t3 + (15 : Int))).toNat]?).bind fun x4 =>
              br (decide (0 ≤ (IntKind.wrap .i64 (t3 + (20 : Int)))) && decide ((IntKind.wrap .i64 (t3 + (20 : Int))).toNat < 25)) (
                (m5[(IntKind.wrap .i64 (t3 + (20 : Int))).toNat]?).bind fun x5 =>
                br (decide (0 ≤ t3) && decide (t3.toNat < 5)) (
                  br (decide (t3.toNat < m9.length)) (
                    some (.inl ((m9.set t3.toNat (xor64 .u64 (xor64 .u64 (xor64 .u64 (xor64 .u64 x x2) x3) x4) x5)), (IntKind.wrap .i64 (t3 + (1 : Int)))))) (
                    none)) (
                  none)) (
                none)) (
              none)) (
            none)) (
          none)) (
        none)) (
      some (.inr (m9, t3, decide (t3 < (5 : Int)))))
@[reducible] def s_l03Permute_2_S (m5 : List Int) (m6 : List Int) (m7 : List Int) (m8 : List Int) (t2 : Int) (s : (List Int) × Int) : St := ⟨[(1, .ptr 1000 0 0 1), (2, .ptr 1001 0 0 1), (3, .ptr 2001 0 0 1), (4, .ptr 3001 0 0 1), (5, I t2), (6, .ptr 7001 0 0 1), (7, I s.2)], [(1000, ⟨25, true, [ar .u64 m5]⟩), (1001, ⟨25, true, [ar .u64 m6]⟩), (2001, ⟨24, true, [ar .u64 m7]⟩), (3001, ⟨25, true, [ar .u64 m8]⟩), (7001, ⟨5, true, [ar .u64 s.1]⟩)]⟩
@[reducible] def s_l03Permute_2_E (m5 : List Int) (m6 : List Int) (m7 : List Int) (m8 : List Int) (t2 : Int) : ((List Int) × Int × Bool) → AExit × St := fun e => (.exit 2, ⟨[(1, .ptr 1000 0 0 1), (2, .ptr 1001 0 0 1), (3, .ptr 2001 0 0 1), (4, .ptr 3001 0 0 1), (5, I t2), (6, .ptr 7001 0 0 1), (7, I e.2.1), (22, B e.2.2)], [(1000, ⟨25, true, [ar .u64 m5]⟩), (1001, ⟨25, true, [ar .u64 m6]⟩), (2001, ⟨24, true, [ar .u64 m7]⟩), (3001, ⟨25, true, [ar .u64 m8]⟩), (7001, ⟨5, true, [ar .u64 e.1]⟩)]⟩)
theorem s_l03Permute_2_l {m5 m6 m7 m8 t2 s e} (h : Loop (s_l03Permute_2_s m5 m6 m7 m8 t2) s = some e) : LoopX tab ow (.close []) b_s_l03Permute_8 (s_l03Permute_2_S m5 m6 m7 m8 t2 s) = some (s_l03Permute_2_E m5 m6 m7 m8 t2 e) := by
  refine lrG (fun s o h => ?_) h
  obtain ⟨_, _⟩ := s
  simp only [s_l03Permute_2_s] at h
  simp +decide only [s_l03Permute_2_S, s_l03Permute_2_E, b_s_l03Permute_8, go_sem, reduceIte, Nat.reduceAdd]
  all_goals exact go
noncomputable def s_l03Permute_3_s (m11 : List Int) (m12 : List Int) (m13 : List Int) (m14 : List Int) (t4 : Int) : (List Int) × Int → Option (((List Int) × Int) ⊕ (((List Int) × Int × Bool)))
  | (m10, t5) =>
    br (decide (t5 < (25 : Int))) (
      br (decide (0 ≤ t5) && decide (t5.toNat < 25)) (
        (m10[t5.toNat]?).bind fun x6 =>
        br (decide (0 ≤ ((IntKind.wrap .i64 (t5 + (4 : Int))).tmod (5 : Int))) && decide (((IntKind.wrap .i64 (t5 + (4 : Int))).tmod (5 : Int)).toNat < 5)) (
          (m14[((IntKind.wrap .i64 (t5 + (4 : Int))).tmod (5 : Int)).toNat]?).bind fun x7 =>
          br (decide (0 ≤ ((IntKind.wrap .i64 (t5 + (1 : Int))).tmod (5 : Int))) && decide (((IntKind.wrap .i64 (t5 + (1 : Int))).tmod (5 : Int)).toNat < 5)) (
            (m14[((IntKind.wrap .i64 (t5 + (1 : Int))).tmod (5 : Int)).toNat]?).bind fun x8 =>
            (s_l03Turn x8 (1 : Int)).bind fun r_3 =>
            br (decide (0 ≤ t5) && decide (t5.toNat < 25)) (
              br (decide (t5.toNat < m10.length)) (
                some (.inl ((m10.set t5.toNat (xor64 .u64 x6 (xor64 .u64 x7 r_3))), (IntKind.wrap .i64 (t5 + (1 : Int)))))) (
                none)) (
              none)) (
            none)) (
          none)) (
        none)) (
      some (.inr (m10, t5, decide (t5 < (25 : Int)))))
@[reducible] def s_l03Permute_3_S (m11 : List Int) (m12 : List Int) (m13 : List Int) (m14 : List Int) (t4 : Int) (s : (List Int) × Int) : St := ⟨[(1, .ptr 1000 0 0 1), (2, .ptr 1001 0 0 1), (3, .ptr 2001 0 0 1), (4, .ptr 3001 0 0 1), (5, I t4), (6, .ptr 7001 0 0 1), (8, I s.2)], [(1000, ⟨25, true, [ar .u64 s.1]⟩), (1001, ⟨25, true, [ar .u64 m11]⟩), (2001, ⟨24, true, [ar .u64 m12]⟩), (3001, ⟨25, true, [ar .u64 m13]⟩), (7001, ⟨5, true, [ar .u64 m14]⟩)]⟩
@[reducible] def s_l03Permute_3_E (m11 : List Int) (m12 : List Int) (m13 : List Int) (m14 : List Int) (t4 : Int) : ((List Int) × Int × Bool) → AExit × St := fun e => (.exit 4, ⟨[(1, .ptr 1000 0 0 1), (2, .ptr 1001 0 0 1), (3, .ptr 2001 0 0 1), (4, .ptr 3001 0 0 1), (5, I t4), (6, .ptr 7001 0 0 1), (8, I e.2.1), (51, B e.2.2)], [(1000, ⟨25, true, [ar .u64 e.1]⟩), (1001, ⟨25, true, [ar .u64 m11]⟩), (2001, ⟨24, true, [ar .u64 m12]⟩), (3001, ⟨25, true, [ar .u64 m13]⟩), (7001, ⟨5, true, [ar .u64 m14]⟩)]⟩)
theorem s_l03Permute_3_l {m11 m12 m13 m14 t4 s e} (h : Loop (s_l03Permute_3_s m11 m12 m13 m14 t4) s = some e) : LoopX tab ow (.close [15013]) b_s_l03Permute_12 (s_l03Permute_3_S m11 m12 m13 m14 t4 s) = some (s_l03Permute_3_E m11 m12 m13 m14 t4 e) := by
  refine lrG (fun s o h => ?_) h
  obtain ⟨_, _⟩ := s
  simp only [s_l03Permute_3_s] at h
  simp +decide only [s_l03Permute_3_S, s_l03Permute_3_E, b_s_l03Permute_12, go_sem, reduceIte, Nat.reduceAdd]
  have d1 := @s_l03Turn_c
  all_goals exact go
noncomputable def s_l03Permute_5_s (m21 : List Int) (m22 : List Int) (m23 : List Int) (m24 : List Int) (m25 : List Int) (t8 : Int) (t9 : Int) : (List Int) × Int → Option (((List Int) × Int) ⊕ (((List Int) × Int × Bool)))
  | (m26, t10) =>
    br (decide (t10 < (5 : Int))) (
      br (decide (0 ≤ (IntKind.wrap .i64 (t9 + (IntKind.wrap .i64 ((5 : Int) * t10))))) && decide ((IntKind.wrap .i64 (t9 + (IntKind.wrap .i64 ((5 : Int) * t10)))).toNat < 25)) (
        (m21[(IntKind.wrap .i64 (t9 + (IntKind.wrap .i64 ((5 : Int) * t10)))).toNat]?).bind fun x9 =>
        br (decide (0 ≤ (IntKind.wrap .i64 (t9 + (IntKind.wrap .i64 ((5 : Int) * t10))))) && decide ((IntKind.wrap .i64 (t9 + (IntKind.wrap .i64 ((5 : Int) * t10)))).toNat < 25)) (
          (m24[(IntKind.wrap .i64 (t9 + (IntKind.wrap .i64 ((5 : Int) * t10)))).toNat]?).bind fun x10 =>
          (s_l03Turn x9 x10).bind fun r_4 =>
          br (decide (0 ≤ (IntKind.wrap .i64 (t10 + (IntKind.wrap .i64 ((5 : Int) * ((IntKind.wrap .i64 ((IntKind.wrap .i64 ((2 : Int) * t9)) + (IntKind.wrap .i64 ((3 : Int) * t10)))).tmod (5 : Int))))))) && decide ((IntKind.wrap .i64 (t10 + (IntKind.wrap .i64 ((5 : Int) * ((IntKind.wrap .i64 ((IntKind.wrap .i64 ((2 : Int) * t9)) + (IntKind.wrap .i64 ((3 : Int) * t10)))).tmod (5 : Int)))))).toNat < 25)) (
            br (decide ((IntKind.wrap .i64 (t10 + (IntKind.wrap .i64 ((5 : Int) * ((IntKind.wrap .i64 ((IntKind.wrap .i64 ((2 : Int) * t9)) + (IntKind.wrap .i64 ((3 : Int) * t10)))).tmod (5 : Int)))))).toNat < m26.length)) (
              some (.inl ((m26.set ((IntKind.wrap .i64 (t10 + (IntKind.wrap .i64 ((5 : Int) * ((IntKind.wrap .i64 ((IntKind.wrap .i64 ((2 : Int) * t9)) + (IntKind.wrap .i64 ((3 : Int) * t10)))).tmod (5 : Int)))))).toNat) r_4), (IntKind.wrap .i64 (t10 + (1 : Int)))))) (
              none)) (
            none)) (
          none)) (
        none)) (
      some (.inr (m26, t10, decide (t10 < (5 : Int)))))
@[reducible] def s_l03Permute_5_S (m21 : List Int) (m22 : List Int) (m23 : List Int) (m24 : List Int) (m25 : List Int) (t8 : Int) (t9 : Int) (s : (List Int) × Int) : St := ⟨[(1, .ptr 1000 0 0 1), (2, .ptr 1001 0 0 1), (3, .ptr 2001 0 0 1), (4, .ptr 3001 0 0 1), (5, I t8), (9, .ptr 16001 0 0 1), (10, I t9), (11, I s.2)], [(1000, ⟨25, true, [ar .u64 m21]⟩), (1001, ⟨25, true, [ar .u64 m22]⟩), (2001, ⟨24, true, [ar .u64 m23]⟩), (3001, ⟨25, true, [ar .u64 m24]⟩), (7001, ⟨5, true, [ar .u64 m25]⟩), (16001, ⟨25, true, [ar .u64 s.1]⟩)]⟩
@[reducible] def s_l03Permute_5_E (m21 : List Int) (m22 : List Int) (m23 : List Int) (m24 : List Int) (m25 : List Int) (t8 : Int) (t9 : Int) : ((List Int) × Int × Bool) → AExit × St := fun e => (.exit 8, ⟨[(1, .ptr 1000 0 0 1), (2, .ptr 1001 0 0 1), (3, .ptr 2001 0 0 1), (4, .ptr 3001 0 0 1), (5, I t8), (9, .ptr 16001 0 0 1), (10, I t9), (11, I e.2.1), (77, B e.2.2)], [(1000, ⟨25, true, [ar .u64 m21]⟩), (1001, ⟨25, true, [ar .u64 m22]⟩), (2001, ⟨24, true, [ar .u64 m23]⟩), (3001, ⟨25, true, [ar .u64 m24]⟩), (7001, ⟨5, true, [ar .u64 m25]⟩), (16001, ⟨25, true, [ar .u64 e.1]⟩)]⟩)
theorem s_l03Permute_5_l {m21 m22 m23 m24 m25 t8 t9 s e} (h : Loop (s_l03Permute_5_s m21 m22 m23 m24 m25 t8 t9) s = some e) : LoopX tab ow (.close [23021]) b_s_l03Permute_20 (s_l03Permute_5_S m21 m22 m23 m24 m25 t8 t9 s) = some (s_l03Permute_5_E m21 m22 m23 m24 m25 t8 t9 e) := by
  refine lrG (fun s o h => ?_) h
  obtain ⟨_, _⟩ := s
  simp only [s_l03Permute_5_s] at h
  simp +decide only [s_l03Permute_5_S, s_l03Permute_5_E, b_s_l03Permute_20, go_sem, reduceIte, Nat.reduceAdd]
  have d1 := @s_l03Turn_c
  all_goals exact go
noncomputable def s_l03Permute_4_s (m15 : List Int) (m16 : List Int) (m17 : List Int) (m18 : List Int) (m19 : List Int) (t6 : Int) : (List Int) × Int → Option (((List Int) × Int) ⊕ (((List Int) × Int × Bool)))
  | (m20, t7) =>
    br (decide (t7 < (5 : Int))) (
      (Loop (s_l03Permute_5_s m15 m16 m17 m18 m19 t6 t7) (m20, (0 : Int))).bind fun e_3 =>
      some (.inl (e_3.1, (IntKind.wrap .i64 (t7 + (1 : Int)))))) (
      some (.inr (m20, t7, decide (t7 < (5 : Int)))))
@[reducible] def s_l03Permute_4_S (m15 : List Int) (m16 : List Int) (m17 : List Int) (m18 : List Int) (m19 : List Int) (t6 : Int) (s : (List Int) × Int) : St := ⟨[(1, .ptr 1000 0 0 1), (2, .ptr 1001 0 0 1), (3, .ptr 2001 0 0 1), (4, .ptr 3001 0 0 1), (5, I t6), (9, .ptr 16001 0 0 1), (10, I s.2)], [(1000, ⟨25, true, [ar .u64 m15]⟩), (1001, ⟨25, true, [ar .u64 m16]⟩), (2001, ⟨24, true, [ar .u64 m17]⟩), (3001, ⟨25, true, [ar .u64 m18]⟩), (7001, ⟨5, true, [ar .u64 m19]⟩), (16001, ⟨25, true, [ar .u64 s.1]⟩)]⟩
@[reducible] def s_l03Permute_4_E (m15 : List Int) (m16 : List Int) (m17 : List Int) (m18 : List Int) (m19 : List Int) (t6 : Int) : ((List Int) × Int × Bool) → AExit × St := fun e => (.exit 6, ⟨[(1, .ptr 1000 0 0 1), (2, .ptr 1001 0 0 1), (3, .ptr 2001 0 0 1), (4, .ptr 3001 0 0 1), (5, I t6), (9, .ptr 16001 0 0 1), (10, I e.2.1), (73, B e.2.2)], [(1000, ⟨25, true, [ar .u64 m15]⟩), (1001, ⟨25, true, [ar .u64 m16]⟩), (2001, ⟨24, true, [ar .u64 m17]⟩), (3001, ⟨25, true, [ar .u64 m18]⟩), (7001, ⟨5, true, [ar .u64 m19]⟩), (16001, ⟨25, true, [ar .u64 e.1]⟩)]⟩)
theorem s_l03Permute_4_l {m15 m16 m17 m18 m19 t6 s e} (h : Loop (s_l03Permute_4_s m15 m16 m17 m18 m19 t6) s = some e) : LoopX tab ow (.close [23021]) b_s_l03Permute_17 (s_l03Permute_4_S m15 m16 m17 m18 m19 t6 s) = some (s_l03Permute_4_E m15 m16 m17 m18 m19 t6 e) := by
  refine lrG (fun s o h => ?_) h
  obtain ⟨_, _⟩ := s
  simp only [s_l03Permute_4_s] at h
  simp +decide only [s_l03Permute_4_S, s_l03Permute_4_E, b_s_l03Permute_17, go_sem, reduceIte, Nat.reduceAdd]
  have d1 := @s_l03Permute_5_l
  all_goals exact go
noncomputable def s_l03Permute_7_s (m34 : List Int) (m35 : List Int) (m36 : List Int) (m37 : List Int) (m38 : List Int) (t13 : Int) (t14 : Int) : (List Int) × Int → Option (((List Int) × Int) ⊕ (((List Int) × Int × Bool)))
  | (m33, t15) =>
    br (decide (t15 < (5 : Int))) (
      br (decide (0 ≤ (IntKind.wrap .i64 (t14 + (IntKind.wrap .i64 ((5 : Int) * t15))))) && decide ((IntKind.wrap .i64 (t14 + (IntKind.wrap .i64 ((5 : Int) * t15)))).toNat < 25)) (
        (m38[(IntKind.wrap .i64 (t14 + (IntKind.wrap .i64 ((5 : Int) * t15)))).toNat]?).bind fun x11 =>
        br (decide (0 ≤ (IntKind.wrap .i64 (((IntKind.wrap .i64 (t14 + (1 : Int))).tmod (5 : Int)) + (IntKind.wrap .i64 ((5 : Int) * t15))))) && decide ((IntKind.wrap .i64 (((IntKind.wrap .i64 (t14 + (1 : Int))).tmod (5 : Int)) + (IntKind.wrap .i64 ((5 : Int) * t15)))).toNat < 25)) (
          (m38[(IntKind.wrap .i64 (((IntKind.wrap .i64 (t14 + (1 : Int))).tmod (5 : Int)) + (IntKind.wrap .i64 ((5 : Int) * t15)))).toNat]?).bind fun x12 =>
          br (decide (0 ≤ (IntKind.wrap .i64 (((IntKind.wrap .i64 (t14 + (2 : Int))).tmod (5 : Int)) + (IntKind.wrap .i64 ((5 : Int) * t15))))) && decide ((IntKind.wrap .i64 (((IntKind.wrap .i64 (t14 + (2 : Int))).tmod (5 : Int)) + (IntKind.wrap .i64 ((5 : Int) * t15)))).toNat < 25)) (
            (m38[(IntKind.wrap .i64 (((IntKind.wrap .i64 (t14 + (2 : Int))).tmod (5 : Int)) + (IntKind.wrap .i64 ((5 : Int) * t15)))).toNat]?).bind fun x13 =>
            br (decide (0 ≤ (IntKind.wrap .i64 (t14 + (IntKind.wrap .i64 ((5 : Int) * t15))))) && decide ((IntKind.wrap .i64 (t14 + (IntKind.wrap .i64 ((5 : Int) * t15)))).toNat < 25)) (
              br (decide ((IntKind.wrap .i64 (t14 + (IntKind.wrap .i64 ((5 : Int) * t15)))).toNat < m33.length)) (
                some (.inl ((m33.set ((IntKind.wrap .i64 (t14 + (IntKind.wrap .i64 ((5 : Int) * t15)))).toNat) (xor64 .u64 x11 (and64 .u64 (not64 .u64 x12) x13))), (IntKind.wrap .i64 (t15 + (1 : Int)))))) (
                none)) (
              none)) (
            none)) (
          none)) (
        none)) (
      some (.inr (m33, t15, decide (t15 < (5 : Int)))))
@[reducible] def s_l03Permute_7_S (m34 : List Int) (m35 : List Int) (m36 : List Int) (m37 : List Int) (m38 : List Int) (t13 : Int) (t14 : Int) (s : (List Int) × Int) : St := ⟨[(1, .ptr 1000 0 0 1), (2, .ptr 1001 0 0 1), (3, .ptr 2001 0 0 1), (4, .ptr 3001 0 0 1), (5, I t13), (9, .ptr 16001 0 0 1), (12, I t14), (13, I s.2)], [(1000, ⟨25, true, [ar .u64 s.1]⟩), (1001, ⟨25, true, [ar .u64 m34]⟩), (2001, ⟨24, true, [ar .u64 m35]⟩), (3001, ⟨25, true, [ar .u64 m36]⟩), (7001, ⟨5, true, [ar .u64 m37]⟩), (16001, ⟨25, true, [ar .u64 m38]⟩)]⟩
@[reducible] def s_l03Permute_7_E (m34 : List Int) (m35 : List Int) (m36 : List Int) (m37 : List Int) (m38 : List Int) (t13 : Int) (t14 : Int) : ((List Int) × Int × Bool) → AExit × St := fun e => (.exit 12, ⟨[(1, .ptr 1000 0 0 1), (2, .ptr 1001 0 0 1), (3, .ptr 2001 0 0 1), (4, .ptr 3001 0 0 1), (5, I t13), (9, .ptr 16001 0 0 1), (12, I t14), (13, I e.2.1), (108, B e.2.2)], [(1000, ⟨25, true, [ar .u64 e.1]⟩), (1001, ⟨25, true, [ar .u64 m34]⟩), (2001, ⟨24, true, [ar .u64 m35]⟩), (3001, ⟨25, true, [ar .u64 m36]⟩), (7001, ⟨5, true, [ar .u64 m37]⟩), (16001, ⟨25, true, [ar .u64 m38]⟩)]⟩)
theorem s_l03Permute_7_l {m34 m35 m36 m37 m38 t13 t14 s e} (h : Loop (s_l03Permute_7_s m34 m35 m36 m37 m38 t13 t14) s = some e) : LoopX tab ow (.close []) b_s_l03Permute_27 (s_l03Permute_7_S m34 m35 m36 m37 m38 t13 t14 s) = some (s_l03Permute_7_E m34 m35 m36 m37 m38 t13 t14 e) := by
  refine lrG (fun s o h => ?_) h
  obtain ⟨_, _⟩ := s
  simp only [s_l03Permute_7_s] at h
  simp +decide only [s_l03Permute_7_S, s_l03Permute_7_E, b_s_l03Permute_27, go_sem, reduceIte, Nat.reduceAdd]
  all_goals exact go
noncomputable def s_l03Permute_6_s (m28 : List Int) (m29 : List Int) (m30 : List Int) (m31 : List Int) (m32 : List Int) (t11 : Int) : (List Int) × Int → Option (((List Int) × Int) ⊕ (((List Int) × Int × Bool)))
  | (m27, t12) =>
    br (decide (t12 < (5 : Int))) (
      (Loop (s_l03Permute_7_s m28 m29 m30 m31 m32 t11 t12) (m27, (0 : Int))).bind fun e_5 =>
      some (.inl (e_5.1, (IntKind.wrap .i64 (t12 + (1 : Int)))))) (
      some (.inr (m27, t12, decide (t12 < (5 : Int)))))
@[reducible] def s_l03Permute_6_S (m28 : List Int) (m29 : List Int) (m30 : List Int) (m31 : List Int) (m32 : List Int) (t11 : Int) (s : (List Int) × Int) : St := ⟨[(1, .ptr 1000 0 0 1), (2, .ptr 1001 0 0 1), (3, .ptr 2001 0 0 1), (4, .ptr 3001 0 0 1), (5, I t11), (9, .ptr 16001 0 0 1), (12, I s.2)], [(1000, ⟨25, true, [ar .u64 s.1]⟩), (1001, ⟨25, true, [ar .u64 m28]⟩), (2001, ⟨24, true, [ar .u64 m29]⟩), (3001, ⟨25, true, [ar .u64 m30]⟩), (7001, ⟨5, true, [ar .u64 m31]⟩), (16001, ⟨25, true, [ar .u64 m32]⟩)]⟩
@[reducible] def s_l03Permute_6_E (m28 : List Int) (m29 : List Int) (m30 : List Int) (m31 : List Int) (m32 : List Int) (t11 : Int) : ((List Int) × Int × Bool) → AExit × St := fun e => (.exit 10, ⟨[(1, .ptr 1000 0 0 1), (2, .ptr 1001 0 0 1), (3, .ptr 2001 0 0 1), (4, .ptr 3001 0 0 1), (5, I t11), (9, .ptr 16001 0 0 1), (12, I e.2.1), (104, B e.2.2)], [(1000, ⟨25, true, [ar .u64 e.1]⟩), (1001, ⟨25, true, [ar .u64 m28]⟩), (2001, ⟨24, true, [ar .u64 m29]⟩), (3001, ⟨25, true, [ar .u64 m30]⟩), (7001, ⟨5, true, [ar .u64 m31]⟩), (16001, ⟨25, true, [ar .u64 m32]⟩)]⟩)
theorem s_l03Permute_6_l {m28 m29 m30 m31 m32 t11 s e} (h : Loop (s_l03Permute_6_s m28 m29 m30 m31 m32 t11) s = some e) : LoopX tab ow (.close []) b_s_l03Permute_24 (s_l03Permute_6_S m28 m29 m30 m31 m32 t11 s) = some (s_l03Permute_6_E m28 m29 m30 m31 m32 t11 e) := by
  refine lrG (fun s o h => ?_) h
  obtain ⟨_, _⟩ := s
  simp only [s_l03Permute_6_s] at h
  simp +decide only [s_l03Permute_6_S, s_l03Permute_6_E, b_s_l03Permute_24, go_sem, reduceIte, Nat.reduceAdd]
  have d1 := @s_l03Permute_7_l
  all_goals exact go
noncomputable def s_l03Permute_1_s (m2 : List Int) (m3 : List Int) (m4 : List Int) : (List Int) × Int → Option (((List Int) × Int) ⊕ (((List Int) × Int × Bool)))
  | (m, t) =>
    br (decide (t < (24 : Int))) (
      (Loop (s_l03Permute_2_s m m2 m3 m4 t) ((nZ 5), (0 : Int))).bind fun e_ =>
      (Loop (s_l03Permute_3_s m2 m3 m4 e_.1 t) (m, (0 : Int))).bind fun e_2 =>
      (Loop (s_l03Permute_4_s e_2.1 m2 m3 m4 e_.1 t) ((nZ 25), (0 : Int))).bind fun e_4 =>
      (Loop (s_l03Permute_6_s m2 m3 m4 e_.1 e_4.1 t) (e_2.1, (0 : Int))).bind fun e_6 =>
      (e_6.1[0]?).bind fun x14 =>
      br (decide (0 ≤ t) && decide (t.toNat < 24)) (
        (m3[t.toNat]?).bind fun x15 =>
        br (decide (0 < e_6.1.length)) (
          some (.inl ((e_6.1.set 0 (xor64 .u64 x14 x15)), (IntKind.wrap .i64 (t + (1 : Int)))))) (
          none)) (
        none)) (
      some (.inr (m, t, decide (t < (24 : Int)))))
@[reducible] def s_l03Permute_1_S (m2 : List Int) (m3 : List Int) (m4 : List Int) (s : (List Int) × Int) : St := ⟨[(1, .ptr 1000 0 0 1), (2, .ptr 1001 0 0 1), (3, .ptr 2001 0 0 1), (4, .ptr 3001 0 0 1), (5, I s.2)], [(1000, ⟨25, true, [ar .u64 s.1]⟩), (1001, ⟨25, true, [ar .u64 m2]⟩), (2001, ⟨24, true, [ar .u64 m3]⟩), (3001, ⟨25, true, [ar .u64 m4]⟩)]⟩
@[reducible] def s_l03Permute_1_E (m2 : List Int) (m3 : List Int) (m4 : List Int) : ((List Int) × Int × Bool) → AExit × St := fun e => (.exit 0, ⟨[(1, .ptr 1000 0 0 1), (2, .ptr 1001 0 0 1), (3, .ptr 2001 0 0 1), (4, .ptr 3001 0 0 1), (5, I e.2.1), (17, B e.2.2)], [(1000, ⟨25, true, [ar .u64 e.1]⟩), (1001, ⟨25, true, [ar .u64 m2]⟩), (2001, ⟨24, true, [ar .u64 m3]⟩), (3001, ⟨25, true, [ar .u64 m4]⟩)]⟩)
theorem s_l03Permute_1_l {m2 m3 m4 s e} (h : Loop (s_l03Permute_1_s m2 m3 m4) s = some e) : LoopX tab ow (.close [7001,15013,16001,23021]) b_s_l03Permute_4 (s_l03Permute_1_S m2 m3 m4 s) = some (s_l03Permute_1_E m2 m3 m4 e) := by
  refine lrG (fun s o h => ?_) h
  obtain ⟨_, _⟩ := s
  simp only [s_l03Permute_1_s] at h
  simp +decide only [s_l03Permute_1_S, s_l03Permute_1_E, b_s_l03Permute_4, go_sem, reduceIte, Nat.reduceAdd]
  have d1 := @s_l03Permute_2_l
  have d2 := @s_l03Permute_3_l
  have d3 := @s_l03Permute_4_l
  have d4 := @s_l03Permute_6_l
  all_goals exact go
noncomputable def s_l03Permute (ListtoArray : (List Int)) : Option ((List Int)) :=
  br (decide (ListtoArray.length = 25)) (
    (s_l03Rounds).bind fun r_ =>
    br (decide (r_.length = 24)) (
      (s_l03Shifts).bind fun r_2 =>
      br (decide (r_2.length = 25)) (
        (Loop (s_l03Permute_1_s (nZ 25) r_ r_2) (ListtoArray, (0 : Int))).bind fun e_7 =>
        br (decide (e_7.1.length = 25)) (
          br (decide (e_7.1.length = 25)) (
            br (decide (e_7.1.length = 25)) (
              some e_7.1) (
              none)) (
            none)) (
          none)) (
        none)) (
      none)) (
    none)
theorem s_l03Permute_c {ListtoArray r} (h : s_l03Permute ListtoArray = some r) : Call tab ow 287 [.agg (ar .u64 ListtoArray)] [] = some (.agg (ar .u64 r), []) := by
  rw [Call_run (af := a_s_l03Permute) rfl]
  unfold s_l03Permute at h
  simp +decide only [a_s_l03Permute, b_s_l03Permute, go_sem, reduceIte, Nat.reduceAdd]
  have d1 := @s_l03Rounds_c
  have d2 := @s_l03Shifts_c
  have d3 := @s_l03Permute_1_l
  all_goals exact go
section
theorem s_l03Text_k0 : mkR 2000 [] = rws eU8 [] := rfl
attribute [local go_sem] s_l03Text_k0
theorem s_l03Text_k1 : mkR 6011 [] = rws eU8 [] := rfl
attribute [local go_sem] s_l03Text_k1
noncomputable def s_l03Text_1_s (m : List Int) (n2 : Int) : (List UInt8) × Int → Option (((List UInt8) × Int) ⊕ (((List UInt8) × Int × Bool)))
  | (l, i) =>
    br (decide (i < n2)) (
      br (decide (0 ≤ (IntKind.wrap .i64 (i.tdiv (8 : Int)))) && decide ((IntKind.wrap .i64 (i.tdiv (8 : Int))).toNat < 25)) (
        (m[(IntKind.wrap .i64 (i.tdiv (8 : Int))).toNat]?).bind fun x =>
        br (decide (0 ≤ (IntKind.wrap .u64 (IntKind.wrap .i64 ((8 : Int) * (i.tmod (8 : Int))))))) (
          br (fits ((l ++ ([(UInt8.ofInt (shr64 .u64 x (IntKind.wrap .u64 (IntKind.wrap .i64 ((8 : Int) * (i.tmod (8 : Int)))))))] : List UInt8)).length) 1) (
            some (.inl ((l ++ ([(UInt8.ofInt (shr64 .u64 x (IntKind.wrap .u64 (IntKind.wrap .i64 ((8 : Int) * (i.tmod (8 : Int)))))))] : List UInt8)), (IntKind.wrap .i64 (i + (1 : Int)))))) (
            none)) (
          none)) (
        none)) (
      some (.inr (l, i, decide (i < n2))))
@[reducible] def s_l03Text_1_S (m : List Int) (n2 : Int) (s : (List UInt8) × Int) : St := ⟨[(1, I n2), (2, .ptr 1000 0 0 1), (5, .sl 2000 0 s.1.length), (6, I s.2)], [(1000, ⟨25, true, [ar .u64 m]⟩), (2000, ⟨1, false, rws eU8 s.1⟩)]⟩
@[reducible] def s_l03Text_1_E (m : List Int) (n2 : Int) : ((List UInt8) × Int × Bool) → AExit × St := fun e => (.exit 0, ⟨[(1, I n2), (2, .ptr 1000 0 0 1), (5, .sl 2000 0 e.1.length), (6, I e.2.1), (10, B e.2.2)], [(1000, ⟨25, true, [ar .u64 m]⟩), (2000, ⟨1, false, rws eU8 e.1⟩)]⟩)
theorem s_l03Text_1_l {m n2 s e} (h : Loop (s_l03Text_1_s m n2) s = some e) : LoopX tab ow (.close [6011,6012]) b_s_l03Text_3 (s_l03Text_1_S m n2 s) = some (s_l03Text_1_E m n2 e) := by
  refine lrG (fun s o h => ?_) h
  obtain ⟨_, _⟩ := s
  simp only [s_l03Text_1_s] at h
  simp +decide only [s_l03Text_1_S, s_l03Text_1_E, b_s_l03Text_3, go_sem, reduceIte, Nat.reduceAdd]
  all_goals exact go
noncomputable def s_l03Text (a : (List Int)) (n : Int) : Option ((List UInt8)) :=
  br (decide (a.length = 25)) (
    (Loop (s_l03Text_1_s a n) (([] : List UInt8), (0 : Int))).bind fun e_ =>
    some e_.1) (
    none)
theorem s_l03Text_c {a n r} (h : s_l03Text a n = some r) : Call tab ow 288 [.agg (ar .u64 a), I n] [] = some (S r, []) := by
  rw [Call_run (af := a_s_l03Text) rfl]
  unfold s_l03Text at h
  simp +decide only [a_s_l03Text, b_s_l03Text, go_sem, reduceIte, Nat.reduceAdd]
  have d1 := @s_l03Text_1_l
  all_goals exact go
end
section
theorem s_l03Hash_k0 : mkR 2002 [] = rws eU8 [] := rfl
attribute [local go_sem] s_l03Hash_k0
theorem s_l03Hash_k1 : mkR 4001 [] = rws eU8 [] := rfl
attribute [local go_sem] s_l03Hash_k1
noncomputable def s_l03Hash_1_s (l2 : List UInt8) : (List UInt8) → Option (((List UInt8)) ⊕ (((List UInt8) × Bool)))
  | l =>
    br ((((l.length : Nat) : Int).tmod (136 : Int)) != (0 : Int)) (
      br (fits ((l ++ ([(0 : UInt8)] : List UInt8)).length) 1) (
        some (.inl (l ++ ([(0 : UInt8)] : List UInt8)))) (
        none)) (
      some (.inr (l, ((((l.length : Nat) : Int).tmod (136 : Int)) != (0 : Int)))))
@[reducible] def s_l03Hash_1_S (l2 : List UInt8) (s : (List UInt8)) : St := ⟨[(3, .sl 2001 0 s.length)], [(2001, ⟨1, false, rws eU8 s⟩), (2002, ⟨1, false, rws eU8 l2⟩)]⟩
@[reducible] def s_l03Hash_1_E (l2 : List UInt8) : ((List UInt8) × Bool) → AExit × St := fun e => (.exit 0, ⟨[(3, .sl 2001 0 e.1.length), (15, B e.2)], [(2001, ⟨1, false, rws eU8 e.1⟩), (2002, ⟨1, false, rws eU8 l2⟩)]⟩)
theorem s_l03Hash_1_l {l2 s e} (h : Loop (s_l03Hash_1_s l2) s = some e) : LoopX tab ow (.close [4001,4002]) b_s_l03Hash_2 (s_l03Hash_1_S l2 s) = some (s_l03Hash_1_E l2 e) := by
  refine lrG (fun s o h => ?_) h
  simp only [s_l03Hash_1_s] at h
  simp +decide only [s_l03Hash_1_S, s_l03Hash_1_E, b_s_l03Hash_2, go_sem, reduceIte, Nat.reduceAdd]
  all_goals exact go
noncomputable def s_l03Hash_3_s (l4 : List UInt8) (m4 : List Int) (m5 : List UInt8) (at_2 : Int) : (List Int) × Int → Option (((List Int) × Int) ⊕ (((List Int) × Int × Bool)))
  | (m3, i) =>
    br (decide (i < (25 : Int))) (
      br (decide (0 ≤ i) && decide (i.toNat < 25)) (
        (m3[i.toNat]?).bind fun x3 =>
        br (decide (0 ≤ i) && decide (i.toNat < 25)) (
          (m4[i.toNat]?).bind fun x4 =>
          br (decide (0 ≤ i) && decide (i.toNat < 25)) (
            br (decide (i.toNat < m3.length)) (
              some (.inl ((m3.set i.toNat (xor64 .u64 x3 x4)), (IntKind.wrap .i64 (i + (1 : Int)))))) (
              none)) (
            none)) (
          none)) (
        none)) (
      some (.inr (m3, i, decide (i < (25 : Int)))))
@[reducible] def s_l03Hash_3_S (l4 : List UInt8) (m4 : List Int) (m5 : List UInt8) (at_2 : Int) (s : (List Int) × Int) : St := ⟨[(3, sl eU8 m5), (4, .ptr 6001 0 0 1), (5, I at_2), (6, .ptr 10007 0 0 1), (7, I s.2)], [(2002, ⟨1, false, rws eU8 l4⟩), (6001, ⟨25, true, [ar .u64 s.1]⟩), (10007, ⟨25, true, [ar .u64 m4]⟩)]⟩
@[reducible] def s_l03Hash_3_E (l4 : List UInt8) (m4 : List Int) (m5 : List UInt8) (at_2 : Int) : ((List Int) × Int × Bool) → AExit × St := fun e => (.exit 4, ⟨[(3, sl eU8 m5), (4, .ptr 6001 0 0 1), (5, I at_2), (6, .ptr 10007 0 0 1), (7, I e.2.1), (42, B e.2.2)], [(2002, ⟨1, false, rws eU8 l4⟩), (6001, ⟨25, true, [ar .u64 e.1]⟩), (10007, ⟨25, true, [ar .u64 m4]⟩)]⟩)
theorem s_l03Hash_3_l {l4 m4 m5 at_2 s e} (h : Loop (s_l03Hash_3_s l4 m4 m5 at_2) s = some e) : LoopX tab ow (.close []) b_s_l03Hash_11 (s_l03Hash_3_S l4 m4 m5 at_2 s) = some (s_l03Hash_3_E l4 m4 m5 at_2 e) := by
  refine lrG (fun s o h => ?_) h
  obtain ⟨_, _⟩ := s
  simp only [s_l03Hash_3_s] at h
  simp +decide only [s_l03Hash_3_S, s_l03Hash_3_E, b_s_l03Hash_11, go_sem, reduceIte, Nat.reduceAdd]
  all_goals exact go
noncomputable def s_l03Hash_2_s (l3 : List UInt8) (m2 : List UInt8) : (List Int) × Int → Option (((List Int) × Int) ⊕ (((List Int) × Int × Bool)))
  | (m, at_) =>
    br (decide (at_ < ((m2.length : Nat) : Int))) (
      (subL m2 at_ (IntKind.wrap .i64 (at_ + (136 : Int)))).bind fun y =>
      (s_l03Lanes y).bind fun r_ =>
      br (decide (r_.length = 25)) (
        (Loop (s_l03Hash_3_s l3 r_ m2 at_) (m, (0 : Int))).bind fun e_2 =>
        br (decide (e_2.1.length = 25)) (
          (s_l03Permute e_2.1).bind fun r_2 =>
          br (decide (r_2.length = 25) && decide (e_2.1.length = 25)) (
            some (.inl (r_2, (IntKind.wrap .i64 (at_ + (136 : Int)))))) (
            none)) (
          none)) (
        none)) (
      some (.inr (m, at_, decide (at_ < ((m2.length : Nat) : Int)))))
@[reducible] def s_l03Hash_2_S (l3 : List UInt8) (m2 : List UInt8) (s : (List Int) × Int) : St := ⟨[(3, sl eU8 m2), (4, .ptr 6001 0 0 1), (5, I s.2)], [(2002, ⟨1, false, rws eU8 l3⟩), (6001, ⟨25, true, [ar .u64 s.1]⟩)]⟩
@[reducible] def s_l03Hash_2_E (l3 : List UInt8) (m2 : List UInt8) : ((List Int) × Int × Bool) → AExit × St := fun e => (.exit 2, ⟨[(3, sl eU8 m2), (4, .ptr 6001 0 0 1), (5, I e.2.1), (31, B e.2.2)], [(2002, ⟨1, false, rws eU8 l3⟩), (6001, ⟨25, true, [ar .u64 e.1]⟩)]⟩)
theorem s_l03Hash_2_l {l3 m2 s e} (h : Loop (s_l03Hash_2_s l3 m2) s = some e) : LoopX tab ow (.close [10006,10007,15001,2001]) b_s_l03Hash_7 (s_l03Hash_2_S l3 m2 s) = some (s_l03Hash_2_E l3 m2 e) := by
  refine lrG (fun s o h => ?_) h
  obtain ⟨_, _⟩ := s
  simp only [s_l03Hash_2_s] at h
  simp +decide only [s_l03Hash_2_S, s_l03Hash_2_E, b_s_l03Hash_7, go_sem, reduceIte, Nat.reduceAdd]
  have d1 := @s_l03Lanes_c
  have d2 := @s_l03Hash_3_l
  have d3 := @s_l03Permute_c
  all_goals exact go
noncomputable def s_l03Hash (b : (List UInt8)) : Option ((List UInt8)) :=
  br (fits b.length 1) (
    br (fits ((b ++ ([(1 : UInt8)] : List UInt8)).length) 1) (
      (Loop (s_l03Hash_1_s ([(1 : UInt8)] : List UInt8)) (b ++ ([(1 : UInt8)] : List UInt8))).bind fun e_ =>
      br (decide (0 ≤ (IntKind.wrap .i64 (((e_.1.length : Nat) : Int) - (1 : Int))))) (
        br (decide ((IntKind.wrap .i64 (((e_.1.length : Nat) : Int) - (1 : Int))).toNat < e_.1.length)) (
          (e_.1[(IntKind.wrap .i64 (((e_.1.length : Nat) : Int) - (1 : Int))).toNat]?).bind fun x =>
          br (decide (0 ≤ (IntKind.wrap .i64 (((e_.1.length : Nat) : Int) - (1 : Int))))) (
            br (decide ((IntKind.wrap .i64 (((e_.1.length : Nat) : Int) - (1 : Int))).toNat < e_.1.length)) (
              (e_.1[(IntKind.wrap .i64 (((e_.1.length : Nat) : Int) - (1 : Int))).toNat]?).bind fun x2 =>
              (Loop (s_l03Hash_2_s ([(1 : UInt8)] : List UInt8) (e_.1.set ((IntKind.wrap .i64 (((e_.1.length : Nat) : Int) - (1 : Int))).toNat) (UInt8.ofInt (or64 .u8 (x.toNat : Int) (128 : Int))))) ((nZ 25), (0 : Int))).bind fun e_3 =>
              br (decide (e_3.1.length = 25)) (
                (s_l03Text e_3.1 (32 : Int)).bind fun r_3 =>
                some r_3) (
                none)) (
              none)) (
            none)) (
          none)) (
        none)) (
      none)) (
    none)
theorem s_l03Hash_c {b r} (h : s_l03Hash b = some r) : Call tab ow 240 [S b] [] = some (S r, []) := by
  rw [Call_run (af := a_s_l03Hash) rfl]
  unfold s_l03Hash at h
  simp +decide only [a_s_l03Hash, b_s_l03Hash, go_sem, reduceIte, Nat.reduceAdd]
  have d1 := @s_l03Hash_1_l
  have d2 := @s_l03Hash_2_l
  have d3 := @s_l03Text_c
  all_goals exact go
end
noncomputable def s_l05New (label : (List UInt8)) (list : (List Ext)) : Option (Source) :=
  br (fits ((([115, 111, 117, 114, 99, 101] : List UInt8)).length + label.length) 1) (
    (s_l03Hash ((([115, 111, 117, 114, 99, 101] : List UInt8)) ++ label)).bind fun r_ =>
    some (Source.mk list (0 : Int) r_ (0 : Int))) (
    none)
theorem s_l05New_c {label list r} (h : s_l05New label list = some r) : Call tab ow 152 [S label, sl eExt list] [] = some (.agg [sl eExt r.Script, I r.At, S r.State, I r.Count], []) := by
  rw [Call_run (af := a_s_l05New) rfl]
  unfold s_l05New at h
  simp +decide only [a_s_l05New, b_s_l05New, go_sem, reduceIte, Nat.reduceAdd]
  have d1 := @s_l03Hash_c
  all_goals exact go
noncomputable def s_l00Src_ext (m : l00Src) : Option (Ext × l00Src) :=
  (s_l00Src_chance (4 : Int) m).bind fun r_ =>
  br r_.1 (
    (s_l00Src_field r_.2).bind fun r_2 =>
    some ((Ext.mk r_2.1 (0 : Int)), r_2.2)) (
    (s_l00Src_field r_.2).bind fun r_3 =>
    (s_l00Src_field r_3.2).bind fun r_4 =>
    some ((Ext.mk r_3.1 r_4.1), r_4.2))
theorem s_l00Src_ext_c {m r} (h : s_l00Src_ext m = some r) : Call tab ow 166 [.ptr 0 0 0 1] [⟨3, true, [[sl eU8 m.code, I m.at_, I m.seed]]⟩] = some (.agg [I r.1.A, I r.1.B], [⟨3, true, [[sl eU8 r.2.code, I r.2.at_, I r.2.seed]]⟩]) := by
  rw [Call_run (af := a_s_l00Src_ext) rfl]
  unfold s_l00Src_ext at h
  simp +decide only [a_s_l00Src_ext, b_s_l00Src_ext, go_sem, reduceIte, Nat.reduceAdd]
  have d1 := @s_l00Src_chance_c
  have d2 := @s_l00Src_field_c
  all_goals exact go
section
theorem s_l00Src_exts_k0 : mkR 2000 [] = rws eExt [] := rfl
attribute [local go_sem] s_l00Src_exts_k0
theorem s_l00Src_exts_k1 : mkR 6003 [] = rws eExt [] := rfl
attribute [local go_sem] s_l00Src_exts_k1
noncomputable def s_l00Src_exts_1_s (n2 : Int) : (List Ext) × Int × (List UInt8) × Int × Int → Option (((List Ext) × Int × (List UInt8) × Int × Int) ⊕ (((List Ext) × Int × Bool × (List UInt8) × Int × Int)))
  | (l, i, c, c2, c3) =>
    br (decide (i < n2)) (
      (s_l00Src_ext (l00Src.mk c c2 c3)).bind fun r_ =>
      br (fits ((l ++ ([r_.1] : List Ext)).length) 16) (
        some (.inl ((l ++ ([r_.1] : List Ext)), (IntKind.wrap .i64 (i + (1 : Int))), r_.2.code, r_.2.at_, r_.2.seed))) (
        none)) (
      some (.inr (l, i, decide (i < n2), c, c2, c3)))
@[reducible] def s_l00Src_exts_1_S (n2 : Int) (s : (List Ext) × Int × (List UInt8) × Int × Int) : St := ⟨[(0, .ptr 0 0 0 1), (1, I n2), (5, .sl 2000 0 s.1.length), (6, I s.2.1)], [(0, ⟨3, true, [[sl eU8 s.2.2.1, I s.2.2.2.1, I s.2.2.2.2]]⟩), (2000, ⟨2, false, rws eExt s.1⟩)]⟩
@[reducible] def s_l00Src_exts_1_E (n2 : Int) : ((List Ext) × Int × Bool × (List UInt8) × Int × Int) → AExit × St := fun e => (.exit 0, ⟨[(0, .ptr 0 0 0 1), (1, I n2), (5, .sl 2000 0 e.1.length), (6, I e.2.1), (10, B e.2.2.1)], [(0, ⟨3, true, [[sl eU8 e.2.2.2.1, I e.2.2.2.2.1, I e.2.2.2.2.2]]⟩), (2000, ⟨2, false, rws eExt e.1⟩)]⟩)
theorem s_l00Src_exts_1_l {n2 s e} (h : Loop (s_l00Src_exts_1_s n2) s = some e) : LoopX tab ow (.close [6002,6003,6004]) b_s_l00Src_exts_3 (s_l00Src_exts_1_S n2 s) = some (s_l00Src_exts_1_E n2 e) := by
  refine lrG (fun s o h => ?_) h
  obtain ⟨_, _, _, _, _⟩ := s
  simp only [s_l00Src_exts_1_s] at h
  simp +decide only [s_l00Src_exts_1_S, s_l00Src_exts_1_E, b_s_l00Src_exts_3, go_sem, reduceIte, Nat.reduceAdd]
  have d1 := @s_l00Src_ext_c
  all_goals exact go
noncomputable def s_l00Src_exts (n : Int) (m : l00Src) : Option ((List Ext) × l00Src) :=
  (Loop (s_l00Src_exts_1_s n) (([] : List Ext), (0 : Int), m.code, m.at_, m.seed)).bind fun e_ =>
  some (e_.1, (l00Src.mk e_.2.2.2.1 e_.2.2.2.2.1 e_.2.2.2.2.2))
theorem s_l00Src_exts_c {n m r} (h : s_l00Src_exts n m = some r) : Call tab ow 71 [.ptr 0 0 0 1, I n] [⟨3, true, [[sl eU8 m.code, I m.at_, I m.seed]]⟩] = some (sl eExt r.1, [⟨3, true, [[sl eU8 r.2.code, I r.2.at_, I r.2.seed]]⟩]) := by
  rw [Call_run (af := a_s_l00Src_exts) rfl]
  unfold s_l00Src_exts at h
  simp +decide only [a_s_l00Src_exts, b_s_l00Src_exts, go_sem, reduceIte, Nat.reduceAdd]
  have d1 := @s_l00Src_exts_1_l
  all_goals exact go
end
section
theorem s_l02Number_k0 : mkR 2000 [] = rws eU8 [] := rfl
attribute [local go_sem] s_l02Number_k0
theorem s_l02Number_k1 : mkR 6007 [] = rws eU8 [] := rfl
attribute [local go_sem] s_l02Number_k1
noncomputable def s_l02Number_1_s (n2 : Int) : (List UInt8) × Int → Option (((List UInt8) × Int) ⊕ (((List UInt8) × Int × Bool)))
  | (l, i) =>
    br (decide (i ≥ (0 : Int))) (
      br (decide (0 ≤ (IntKind.wrap .u64 (IntKind.wrap .i64 ((8 : Int) * i))))) (
        br (fits ((l ++ ([(UInt8.ofInt (shr64 .i64 n2 (IntKind.wrap .u64 (IntKind.wrap .i64 ((8 : Int) * i)))))] : List UInt8)).length) 1) (
          some (.inl ((l ++ ([(UInt8.ofInt (shr64 .i64 n2 (IntKind.wrap .u64 (IntKind.wrap .i64 ((8 : Int) * i)))))] : List UInt8)), (IntKind.wrap .i64 (i - (1 : Int)))))) (
          none)) (
        none)) (
      some (.inr (l, i, decide (i ≥ (0 : Int)))))
@[reducible] def s_l02Number_1_S (n2 : Int) (s : (List UInt8) × Int) : St := ⟨[(0, I n2), (5, .sl 2000 0 s.1.length), (6, I s.2)], [(2000, ⟨1, false, rws eU8 s.1⟩)]⟩
@[reducible] def s_l02Number_1_E (n2 : Int) : ((List UInt8) × Int × Bool) → AExit × St := fun e => (.exit 0, ⟨[(0, I n2), (5, .sl 2000 0 e.1.length), (6, I e.2.1), (11, B e.2.2)], [(2000, ⟨1, false, rws eU8 e.1⟩)]⟩)
theorem s_l02Number_1_l {n2 s e} (h : Loop (s_l02Number_1_s n2) s = some e) : LoopX tab ow (.close [6007,6008]) b_s_l02Number_3 (s_l02Number_1_S n2 s) = some (s_l02Number_1_E n2 e) := by
  refine lrG (fun s o h => ?_) h
  obtain ⟨_, _⟩ := s
  simp only [s_l02Number_1_s] at h
  simp +decide only [s_l02Number_1_S, s_l02Number_1_E, b_s_l02Number_3, go_sem, reduceIte, Nat.reduceAdd]
  all_goals exact go
noncomputable def s_l02Number (n : Int) (size : Int) : Option ((List UInt8)) :=
  (Loop (s_l02Number_1_s n) (([] : List UInt8), (IntKind.wrap .i64 (size - (1 : Int))))).bind fun e_ =>
  some e_.1
theorem s_l02Number_c {n size r} (h : s_l02Number n size = some r) : Call tab ow 165 [I n, I size] [] = some (sl eU8 r, []) := by
  rw [Call_run (af := a_s_l02Number) rfl]
  unfold s_l02Number at h
  simp +decide only [a_s_l02Number, b_s_l02Number, go_sem, reduceIte, Nat.reduceAdd]
  have d1 := @s_l02Number_1_l
  all_goals exact go
end
noncomputable def s_l05Absorb (s : Source) (t : (List UInt8)) : Option (Source) :=
  br (fits (s.State.length + (([97, 98, 115, 111, 114, 98] : List UInt8)).length) 1) (
    (s_l02Number ((t.length : Nat) : Int) (4 : Int)).bind fun r_ =>
    br (fits ((s.State ++ (([97, 98, 115, 111, 114, 98] : List UInt8))).length + r_.length) 1) (
      br (fits (((s.State ++ (([97, 98, 115, 111, 114, 98] : List UInt8))) ++ r_).length + t.length) 1) (
        (s_l03Hash (((s.State ++ (([97, 98, 115, 111, 114, 98] : List UInt8))) ++ r_) ++ t)).bind fun r_2 =>
        some (Source.mk s.Script s.At r_2 (0 : Int))) (
        none)) (
      none)) (
    none)
theorem s_l05Absorb_c {s t r} (h : s_l05Absorb s t = some r) : Call tab ow 155 [.agg [sl eExt s.Script, I s.At, S s.State, I s.Count], S t] [] = some (.agg [sl eExt r.Script, I r.At, S r.State, I r.Count], []) := by
  rw [Call_run (af := a_s_l05Absorb) rfl]
  unfold s_l05Absorb at h
  simp +decide only [a_s_l05Absorb, b_s_l05Absorb, go_sem, reduceIte, Nat.reduceAdd]
  have d1 := @s_l02Number_c
  have d2 := @s_l03Hash_c
  all_goals exact go
noncomputable def s_l05Field_1_s (t2 : List UInt8) : Int × Int → Option ((Int × Int) ⊕ ((Int × Int × Bool)))
  | (n, i) =>
    br (decide (i < (8 : Int))) (
      (atL t2 i).bind fun c =>
      some (.inl (((IntKind.wrap .i64 ((IntKind.wrap .i64 (n * (256 : Int))) + (IntKind.wrap .i64 (c.toNat : Int)))).tmod (2130706433 : Int)), (IntKind.wrap .i64 (i + (1 : Int)))))) (
      some (.inr (n, i, decide (i < (8 : Int)))))
@[reducible] def s_l05Field_1_S (t2 : List UInt8) (s : Int × Int) : St := ⟨[(0, S t2), (3, I s.1), (4, I s.2)], []⟩
@[reducible] def s_l05Field_1_E (t2 : List UInt8) : (Int × Int × Bool) → AExit × St := fun e => (.exit 0, ⟨[(0, S t2), (3, I e.1), (4, I e.2.1), (6, B e.2.2)], []⟩)
theorem s_l05Field_1_l {t2 s e} (h : Loop (s_l05Field_1_s t2) s = some e) : LoopX tab ow (.close []) b_s_l05Field_3 (s_l05Field_1_S t2 s) = some (s_l05Field_1_E t2 e) := by
  refine lrG (fun s o h => ?_) h
  obtain ⟨_, _⟩ := s
  simp only [s_l05Field_1_s] at h
  simp +decide only [s_l05Field_1_S, s_l05Field_1_E, b_s_l05Field_3, go_sem, reduceIte, Nat.reduceAdd]
  all_goals exact go
noncomputable def s_l05Field (t : (List UInt8)) : Option (Int) :=
  (Loop (s_l05Field_1_s t) ((0 : Int), (0 : Int))).bind fun e_ =>
  some e_.1
theorem s_l05Field_c {t r} (h : s_l05Field t = some r) : Call tab ow 241 [S t] [] = some (I r, []) := by
  rw [Call_run (af := a_s_l05Field) rfl]
  unfold s_l05Field at h
  simp +decide only [a_s_l05Field, b_s_l05Field, go_sem, reduceIte, Nat.reduceAdd]
  have d1 := @s_l05Field_1_l
  all_goals exact go
noncomputable def s_l05Draw (s : Source) : Option (Source × Ext) :=
  br (decide (((s.Script.length : Nat) : Int) > (0 : Int))) (
    br (decide (((s.Script.length : Nat) : Int) ≠ 0)) (
      (atL s.Script (s.At.tmod ((s.Script.length : Nat) : Int))).bind fun x =>
      some ((Source.mk s.Script (IntKind.wrap .i64 (s.At + (1 : Int))) s.State s.Count), x)) (
      none)) (
    br (fits (s.State.length + (([100, 114, 97, 119] : List UInt8)).length) 1) (
      (s_l02Number s.Count (4 : Int)).bind fun r_ =>
      br (fits ((s.State ++ (([100, 114, 97, 119] : List UInt8))).length + r_.length) 1) (
        (s_l03Hash ((s.State ++ (([100, 114, 97, 119] : List UInt8))) ++ r_)).bind fun r_2 =>
        (subL r_2 (0 : Int) (8 : Int)).bind fun y =>
        (s_l05Field y).bind fun r_3 =>
        (subL r_2 (8 : Int) (16 : Int)).bind fun y2 =>
        (s_l05Field y2).bind fun r_4 =>
        some ((Source.mk s.Script s.At s.State (IntKind.wrap .i64 (s.Count + (1 : Int)))), (Ext.mk r_3 r_4))) (
        none)) (
      none))
theorem s_l05Draw_c {s r} (h : s_l05Draw s = some r) : Call tab ow 156 [.agg [sl eExt s.Script, I s.At, S s.State, I s.Count]] [] = some (.tup [.agg [sl eExt r.1.Script, I r.1.At, S r.1.State, I r.1.Count], .agg [I r.2.A, I r.2.B]], []) := by
  rw [Call_run (af := a_s_l05Draw) rfl]
  unfold s_l05Draw at h
  simp +decide only [a_s_l05Draw, b_s_l05Draw, go_sem, reduceIte, Nat.reduceAdd]
  have d1 := @s_l02Number_c
  have d2 := @s_l03Hash_c
  have d3 := @s_l05Field_c
  all_goals exact go
section
theorem s_l05Own_k0 : mkR 2000 [] = rws eExt [] := rfl
attribute [local go_sem] s_l05Own_k0
noncomputable def s_l05Own (s : Source) : Option (Source) :=
  br (fits ((([] : List Ext) ++ s.Script).length) 16) (
    some (Source.mk (([] : List Ext) ++ s.Script) s.At s.State s.Count)) (
    none)
theorem s_l05Own_c {s r} (h : s_l05Own s = some r) : Call tab ow 69 [.agg [sl eExt s.Script, I s.At, S s.State, I s.Count]] [] = some (.agg [sl eExt r.Script, I r.At, S r.State, I r.Count], []) := by
  rw [Call_run (af := a_s_l05Own) rfl]
  unfold s_l05Own at h
  simp +decide only [a_s_l05Own, b_s_l05Own, go_sem, reduceIte, Nat.reduceAdd]
  all_goals exact go
end
end Go.AI.Fn

set_option linter.unusedVariables false
set_option linter.unusedSimpArgs false
set_option maxRecDepth 100000
set_option maxHeartbeats 1000000
namespace Go.AI.Fn
section
theorem s_l00Src_source_k0 : mkR 2001 [] = rws eS [] := rfl
attribute [local go_sem] s_l00Src_source_k0
theorem s_l00Src_source_k1 : mkR 2003 [] = rws eExt [] := rfl
attribute [local go_sem] s_l00Src_source_k1
theorem s_l00Src_source_k2 : mkR 9002 [] = rws eS [] := rfl
attribute [local go_sem] s_l00Src_source_k2
noncomputable def s_l00Src_source_1_s (c4 : Int) (c5 : List UInt8) (c6 : Int) : Int × (List UInt8) × Int × Int × (List Ext) × Int × (List UInt8) × Int → Option ((Int × (List UInt8) × Int × Int × (List Ext) × Int × (List UInt8) × Int) ⊕ ((Int × Bool × (List UInt8) × Int × Int × (List Ext) × Int × (List UInt8) × Int)))
  | (i, c, c2, c3, c7, c8, c9, c10) =>
    br (decide (i > (0 : Int))) (
      (s_l00Src_chance (2 : Int) (l00Src.mk c c2 c3)).bind fun r_7 =>
      br r_7.1 (
        (s_l00Src_pick ([(([] : List UInt8)), (([116, 101, 120, 116] : List UInt8))] : List (List UInt8)) r_7.2).bind fun r_8 =>
        (s_l05Absorb (Source.mk c7 c8 c9 c10) r_8.1).bind fun r_9 =>
        some (.inl ((IntKind.wrap .i64 (i - (1 : Int))), r_8.2.code, r_8.2.at_, r_8.2.seed, r_9.Script, r_9.At, r_9.State, r_9.Count))) (
        (s_l05Draw (Source.mk c7 c8 c9 c10)).bind fun r_10 =>
        some (.inl ((IntKind.wrap .i64 (i - (1 : Int))), r_7.2.code, r_7.2.at_, r_7.2.seed, r_10.1.Script, r_10.1.At, r_10.1.State, r_10.1.Count)))) (
      some (.inr (i, decide (i > (0 : Int)), c, c2, c3, c7, c8, c9, c10)))
@[reducible] def s_l00Src_source_1_S (c4 : Int) (c5 : List UInt8) (c6 : Int) (s : Int × (List UInt8) × Int × Int × (List Ext) × Int × (List UInt8) × Int) : St := ⟨[(0, .ptr 0 0 0 1), (2, .ptr 1000 0 0 1), (3, .ptr 2005 0 0 1), (4, I s.1)], [(0, ⟨3, true, [[sl eU8 s.2.1, I s.2.2.1, I s.2.2.2.1]]⟩), (1000, ⟨4, true, [[.lit (.slice none 0 0), I c4, S c5, I c6]]⟩), (2001, dead), (2003, dead), (2005, ⟨4, true, [[sl eExt s.2.2.2.2.1, I s.2.2.2.2.2.1, S s.2.2.2.2.2.2.1, I s.2.2.2.2.2.2.2]]⟩)]⟩
@[reducible] def s_l00Src_source_1_E (c4 : Int) (c5 : List UInt8) (c6 : Int) : (Int × Bool × (List UInt8) × Int × Int × (List Ext) × Int × (List UInt8) × Int) → AExit × St := fun e => (.exit 0, ⟨[(0, .ptr 0 0 0 1), (2, .ptr 1000 0 0 1), (3, .ptr 2005 0 0 1), (4, I e.1), (21, B e.2.1)], [(0, ⟨3, true, [[sl eU8 e.2.2.1, I e.2.2.2.1, I e.2.2.2.2.1]]⟩), (1000, ⟨4, true, [[.lit (.slice none 0 0), I c4, S c5, I c6]]⟩), (2001, dead), (2003, dead), (2005, ⟨4, true, [[sl eExt e.2.2.2.2.2.1, I e.2.2.2.2.2.2.1, S e.2.2.2.2.2.2.2.1, I e.2.2.2.2.2.2.2.2]]⟩)]⟩)
theorem s_l00Src_source_1_l {c4 c5 c6 s e} (h : Loop (s_l00Src_source_1_s c4 c5 c6) s = some e) : LoopX tab ow (.close [8001,9002,9003,9004,10001]) b_s_l00Src_source_5 (s_l00Src_source_1_S c4 c5 c6 s) = some (s_l00Src_source_1_E c4 c5 c6 e) := by
  refine lrG (fun s o h => ?_) h
  obtain ⟨_, _, _, _, _, _, _, _⟩ := s
  simp only [s_l00Src_source_1_s] at h
  simp +decide only [s_l00Src_source_1_S, s_l00Src_source_1_E, b_s_l00Src_source_5, go_sem, reduceIte, Nat.reduceAdd]
  have d1 := @s_l00Src_chance_c
  have d2 := @s_l00Src_pick_c
  have d3 := @s_l05Absorb_c
  have d4 := @s_l05Draw_c
  all_goals exact go
noncomputable def s_l00Src_source_2_s (c14 : Int) (c15 : List UInt8) (c16 : Int) : Int × (List UInt8) × Int × Int × (List Ext) × Int × (List UInt8) × Int → Option ((Int × (List UInt8) × Int × Int × (List Ext) × Int × (List UInt8) × Int) ⊕ ((Int × Bool × (List UInt8) × Int × Int × (List Ext) × Int × (List UInt8) × Int)))
  | (i2, c11, c12, c13, c17, c18, c19, c20) =>
    br (decide (i2 > (0 : Int))) (
      (s_l00Src_chance (2 : Int) (l00Src.mk c11 c12 c13)).bind fun r_13 =>
      br r_13.1 (
        (s_l00Src_pick ([(([] : List UInt8)), (([116, 101, 120, 116] : List UInt8))] : List (List UInt8)) r_13.2).bind fun r_14 =>
        (s_l05Absorb (Source.mk c17 c18 c19 c20) r_14.1).bind fun r_15 =>
        some (.inl ((IntKind.wrap .i64 (i2 - (1 : Int))), r_14.2.code, r_14.2.at_, r_14.2.seed, r_15.Script, r_15.At, r_15.State, r_15.Count))) (
        (s_l05Draw (Source.mk c17 c18 c19 c20)).bind fun r_16 =>
        some (.inl ((IntKind.wrap .i64 (i2 - (1 : Int))), r_13.2.code, r_13.2.at_, r_13.2.seed, r_16.1.Script, r_16.1.At, r_16.1.State, r_16.1.Count)))) (
      some (.inr (i2, decide (i2 > (0 : Int)), c11, c12, c13, c17, c18, c19, c20)))
@[reducible] def s_l00Src_source_2_S (c14 : Int) (c15 : List UInt8) (c16 : Int) (s : Int × (List UInt8) × Int × Int × (List Ext) × Int × (List UInt8) × Int) : St := ⟨[(0, .ptr 0 0 0 1), (2, .ptr 1000 0 0 1), (3, .ptr 2005 0 0 1), (4, I s.1)], [(0, ⟨3, true, [[sl eU8 s.2.1, I s.2.2.1, I s.2.2.2.1]]⟩), (1000, ⟨4, true, [[.lit (.slice none 0 0), I c14, S c15, I c16]]⟩), (2001, dead), (2003, dead), (2005, ⟨4, true, [[sl eExt s.2.2.2.2.1, I s.2.2.2.2.2.1, S s.2.2.2.2.2.2.1, I s.2.2.2.2.2.2.2]]⟩)]⟩
@[reducible] def s_l00Src_source_2_E (c14 : Int) (c15 : List UInt8) (c16 : Int) : (Int × Bool × (List UInt8) × Int × Int × (List Ext) × Int × (List UInt8) × Int) → AExit × St := fun e => (.exit 0, ⟨[(0, .ptr 0 0 0 1), (2, .ptr 1000 0 0 1), (3, .ptr 2005 0 0 1), (4, I e.1), (21, B e.2.1)], [(0, ⟨3, true, [[sl eU8 e.2.2.1, I e.2.2.2.1, I e.2.2.2.2.1]]⟩), (1000, ⟨4, true, [[.lit (.slice none 0 0), I c14, S c15, I c16]]⟩), (2001, dead), (2003, dead), (2005, ⟨4, true, [[sl eExt e.2.2.2.2.2.1, I e.2.2.2.2.2.2.1, S e.2.2.2.2.2.2.2.1, I e.2.2.2.2.2.2.2.2]]⟩)]⟩)
theorem s_l00Src_source_2_l {c14 c15 c16 s e} (h : Loop (s_l00Src_source_2_s c14 c15 c16) s = some e) : LoopX tab ow (.close [8001,9002,9003,9004,10001]) b_s_l00Src_source_5 (s_l00Src_source_2_S c14 c15 c16 s) = some (s_l00Src_source_2_E c14 c15 c16 e) := by
  refine lrG (fun s o h => ?_) h
  obtain ⟨_, _, _, _, _, _, _, _⟩ := s
  simp only [s_l00Src_source_2_s] at h
  simp +decide only [s_l00Src_source_2_S, s_l00Src_source_2_E, b_s_l00Src_source_5, go_sem, reduceIte, Nat.reduceAdd]
  have d1 := @s_l00Src_chance_c
  have d2 := @s_l00Src_pick_c
  have d3 := @s_l05Absorb_c
  have d4 := @s_l05Draw_c
  all_goals exact go
noncomputable def s_l00Src_source (m : l00Src) : Option (Source × l00Src) :=
  (s_l00Src_pick ([(([] : List UInt8)), (([97] : List UInt8)), (([108, 97, 98, 101, 108] : List UInt8))] : List (List UInt8)) m).bind fun r_ =>
  (s_l05New r_.1 ([] : List Ext)).bind fun r_2 =>
  (s_l00Src_chance (3 : Int) r_.2).bind fun r_3 =>
  br r_3.1 (
    (s_l00Src_next (5 : Int) r_3.2).bind fun r_4 =>
    (s_l00Src_exts (IntKind.wrap .i64 ((1 : Int) + r_4.1)) r_4.2).bind fun r_5 =>
    (s_l00Src_next (4 : Int) r_5.2).bind fun r_6 =>
    (Loop (s_l00Src_source_1_s (0 : Int) (([] : List UInt8)) (0 : Int)) (r_6.1, r_6.2.code, r_6.2.at_, r_6.2.seed, r_5.1, r_2.At, r_2.State, r_2.Count)).bind fun e_ =>
    (s_l05Own (Source.mk e_.2.2.2.2.2.1 e_.2.2.2.2.2.2.1 e_.2.2.2.2.2.2.2.1 e_.2.2.2.2.2.2.2.2)).bind fun r_11 =>
    some (r_11, (l00Src.mk e_.2.2.1 e_.2.2.2.1 e_.2.2.2.2.1))) (
    (s_l00Src_next (4 : Int) r_3.2).bind fun r_12 =>
    (Loop (s_l00Src_source_2_s (0 : Int) (([] : List UInt8)) (0 : Int)) (r_12.1, r_12.2.code, r_12.2.at_, r_12.2.seed, r_2.Script, r_2.At, r_2.State, r_2.Count)).bind fun e_2 =>
    (s_l05Own (Source.mk e_2.2.2.2.2.2.1 e_2.2.2.2.2.2.2.1 e_2.2.2.2.2.2.2.2.1 e_2.2.2.2.2.2.2.2.2)).bind fun r_17 =>
    some (r_17, (l00Src.mk e_2.2.2.1 e_2.2.2.2.1 e_2.2.2.2.2.1)))
theorem s_l00Src_source_c {m r} (h : s_l00Src_source m = some r) : Call tab ow 63 [.ptr 0 0 0 1] [⟨3, true, [[sl eU8 m.code, I m.at_, I m.seed]]⟩] = some (.agg [sl eExt r.1.Script, I r.1.At, S r.1.State, I r.1.Count], [⟨3, true, [[sl eU8 r.2.code, I r.2.at_, I r.2.seed]]⟩]) := by
  rw [Call_run (af := a_s_l00Src_source) rfl]
  unfold s_l00Src_source at h
  simp +decide only [a_s_l00Src_source, b_s_l00Src_source, go_sem, reduceIte, Nat.reduceAdd]
  have d1 := @s_l00Src_pick_c
  have d2 := @s_l05New_c
  have d3 := @s_l00Src_chance_c
  have d4 := @s_l00Src_next_c
  have d5 := @s_l00Src_exts_c
  have d6 := @s_l00Src_source_1_l
  have d7 := @s_l05Own_c
  have d8 := @s_l00Src_source_2_l
  all_goals exact go
end
noncomputable def s_SourceOf (code : (List UInt8)) : Option (Source) :=
  (s_l00Source code).bind fun r_ =>
  (s_l00Src_source r_).bind fun r_2 =>
  some r_2.1
theorem s_SourceOf_c {code r} (h : s_SourceOf code = some r) : Call tab ow 12 [sl eU8 code] [] = some (.agg [sl eExt r.Script, I r.At, S r.State, I r.Count], []) := by
  rw [Call_run (af := a_s_SourceOf) rfl]
  unfold s_SourceOf at h
  simp +decide only [a_s_SourceOf, b_s_SourceOf, go_sem, reduceIte, Nat.reduceAdd]
  have d1 := @s_l00Source_c
  have d2 := @s_l00Src_source_c
  all_goals exact go
noncomputable def i_in (n : Int) (low : Int) (high : Int) : Option (Bool) :=
  br (decide (low ≤ n)) (
    some (decide (n ≤ high))) (
    some false)
theorem i_in_c {n low high r} (h : i_in n low high = some r) : Call tab ow 80 [I n, I low, I high] [] = some (B r, []) := by
  rw [Call_run (af := a_i_in) rfl]
  unfold i_in at h
  simp +decide only [a_i_in, b_i_in, go_sem, reduceIte, Nat.reduceAdd]
  all_goals exact go
noncomputable def i_FieldOK (a : Int) : Option (Bool) :=
  (i_in a (0 : Int) (2130706432 : Int)).bind fun r_ =>
  some r_
theorem i_FieldOK_c {a r} (h : i_FieldOK a = some r) : Call tab ow 158 [I a] [] = some (B r, []) := by
  rw [Call_run (af := a_i_FieldOK) rfl]
  unfold i_FieldOK at h
  simp +decide only [a_i_FieldOK, b_i_FieldOK, go_sem, reduceIte, Nat.reduceAdd]
  have d1 := @i_in_c
  all_goals exact go
noncomputable def i_ExtOK (a : Ext) : Option (Bool) :=
  (i_FieldOK a.A).bind fun r_ =>
  br r_ (
    (i_FieldOK a.B).bind fun r_2 =>
    some r_2) (
    some false)
theorem i_ExtOK_c {a r} (h : i_ExtOK a = some r) : Call tab ow 74 [.agg [I a.A, I a.B]] [] = some (B r, []) := by
  rw [Call_run (af := a_i_ExtOK) rfl]
  unfold i_ExtOK at h
  simp +decide only [a_i_ExtOK, b_i_ExtOK, go_sem, reduceIte, Nat.reduceAdd]
  have d1 := @i_FieldOK_c
  all_goals exact go
noncomputable def i_are_i_Ext_1_ExtOK (x : Ext) : Option (Bool) :=
  (i_ExtOK x).bind fun r_ =>
  some (!r_)
theorem i_are_i_Ext_1_ExtOK_c {x r} (h : i_are_i_Ext_1_ExtOK x = some r) : Call tab ow 170 [.agg [I x.A, I x.B], .ptr 0 0 0 1] [⟨1, true, [[.fn 74 []]]⟩] = some (B r, [⟨1, true, [[.fn 74 []]]⟩]) := by
  rw [Call_run (af := a_i_are_i_Ext_1) rfl]
  unfold i_are_i_Ext_1_ExtOK at h
  simp +decide only [a_i_are_i_Ext_1, b_i_are_i_Ext_1, go_sem, reduceIte, Nat.reduceAdd]
  have d1 := @i_ExtOK_c
  all_goals exact go
noncomputable def slices_IndexFunc_Li_Ext_i_Ext_are_i_Ext_1_ExtOK_1_s (s2 : List Ext) (t : Int) : Int → Option ((Int) ⊕ (Int ⊕ (Int × Bool)))
  | t2 =>
    br (decide (t2 < t)) (
      (atL s2 t2).bind fun x =>
      (i_are_i_Ext_1_ExtOK x).bind fun r_ =>
      br r_ (
        some (.inr (.inl t2))) (
        some (.inl (IntKind.wrap .i64 (t2 + (1 : Int)))))) (
      some (.inr (.inr (t2, decide (t2 < t)))))
@[reducible] def slices_IndexFunc_Li_Ext_i_Ext_are_i_Ext_1_ExtOK_1_S (s2 : List Ext) (t : Int) (s : Int) : St := ⟨[(0, sl eExt s2), (1, .fn 170 [.ptr 0 0 0 1]), (7, I t), (8, I s)], [(0, ⟨1, true, [[.fn 74 []]]⟩)]⟩
@[reducible] def slices_IndexFunc_Li_Ext_i_Ext_are_i_Ext_1_ExtOK_1_E (s2 : List Ext) (t : Int) : (Int ⊕ (Int × Bool)) → AExit × St := alt (fun e => ((.ret, ⟨[(4, I e)], [(0, ⟨1, true, [[.fn 74 []]]⟩)]⟩) : AExit × St)) (fun e => (.exit 0, ⟨[(0, sl eExt s2), (1, .fn 170 [.ptr 0 0 0 1]), (7, I t), (8, I e.1), (9, B e.2)], [(0, ⟨1, true, [[.fn 74 []]]⟩)]⟩))
theorem slices_IndexFunc_Li_Ext_i_Ext_are_i_Ext_1_ExtOK_1_l {s2 t s e} (h : Loop (slices_IndexFunc_Li_Ext_i_Ext_are_i_Ext_1_ExtOK_1_s s2 t) s = some e) : LoopX tab ow (.close [5005]) b_slices_IndexFunc_Li_Ext_i_Ext_2 (slices_IndexFunc_Li_Ext_i_Ext_are_i_Ext_1_ExtOK_1_S s2 t s) = some (slices_IndexFunc_Li_Ext_i_Ext_are_i_Ext_1_ExtOK_1_E s2 t e) := by
  refine lrG (fun s o h => ?_) h
  simp only [slices_IndexFunc_Li_Ext_i_Ext_are_i_Ext_1_ExtOK_1_s] at h
  simp +decide only [slices_IndexFunc_Li_Ext_i_Ext_are_i_Ext_1_ExtOK_1_S, slices_IndexFunc_Li_Ext_i_Ext_are_i_Ext_1_ExtOK_1_E, b_slices_IndexFunc_Li_Ext_i_Ext_2, go_sem, reduceIte, Nat.reduceAdd]
  have d1 := @i_are_i_Ext_1_ExtOK_c
  all_goals exact go
noncomputable def slices_IndexFunc_Li_Ext_i_Ext_are_i_Ext_1_ExtOK (s : (List Ext)) : Option (Int) :=
  (Loop (slices_IndexFunc_Li_Ext_i_Ext_are_i_Ext_1_ExtOK_1_s s ((s.length : Nat) : Int)) (0 : Int)).bind (alt (fun e_2 =>
    some e_2) (fun e_3 =>
    some (-1 : Int)))
theorem slices_IndexFunc_Li_Ext_i_Ext_are_i_Ext_1_ExtOK_c {s r} (h : slices_IndexFunc_Li_Ext_i_Ext_are_i_Ext_1_ExtOK s = some r) : Call tab ow 247 [sl eExt s, .fn 170 [.ptr 0 0 0 1]] [⟨1, true, [[.fn 74 []]]⟩] = some (I r, [⟨1, true, [[.fn 74 []]]⟩]) := by
  rw [Call_run (af := a_slices_IndexFunc_Li_Ext_i_Ext) rfl]
  unfold slices_IndexFunc_Li_Ext_i_Ext_are_i_Ext_1_ExtOK at h
  simp +decide only [a_slices_IndexFunc_Li_Ext_i_Ext, b_slices_IndexFunc_Li_Ext_i_Ext, go_sem, reduceIte, Nat.reduceAdd]
  have d1 := @slices_IndexFunc_Li_Ext_i_Ext_are_i_Ext_1_ExtOK_1_l
  all_goals exact go
noncomputable def slices_ContainsFunc_Li_Ext_i_Ext_are_i_Ext_1_ExtOK (s : (List Ext)) : Option (Bool) :=
  (slices_IndexFunc_Li_Ext_i_Ext_are_i_Ext_1_ExtOK s).bind fun r_ =>
  some (decide (r_ ≥ (0 : Int)))
theorem slices_ContainsFunc_Li_Ext_i_Ext_are_i_Ext_1_ExtOK_c {s r} (h : slices_ContainsFunc_Li_Ext_i_Ext_are_i_Ext_1_ExtOK s = some r) : Call tab ow 169 [sl eExt s, .fn 170 [.ptr 0 0 0 1]] [⟨1, true, [[.fn 74 []]]⟩] = some (B r, [⟨1, true, [[.fn 74 []]]⟩]) := by
  rw [Call_run (af := a_slices_ContainsFunc_Li_Ext_i_Ext) rfl]
  unfold slices_ContainsFunc_Li_Ext_i_Ext_are_i_Ext_1_ExtOK at h
  simp +decide only [a_slices_ContainsFunc_Li_Ext_i_Ext, b_slices_ContainsFunc_Li_Ext_i_Ext, go_sem, reduceIte, Nat.reduceAdd]
  have d1 := @slices_IndexFunc_Li_Ext_i_Ext_are_i_Ext_1_ExtOK_c
  all_goals exact go
noncomputable def i_are_i_Ext_ExtOK (list : (List Ext)) : Option (Bool) :=
  (slices_ContainsFunc_Li_Ext_i_Ext_are_i_Ext_1_ExtOK list).bind fun r_ =>
  some (!r_)
theorem i_are_i_Ext_ExtOK_c {list r} (h : i_are_i_Ext_ExtOK list = some r) : Call tab ow 73 [.fn 74 [], sl eExt list] [] = some (B r, []) := by
  rw [Call_run (af := a_i_are_i_Ext) rfl]
  unfold i_are_i_Ext_ExtOK at h
  simp +decide only [a_i_are_i_Ext, b_i_are_i_Ext, go_sem, reduceIte, Nat.reduceAdd]
  have d1 := @slices_ContainsFunc_Li_Ext_i_Ext_are_i_Ext_1_ExtOK_c
  all_goals exact go
noncomputable def i_isHash (h_ : (List UInt8)) : Option (Bool) :=
  some (((h_.length : Nat) : Int) == (32 : Int))
theorem i_isHash_c {h_ r} (h : i_isHash h_ = some r) : Call tab ow 178 [S h_] [] = some (B r, []) := by
  rw [Call_run (af := a_i_isHash) rfl]
  unfold i_isHash at h
  simp +decide only [a_i_isHash, b_i_isHash, go_sem, reduceIte, Nat.reduceAdd]
  all_goals exact go
noncomputable def i_SourceOK (s : Source) : Option (Bool) :=
  br (decide (((s.Script.length : Nat) : Int) ≤ (64 : Int))) (
    (i_are_i_Ext_ExtOK s.Script).bind fun r_ =>
    br r_ (
      (i_isHash s.State).bind fun r_2 =>
      br r_2 (
        (i_in s.At (0 : Int) (1000000 : Int)).bind fun r_3 =>
        br r_3 (
          (i_in s.Count (0 : Int) (1000000 : Int)).bind fun r_4 =>
          some r_4) (
          some false)) (
        some false)) (
      some false)) (
    some false)
theorem i_SourceOK_c {s r} (h : i_SourceOK s = some r) : Call tab ow 90 [.agg [sl eExt s.Script, I s.At, S s.State, I s.Count]] [] = some (B r, []) := by
  rw [Call_run (af := a_i_SourceOK) rfl]
  unfold i_SourceOK at h
  simp +decide only [a_i_SourceOK, b_i_SourceOK, go_sem, reduceIte, Nat.reduceAdd]
  have d1 := @i_are_i_Ext_ExtOK_c
  have d2 := @i_isHash_c
  have d3 := @i_in_c
  all_goals exact go
noncomputable def i_Source_left (s : Source) : Option (Int) :=
  some (IntKind.wrap .i64 ((1000000 : Int) - (mx s.At s.Count)))
theorem i_Source_left_c {s r} (h : i_Source_left s = some r) : Call tab ow 91 [.agg [sl eExt s.Script, I s.At, S s.State, I s.Count]] [] = some (I r, []) := by
  rw [Call_run (af := a_i_Source_left) rfl]
  unfold i_Source_left at h
  simp +decide only [a_i_Source_left, b_i_Source_left, go_sem, reduceIte, Nat.reduceAdd]
  all_goals exact go
def slices_Clone_Li_Ext_i_Ext (l : List Ext) : Option (List Ext) := br (fits l.length 16) (some l) none
theorem slices_Clone_Li_Ext_i_Ext_x (x : Ext) (l : List Ext) (hf : fits (x :: l).length 16 = true) : Call (oneT 159 a_slices_Clone_Li_Ext_i_Ext) noOw 159 [sl eExt (x :: l)] [] = some (.sl 0 0 (x :: l).length, [⟨2, false, rws eExt (x :: l)⟩]) := by
  rw [Call_run (af := a_slices_Clone_Li_Ext_i_Ext) (oneT_self _ _)]
  rw [List.length_cons] at hf
  simp +decide only [a_slices_Clone_Li_Ext_i_Ext, b_slices_Clone_Li_Ext_i_Ext, fun k => mk0 eExt k, inS_cons, go_sem, reduceIte, Nat.reduceAdd, hf]
theorem slices_Clone_Li_Ext_i_Ext_c {l r : List Ext} (h : slices_Clone_Li_Ext_i_Ext l = some r) : Call tab ow 159 [sl eExt l] [] = some (.sl 0 0 r.length, [⟨2, false, rws eExt r⟩]) := by
  unfold slices_Clone_Li_Ext_i_Ext at h
  obtain ⟨hb, h⟩ := brg h
  cases h
  rw [Call_ext (g := cloneO 159 a_slices_Clone_Li_Ext_i_Ext 2) rfl]
  cases l with
  | nil => rfl
  | cons x l => exact slices_Clone_Li_Ext_i_Ext_x x l hb
noncomputable def i_Source_copied (s : Source) : Option (Source) :=
  (slices_Clone_Li_Ext_i_Ext s.Script).bind fun r_ =>
  some (Source.mk r_ s.At s.State s.Count)
theorem i_Source_copied_c {s r} (h : i_Source_copied s = some r) : Call tab ow 65 [.agg [sl eExt s.Script, I s.At, S s.State, I s.Count]] [] = some (.agg [sl eExt r.Script, I r.At, S r.State, I r.Count], []) := by
  rw [Call_run (af := a_i_Source_copied) rfl]
  unfold i_Source_copied at h
  simp +decide only [a_i_Source_copied, b_i_Source_copied, go_sem, reduceIte, Nat.reduceAdd]
  have d1 := @slices_Clone_Li_Ext_i_Ext_c
  all_goals exact go
section
theorem i_four_o_k0 : mkR 2012 [] = rws eU8 [] := rfl
attribute [local go_sem] i_four_o_k0
noncomputable def i_four_o (n : Int) (l : List UInt8) : Option ((List UInt8)) :=
  br (fits ((l ++ ([(UInt8.ofInt (shr64 .i64 n (24 : Int))), (UInt8.ofInt (shr64 .i64 n (16 : Int))), (UInt8.ofInt (shr64 .i64 n (8 : Int))), (UInt8.ofInt n)] : List UInt8)).length) 1) (
    some (l ++ ([(UInt8.ofInt (shr64 .i64 n (24 : Int))), (UInt8.ofInt (shr64 .i64 n (16 : Int))), (UInt8.ofInt (shr64 .i64 n (8 : Int))), (UInt8.ofInt n)] : List UInt8))) (
    none)
theorem i_four_o_c {n l r} (h : i_four_o n l = some r) : Call tab ow 161 [.sl 0 0 l.length, I n] [⟨1, false, rws eU8 l⟩] = some (.sl 0 0 r.length, [⟨1, false, rws eU8 r⟩]) := by
  rw [Call_run (af := a_i_four) rfl]
  unfold i_four_o at h
  simp +decide only [a_i_four, b_i_four, go_sem, reduceIte, Nat.reduceAdd]
  all_goals exact go
end
noncomputable def i_lanesOf_1_s (m : List Int) (t : List UInt8) (t2 : Int) : (List Int) × Int → Option (((List Int) × Int) ⊕ (((List Int) × Int × Bool)))
  | (m2, t3) =>
    br (decide (t3 < t2)) (
      (atL t t3).bind fun x =>
      br (decide (0 ≤ (IntKind.wrap .i64 (t3.tdiv (8 : Int)))) && decide ((IntKind.wrap .i64 (t3.tdiv (8 : Int))).toNat < 25)) (
        (m2[(IntKind.wrap .i64 (t3.tdiv (8 : Int))).toNat]?).bind fun x2 =>
        br (decide (0 ≤ (IntKind.wrap .i64 ((8 : Int) * (t3.tmod (8 : Int)))))) (
          br (decide (0 ≤ (IntKind.wrap .i64 (t3.tdiv (8 : Int)))) && decide ((IntKind.wrap .i64 (t3.tdiv (8 : Int))).toNat < 25)) (
            br (decide ((IntKind.wrap .i64 (t3.tdiv (8 : Int))).toNat < m2.length)) (
              some (.inl ((m2.set ((IntKind.wrap .i64 (t3.tdiv (8 : Int))).toNat) (or64 .u64 x2 (shl64 .u64 (IntKind.wrap .u64 (x.toNat : Int)) (IntKind.wrap .i64 ((8 : Int) * (t3.tmod (8 : Int))))))), (IntKind.wrap .i64 (t3 + (1 : Int)))))) (
              none)) (
            none)) (
          none)) (
        none)) (
      some (.inr (m2, t3, decide (t3 < t2))))
@[reducible] def i_lanesOf_1_S (m : List Int) (t : List UInt8) (t2 : Int) (s : (List Int) × Int) : St := ⟨[(2, .ptr 1000 0 0 1), (3, .ptr 2001 0 0 1), (7, sl eU8 t), (8, I t2), (9, I s.2)], [(1000, ⟨25, true, [ar .u64 m]⟩), (2001, ⟨25, true, [ar .u64 s.1]⟩)]⟩
@[reducible] def i_lanesOf_1_E (m : List Int) (t : List UInt8) (t2 : Int) : ((List Int) × Int × Bool) → AExit × St := fun e => (.exit 0, ⟨[(2, .ptr 1000 0 0 1), (3, .ptr 2001 0 0 1), (7, sl eU8 t), (8, I t2), (9, I e.2.1), (10, B e.2.2)], [(1000, ⟨25, true, [ar .u64 m]⟩), (2001, ⟨25, true, [ar .u64 e.1]⟩)]⟩)
theorem i_lanesOf_1_l {m t t2 s e} (h : Loop (i_lanesOf_1_s m t t2) s = some e) : LoopX tab ow (.close []) b_i_lanesOf_3 (i_lanesOf_1_S m t t2 s) = some (i_lanesOf_1_E m t t2 e) := by
  refine lrG (fun s o h => ?_) h
  obtain ⟨_, _⟩ := s
  simp only [i_lanesOf_1_s] at h
  simp +decide only [i_lanesOf_1_S, i_lanesOf_1_E, b_i_lanesOf_3, go_sem, reduceIte, Nat.reduceAdd]
  all_goals exact go
noncomputable def i_lanesOf (state : (List UInt8)) : Option ((List Int)) :=
  (Loop (i_lanesOf_1_s (nZ 25) state ((state.length : Nat) : Int)) ((nZ 25), (0 : Int))).bind fun e_ =>
  br (decide (e_.1.length = 25)) (
    br (decide (e_.1.length = 25)) (
      br (decide (e_.1.length = 25)) (
        some e_.1) (
        none)) (
      none)) (
    none)
theorem i_lanesOf_c {state r} (h : i_lanesOf state = some r) : Call tab ow 244 [sl eU8 state] [] = some (.agg (ar .u64 r), []) := by
  rw [Call_run (af := a_i_lanesOf) rfl]
  unfold i_lanesOf at h
  simp +decide only [a_i_lanesOf, b_i_lanesOf, go_sem, reduceIte, Nat.reduceAdd]
  have d1 := @i_lanesOf_1_l
  all_goals exact go
noncomputable def math_bits_RotateLeft64 (x : Int) (k : Int) : Option (Int) :=
  br (decide (0 ≤ (and64 .u64 (IntKind.wrap .u64 k) (63 : Int)))) (
    br (decide (0 ≤ (IntKind.wrap .u64 ((64 : Int) - (and64 .u64 (IntKind.wrap .u64 k) (63 : Int)))))) (
      some (or64 .u64 (shl64 .u64 x (and64 .u64 (IntKind.wrap .u64 k) (63 : Int))) (shr64 .u64 x (IntKind.wrap .u64 ((64 : Int) - (and64 .u64 (IntKind.wrap .u64 k) (63 : Int))))))) (
      none)) (
    none)
theorem math_bits_RotateLeft64_c {x k r} (h : math_bits_RotateLeft64 x k = some r) : Call tab ow 290 [.lit (.int .u64 x), I k] [] = some (.lit (.int .u64 r), []) := by
  rw [Call_run (af := a_math_bits_RotateLeft64) rfl]
  unfold math_bits_RotateLeft64 at h
  simp +decide only [a_math_bits_RotateLeft64, b_math_bits_RotateLeft64, go_sem, reduceIte, Nat.reduceAdd]
  all_goals exact go
noncomputable def i_lanes_permute_2_s (m5 : List Int) (m6 : List Int) (m7 : List Int) (m9 : List Int) (t3 : Int) (t4 : List Int) (t5 : Int) : (List Int) × Int → Option (((List Int) × Int) ⊕ (((List Int) × Int × Bool)))
  | (m8, t6) =>
    br (decide (t6 < (25 : Int))) (
      br (decide (0 ≤ t6) && decide (t6.toNat < 25)) (
        (m5[t6.toNat]?).bind fun x2 =>
        br (decide (0 ≤ (t6.tmod (5 : Int))) && decide ((t6.tmod (5 : Int)).toNat < 5)) (
          (m8[(t6.tmod (5 : Int)).toNat]?).bind fun x3 =>
          br (decide (0 ≤ (t6.tmod (5 : Int))) && decide ((t6.tmod (5 : Int)).toNat < 5)) (
            br (decide ((t6.tmod (5 : Int)).toNat < m8.length)) (
              some (.inl ((m8.set ((t6.tmod (5 : Int)).toNat) (xor64 .u64 x3 x2)), (IntKind.wrap .i64 (t6 + (1 : Int)))))) (
              none)) (
            none)) (
          none)) (
        none)) (
      some (.inr (m8, t6, decide (t6 < (25 : Int)))))
@[reducible] def i_lanes_permute_2_S (m5 : List Int) (m6 : List Int) (m7 : List Int) (m9 : List Int) (t3 : Int) (t4 : List Int) (t5 : Int) (s : (List Int) × Int) : St := ⟨[(0, .ptr 0 0 0 1), (2, .ptr 1001 0 0 1), (5, .lit (.int .u64 t3)), (6, .ptr 6002 0 0 1), (7, .ptr 6003 0 0 1), (20, .agg (ar .u64 t4)), (21, I t5), (26, .ptr 0 0 0 1), (27, I s.2)], [(0, ⟨25, true, [ar .u64 m5]⟩), (1001, ⟨25, true, [ar .i64 m6]⟩), (2001, ⟨24, true, [ar .u64 m7]⟩), (6002, ⟨5, true, [ar .u64 s.1]⟩), (6003, ⟨25, true, [ar .u64 m9]⟩)]⟩
@[reducible] def i_lanes_permute_2_E (m5 : List Int) (m6 : List Int) (m7 : List Int) (m9 : List Int) (t3 : Int) (t4 : List Int) (t5 : Int) : ((List Int) × Int × Bool) → AExit × St := fun e => (.exit 2, ⟨[(0, .ptr 0 0 0 1), (2, .ptr 1001 0 0 1), (5, .lit (.int .u64 t3)), (6, .ptr 6002 0 0 1), (7, .ptr 6003 0 0 1), (20, .agg (ar .u64 t4)), (21, I t5), (26, .ptr 0 0 0 1), (27, I e.2.1), (28, B e.2.2)], [(0, ⟨25, true, [ar .u64 m5]⟩), (1001, ⟨25, true, [ar .i64 m6]⟩), (2001, ⟨24, true, [ar .u64 m7]⟩), (6002, ⟨5, true, [ar .u64 e.1]⟩), (6003, ⟨25, true, [ar .u64 m9]⟩)]⟩)
theorem i_lanes_permute_2_l {m5 m6 m7 m9 t3 t4 t5 s e} (h : Loop (i_lanes_permute_2_s m5 m6 m7 m9 t3 t4 t5) s = some e) : LoopX tab ow (.close []) b_i_lanes_permute_7 (i_lanes_permute_2_S m5 m6 m7 m9 t3 t4 t5 s) = some (i_lanes_permute_2_E m5 m6 m7 m9 t3 t4 t5 e) := by
  refine lrG (fun s o h => ?_) h
  obtain ⟨_, _⟩ := s
  simp only [i_lanes_permute_2_s] at h
  simp +decide only [i_lanes_permute_2_S, i_lanes_permute_2_E, b_i_lanes_permute_7, go_sem, reduceIte, Nat.reduceAdd]
  all_goals exact go
noncomputable def i_lanes_permute_3_s (m10 : List Int) (m11 : List Int) (m12 : List Int) (m13 : List Int) (t7 : Int) (t8 : List Int) (t9 : Int) : (List Int) × Int → Option (((List Int) × Int) ⊕ (((List Int) × Int × Bool)))
  | (m14, t10) =>
    br (decide (t10 < (25 : Int))) (
      br (decide (0 ≤ t10) && decide (t10.toNat < 25)) (
        (m10[t10.toNat]?).bind fun x4 =>
        br (decide (0 ≤ ((IntKind.wrap .i64 ((t10.tmod (5 : Int)) + (4 : Int))).tmod (5 : Int))) && decide (((IntKind.wrap .i64 ((t10.tmod (5 : Int)) + (4 : Int))).tmod (5 : Int)).toNat < 5)) (
          (m13[((IntKind.wrap .i64 ((t10.tmod (5 : Int)) + (4 : Int))).tmod (5 : Int)).toNat]?).bind fun x5 =>
          br (decide (0 ≤ ((IntKind.wrap .i64 ((t10.tmod (5 : Int)) + (1 : Int))).tmod (5 : Int))) && decide (((IntKind.wrap .i64 ((t10.tmod (5 : Int)) + (1 : Int))).tmod (5 : Int)).toNat < 5)) (
            (m13[((IntKind.wrap .i64 ((t10.tmod (5 : Int)) + (1 : Int))).tmod (5 : Int)).toNat]?).bind fun x6 =>
            (math_bits_RotateLeft64 x6 (1 : Int)).bind fun r_ =>
            br (decide (0 ≤ t10) && decide (t10.toNat < 25)) (
              (m11[t10.toNat]?).bind fun x7 =>
              (math_bits_RotateLeft64 (xor64 .u64 x4 (xor64 .u64 x5 r_)) x7).bind fun r_2 =>
              br (decide (0 ≤ (IntKind.wrap .i64 ((IntKind.wrap .i64 (t10.tdiv (5 : Int))) + (IntKind.wrap .i64 ((5 : Int) * ((IntKind.wrap .i64 ((IntKind.wrap .i64 ((2 : Int) * (t10.tmod (5 : Int)))) + (IntKind.wrap .i64 ((3 : Int) * (IntKind.wrap .i64 (t10.tdiv (5 : Int))))))).tmod (5 : Int))))))) && decide ((IntKind.wrap .i64 ((IntKind.wrap .i64 (t10.tdiv (5 : Int))) + (IntKind.wrap .i64 ((5 : Int) * ((IntKind.wrap .i64 ((IntKind.wrap .i64 ((2 : Int) * (t10.tmod (5 : Int)))) + (IntKind.wrap .i64 ((3 : Int) * (IntKind.wrap .i64 (t10.tdiv (5 : Int))))))).tmod (5 : Int)))))).toNat < 25)) (
                br (decide ((IntKind.wrap .i64 ((IntKind.wrap .i64 (t10.tdiv (5 : Int))) + (IntKind.wrap .i64 ((5 : Int) * ((IntKind.wrap .i64 ((IntKind.wrap .i64 ((2 : Int) * (t10.tmod (5 : Int)))) + (IntKind.wrap .i64 ((3 : Int) * (IntKind.wrap .i64 (t10.tdiv (5 : Int))))))).tmod (5 : Int)))))).toNat < m14.length)) (
                  some (.inl ((m14.set ((IntKind.wrap .i64 ((IntKind.wrap .i64 (t10.tdiv (5 : Int))) + (IntKind.wrap .i64 ((5 : Int) * ((IntKind.wrap .i64 ((IntKind.wrap .i64 ((2 : Int) * (t10.tmod (5 : Int)))) + (IntKind.wrap .i64 ((3 : Int) * (IntKind.wrap .i64 (t10.tdiv (5 : Int))))))).tmod (5 : Int)))))).toNat) r_2), (IntKind.wrap .i64 (t10 + (1 : Int)))))) (
                  none)) (
                none)) (
              none)) (
            none)) (
          none)) (
        none)) (
      some (.inr (m14, t10, decide (t10 < (25 : Int)))))
@[reducible] def i_lanes_permute_3_S (m10 : List Int) (m11 : List Int) (m12 : List Int) (m13 : List Int) (t7 : Int) (t8 : List Int) (t9 : Int) (s : (List Int) × Int) : St := ⟨[(0, .ptr 0 0 0 1), (2, .ptr 1001 0 0 1), (5, .lit (.int .u64 t7)), (6, .ptr 6002 0 0 1), (7, .ptr 6003 0 0 1), (20, .agg (ar .u64 t8)), (21, I t9), (41, .ptr 0 0 0 1), (42, I s.2)], [(0, ⟨25, true, [ar .u64 m10]⟩), (1001, ⟨25, true, [ar .i64 m11]⟩), (2001, ⟨24, true, [ar .u64 m12]⟩), (6002, ⟨5, true, [ar .u64 m13]⟩), (6003, ⟨25, true, [ar .u64 s.1]⟩)]⟩
@[reducible] def i_lanes_permute_3_E (m10 : List Int) (m11 : List Int) (m12 : List Int) (m13 : List Int) (t7 : Int) (t8 : List Int) (t9 : Int) : ((List Int) × Int × Bool) → AExit × St := fun e => (.exit 4, ⟨[(0, .ptr 0 0 0 1), (2, .ptr 1001 0 0 1), (5, .lit (.int .u64 t7)), (6, .ptr 6002 0 0 1), (7, .ptr 6003 0 0 1), (20, .agg (ar .u64 t8)), (21, I t9), (41, .ptr 0 0 0 1), (42, I e.2.1), (43, B e.2.2)], [(0, ⟨25, true, [ar .u64 m10]⟩), (1001, ⟨25, true, [ar .i64 m11]⟩), (2001, ⟨24, true, [ar .u64 m12]⟩), (6002, ⟨5, true, [ar .u64 m13]⟩), (6003, ⟨25, true, [ar .u64 e.1]⟩)]⟩)
theorem i_lanes_permute_3_l {m10 m11 m12 m13 t7 t8 t9 s e} (h : Loop (i_lanes_permute_3_s m10 m11 m12 m13 t7 t8 t9) s = some e) : LoopX tab ow (.close [16011,17013]) b_i_lanes_permute_12 (i_lanes_permute_3_S m10 m11 m12 m13 t7 t8 t9 s) = some (i_lanes_permute_3_E m10 m11 m12 m13 t7 t8 t9 e) := by
  refine lrG (fun s o h => ?_) h
  obtain ⟨_, _⟩ := s
  simp only [i_lanes_permute_3_s] at h
  simp +decide only [i_lanes_permute_3_S, i_lanes_permute_3_E, b_i_lanes_permute_12, go_sem, reduceIte, Nat.reduceAdd]
  have d1 := @math_bits_RotateLeft64_c
  all_goals exact go
noncomputable def i_lanes_permute_4_s (m16 : List Int) (m17 : List Int) (m18 : List Int) (m19 : List Int) (t11 : Int) (t12 : List Int) (t13 : Int) (t14 : List Int) : (List Int) × Int → Option (((List Int) × Int) ⊕ (((List Int) × Int × Bool)))
  | (m15, t15) =>
    br (decide (t15 < (25 : Int))) (
      br (decide (0 ≤ t15) && decide (t15.toNat < 25)) (
        (t14[t15.toNat]?).bind fun x8 =>
        br (decide (0 ≤ (IntKind.wrap .i64 ((IntKind.wrap .i64 (t15 - (t15.tmod (5 : Int)))) + ((IntKind.wrap .i64 ((t15.tmod (5 : Int)) + (2 : Int))).tmod (5 : Int))))) && decide ((IntKind.wrap .i64 ((IntKind.wrap .i64 (t15 - (t15.tmod (5 : Int)))) + ((IntKind.wrap .i64 ((t15.tmod (5 : Int)) + (2 : Int))).tmod (5 : Int)))).toNat < 25)) (
          (m19[(IntKind.wrap .i64 ((IntKind.wrap .i64 (t15 - (t15.tmod (5 : Int)))) + ((IntKind.wrap .i64 ((t15.tmod (5 : Int)) + (2 : Int))).tmod (5 : Int)))).toNat]?).bind fun x9 =>
          br (decide (0 ≤ (IntKind.wrap .i64 ((IntKind.wrap .i64 (t15 - (t15.tmod (5 : Int)))) + ((IntKind.wrap .i64 ((t15.tmod (5 : Int)) + (1 : Int))).tmod (5 : Int))))) && decide ((IntKind.wrap .i64 ((IntKind.wrap .i64 (t15 - (t15.tmod (5 : Int)))) + ((IntKind.wrap .i64 ((t15.tmod (5 : Int)) + (1 : Int))).tmod (5 : Int)))).toNat < 25)) (
            (m19[(IntKind.wrap .i64 ((IntKind.wrap .i64 (t15 - (t15.tmod (5 : Int)))) + ((IntKind.wrap .i64 ((t15.tmod (5 : Int)) + (1 : Int))).tmod (5 : Int)))).toNat]?).bind fun x10 =>
            br (decide (0 ≤ t15) && decide (t15.toNat < 25)) (
              br (decide (t15.toNat < m15.length)) (
                some (.inl ((m15.set t15.toNat (xor64 .u64 x8 (andn64 .u64 x9 x10))), (IntKind.wrap .i64 (t15 + (1 : Int)))))) (
                none)) (
              none)) (
            none)) (
          none)) (
        none)) (
      some (.inr (m15, t15, decide (t15 < (25 : Int)))))
@[reducible] def i_lanes_permute_4_S (m16 : List Int) (m17 : List Int) (m18 : List Int) (m19 : List Int) (t11 : Int) (t12 : List Int) (t13 : Int) (t14 : List Int) (s : (List Int) × Int) : St := ⟨[(0, .ptr 0 0 0 1), (2, .ptr 1001 0 0 1), (5, .lit (.int .u64 t11)), (7, .ptr 6003 0 0 1), (20, .agg (ar .u64 t12)), (21, I t13), (82, .agg (ar .u64 t14)), (83, I s.2)], [(0, ⟨25, true, [ar .u64 s.1]⟩), (1001, ⟨25, true, [ar .i64 m16]⟩), (2001, ⟨24, true, [ar .u64 m17]⟩), (6002, ⟨5, true, [ar .u64 m18]⟩), (6003, ⟨25, true, [ar .u64 m19]⟩)]⟩
@[reducible] def i_lanes_permute_4_E (m16 : List Int) (m17 : List Int) (m18 : List Int) (m19 : List Int) (t11 : Int) (t12 : List Int) (t13 : Int) (t14 : List Int) : ((List Int) × Int × Bool) → AExit × St := fun e => (.exit 6, ⟨[(0, .ptr 0 0 0 1), (2, .ptr 1001 0 0 1), (5, .lit (.int .u64 t11)), (7, .ptr 6003 0 0 1), (20, .agg (ar .u64 t12)), (21, I t13), (82, .agg (ar .u64 t14)), (83, I e.2.1), (84, B e.2.2)], [(0, ⟨25, true, [ar .u64 e.1]⟩), (1001, ⟨25, true, [ar .i64 m16]⟩), (2001, ⟨24, true, [ar .u64 m17]⟩), (6002, ⟨5, true, [ar .u64 m18]⟩), (6003, ⟨25, true, [ar .u64 m19]⟩)]⟩)
theorem i_lanes_permute_4_l {m16 m17 m18 m19 t11 t12 t13 t14 s e} (h : Loop (i_lanes_permute_4_s m16 m17 m18 m19 t11 t12 t13 t14) s = some e) : LoopX tab ow (.close []) b_i_lanes_permute_19 (i_lanes_permute_4_S m16 m17 m18 m19 t11 t12 t13 t14 s) = some (i_lanes_permute_4_E m16 m17 m18 m19 t11 t12 t13 t14 e) := by
  refine lrG (fun s o h => ?_) h
  obtain ⟨_, _⟩ := s
  simp only [i_lanes_permute_4_s] at h
  simp +decide only [i_lanes_permute_4_S, i_lanes_permute_4_E, b_i_lanes_permute_19, go_sem, reduceIte, Nat.reduceAdd]
  all_goals exact go
noncomputable def i_lanes_permute_1_s (m3 : List Int) (m4 : List Int) (t : List Int) : (List Int) × Int → Option (((List Int) × Int) ⊕ (((List Int) × Int × Bool)))
  | (m2, t2) =>
    br (decide (t2 < (24 : Int))) (
      br (decide (0 ≤ t2) && decide (t2.toNat < 24)) (
        (t[t2.toNat]?).bind fun x =>
        (Loop (i_lanes_permute_2_s m2 m3 m4 (nZ 25) x t t2) ((nZ 5), (0 : Int))).bind fun e_ =>
        (Loop (i_lanes_permute_3_s m2 m3 m4 e_.1 x t t2) ((nZ 25), (0 : Int))).bind fun e_2 =>
        br (decide (e_2.1.length = 25)) (
          (Loop (i_lanes_permute_4_s m3 m4 e_.1 e_2.1 x t t2 e_2.1) (m2, (0 : Int))).bind fun e_3 =>
          (e_3.1[0]?).bind fun x11 =>
          br (decide (0 < e_3.1.length)) (
            some (.inl ((e_3.1.set 0 (xor64 .u64 x11 x)), (IntKind.wrap .i64 (t2 + (1 : Int)))))) (
            none)) (
          none)) (
        none)) (
      some (.inr (m2, t2, decide (t2 < (24 : Int)))))
@[reducible] def i_lanes_permute_1_S (m3 : List Int) (m4 : List Int) (t : List Int) (s : (List Int) × Int) : St := ⟨[(0, .ptr 0 0 0 1), (2, .ptr 1001 0 0 1), (20, .agg (ar .u64 t)), (21, I s.2)], [(0, ⟨25, true, [ar .u64 s.1]⟩), (1001, ⟨25, true, [ar .i64 m3]⟩), (2001, ⟨24, true, [ar .u64 m4]⟩)]⟩
@[reducible] def i_lanes_permute_1_E (m3 : List Int) (m4 : List Int) (t : List Int) : ((List Int) × Int × Bool) → AExit × St := fun e => (.exit 0, ⟨[(0, .ptr 0 0 0 1), (2, .ptr 1001 0 0 1), (20, .agg (ar .u64 t)), (21, I e.2.1), (22, B e.2.2)], [(0, ⟨25, true, [ar .u64 e.1]⟩), (1001, ⟨25, true, [ar .i64 m3]⟩), (2001, ⟨24, true, [ar .u64 m4]⟩)]⟩)
theorem i_lanes_permute_1_l {m3 m4 t s e} (h : Loop (i_lanes_permute_1_s m3 m4 t) s = some e) : LoopX tab ow (.close [6002,6003,16011,17013]) b_i_lanes_permute_3 (i_lanes_permute_1_S m3 m4 t s) = some (i_lanes_permute_1_E m3 m4 t e) := by
  refine lrG (fun s o h => ?_) h
  obtain ⟨_, _⟩ := s
  simp only [i_lanes_permute_1_s] at h
  simp +decide only [i_lanes_permute_1_S, i_lanes_permute_1_E, b_i_lanes_permute_3, go_sem, reduceIte, Nat.reduceAdd]
  have d1 := @i_lanes_permute_2_l
  have d2 := @i_lanes_permute_3_l
  have d3 := @i_lanes_permute_4_l
  all_goals exact go
noncomputable def i_lanes_permute (m : List Int) : Option ((List Int)) :=
  (Loop (i_lanes_permute_1_s ([0, 1, 62, 28, 27, 36, 44, 6, 55, 20, 3, 10, 43, 25, 39, 41, 45, 15, 21, 8, 18, 2, 61, 56, 14] : List Int) ([1, 32898, 9223372036854808714, 9223372039002292224, 32907, 2147483649, 9223372039002292353, 9223372036854808585, 138, 136, 2147516425, 2147483658, 2147516555, 9223372036854775947, 9223372036854808713, 9223372036854808579, 9223372036854808578, 9223372036854775936, 32778, 9223372039002259466, 9223372039002292353, 9223372036854808704, 2147483649, 9223372039002292232] : List Int) ([1, 32898, 9223372036854808714, 9223372039002292224, 32907, 2147483649, 9223372039002292353, 9223372036854808585, 138, 136, 2147516425, 2147483658, 2147516555, 9223372036854775947, 9223372036854808713, 9223372036854808579, 9223372036854808578, 9223372036854775936, 32778, 9223372039002259466, 9223372039002292353, 9223372036854808704, 2147483649, 9223372039002292232] : List Int)) (m, (0 : Int))).bind fun e_4 =>
  some e_4.1
theorem i_lanes_permute_c {m r} (h : i_lanes_permute m = some r) : Call tab ow 245 [.ptr 0 0 0 1] [⟨25, true, [ar .u64 m]⟩] = some (.tup [], [⟨25, true, [ar .u64 r]⟩]) := by
  rw [Call_run (af := a_i_lanes_permute) rfl]
  unfold i_lanes_permute at h
  simp +decide only [a_i_lanes_permute, b_i_lanes_permute, go_sem, reduceIte, Nat.reduceAdd]
  have d1 := @i_lanes_permute_1_l
  all_goals exact go
section
theorem i_lanes_text_k0 : mkR 2000 [] = rws eU8 [] := rfl
attribute [local go_sem] i_lanes_text_k0
theorem i_lanes_text_k1 : mkR 6012 [] = rws eU8 [] := rfl
attribute [local go_sem] i_lanes_text_k1
noncomputable def i_lanes_text_1_s (m2 : List Int) : (List UInt8) × Int → Option (((List UInt8) × Int) ⊕ (((List UInt8) × Int × Bool)))
  | (l, t) =>
    br (decide (t < (200 : Int))) (
      br (decide (0 ≤ (IntKind.wrap .i64 (t.tdiv (8 : Int)))) && decide ((IntKind.wrap .i64 (t.tdiv (8 : Int))).toNat < 25)) (
        (m2[(IntKind.wrap .i64 (t.tdiv (8 : Int))).toNat]?).bind fun x =>
        br (decide (0 ≤ (IntKind.wrap .i64 ((8 : Int) * (t.tmod (8 : Int)))))) (
          br (fits ((l ++ ([(UInt8.ofInt (shr64 .u64 x (IntKind.wrap .i64 ((8 : Int) * (t.tmod (8 : Int))))))] : List UInt8)).length) 1) (
            some (.inl ((l ++ ([(UInt8.ofInt (shr64 .u64 x (IntKind.wrap .i64 ((8 : Int) * (t.tmod (8 : Int))))))] : List UInt8)), (IntKind.wrap .i64 (t + (1 : Int)))))) (
            none)) (
          none)) (
        none)) (
      some (.inr (l, t, decide (t < (200 : Int)))))
@[reducible] def i_lanes_text_1_S (m2 : List Int) (s : (List UInt8) × Int) : St := ⟨[(0, .ptr 0 0 0 1), (3, .sl 2000 0 s.1.length), (6, I s.2)], [(0, ⟨25, true, [ar .u64 m2]⟩), (2000, ⟨1, false, rws eU8 s.1⟩)]⟩
@[reducible] def i_lanes_text_1_E (m2 : List Int) : ((List UInt8) × Int × Bool) → AExit × St := fun e => (.exit 0, ⟨[(0, .ptr 0 0 0 1), (3, .sl 2000 0 e.1.length), (6, I e.2.1), (7, B e.2.2)], [(0, ⟨25, true, [ar .u64 m2]⟩), (2000, ⟨1, false, rws eU8 e.1⟩)]⟩)
theorem i_lanes_text_1_l {m2 s e} (h : Loop (i_lanes_text_1_s m2) s = some e) : LoopX tab ow (.close [6012,6013]) b_i_lanes_text_3 (i_lanes_text_1_S m2 s) = some (i_lanes_text_1_E m2 e) := by
  refine lrG (fun s o h => ?_) h
  obtain ⟨_, _⟩ := s
  simp only [i_lanes_text_1_s] at h
  simp +decide only [i_lanes_text_1_S, i_lanes_text_1_E, b_i_lanes_text_3, go_sem, reduceIte, Nat.reduceAdd]
  all_goals exact go
noncomputable def i_lanes_text (m : List Int) : Option ((List UInt8) × (List Int)) :=
  (Loop (i_lanes_text_1_s m) (([] : List UInt8), (0 : Int))).bind fun e_ =>
  some (e_.1, m)
theorem i_lanes_text_c {m r} (h : i_lanes_text m = some r) : Call tab ow 246 [.ptr 0 0 0 1] [⟨25, true, [ar .u64 m]⟩] = some (sl eU8 r.1, [⟨25, true, [ar .u64 r.2]⟩]) := by
  rw [Call_run (af := a_i_lanes_text) rfl]
  unfold i_lanes_text at h
  simp +decide only [a_i_lanes_text, b_i_lanes_text, go_sem, reduceIte, Nat.reduceAdd]
  have d1 := @i_lanes_text_1_l
  all_goals exact go
end
section
theorem i_keccak_k0 : mkR 2000 [] = rws eU8 [] := rfl
attribute [local go_sem] i_keccak_k0
theorem i_keccak_k1 : mkR 8001 [] = rws eU8 [] := rfl
attribute [local go_sem] i_keccak_k1
theorem i_keccak_k2 : mkR 10001 [] = rws eU8 [] := rfl
attribute [local go_sem] i_keccak_k2
noncomputable def i_keccak_1_s (t : List (List UInt8)) (t2 : Int) : (List UInt8) × Int → Option (((List UInt8) × Int) ⊕ (((List UInt8) × Int × Bool)))
  | (l, t3) =>
    br (decide (t3 < t2)) (
      (atL t t3).bind fun x =>
      br (fits ((l ++ x).length) 1) (
        some (.inl ((l ++ x), (IntKind.wrap .i64 (t3 + (1 : Int)))))) (
        none)) (
      some (.inr (l, t3, decide (t3 < t2))))
@[reducible] def i_keccak_1_S (t : List (List UInt8)) (t2 : Int) (s : (List UInt8) × Int) : St := ⟨[(3, .sl 2000 0 s.1.length), (10, sl (eL eU8) t), (11, I t2), (12, I s.2)], [(2000, ⟨1, false, rws eU8 s.1⟩)]⟩
@[reducible] def i_keccak_1_E (t : List (List UInt8)) (t2 : Int) : ((List UInt8) × Int × Bool) → AExit × St := fun e => (.exit 0, ⟨[(3, .sl 2000 0 e.1.length), (10, sl (eL eU8) t), (11, I t2), (12, I e.2.1), (13, B e.2.2)], [(2000, ⟨1, false, rws eU8 e.1⟩)]⟩)
theorem i_keccak_1_l {t t2 s e} (h : Loop (i_keccak_1_s t t2) s = some e) : LoopX tab ow (.close [6002]) b_i_keccak_3 (i_keccak_1_S t t2 s) = some (i_keccak_1_E t t2 e) := by
  refine lrG (fun s o h => ?_) h
  obtain ⟨_, _⟩ := s
  simp only [i_keccak_1_s] at h
  simp +decide only [i_keccak_1_S, i_keccak_1_E, b_i_keccak_3, go_sem, reduceIte, Nat.reduceAdd]
  all_goals exact go
noncomputable def i_keccak_2_s (l3 : List UInt8) : (List UInt8) → Option (((List UInt8)) ⊕ (((List UInt8) × Bool)))
  | l2 =>
    br ((((l2.length : Nat) : Int).tmod (136 : Int)) != (0 : Int)) (
      br (fits ((l2 ++ ([(0 : UInt8)] : List UInt8)).length) 1) (
        some (.inl (l2 ++ ([(0 : UInt8)] : List UInt8)))) (
        none)) (
      some (.inr (l2, ((((l2.length : Nat) : Int).tmod (136 : Int)) != (0 : Int)))))
@[reducible] def i_keccak_2_S (l3 : List UInt8) (s : (List UInt8)) : St := ⟨[(3, .sl 2000 0 s.length)], [(2000, ⟨1, false, rws eU8 s⟩), (8001, ⟨1, false, rws eU8 l3⟩)]⟩
@[reducible] def i_keccak_2_E (l3 : List UInt8) : ((List UInt8) × Bool) → AExit × St := fun e => (.exit 2, ⟨[(3, .sl 2000 0 e.1.length), (26, B e.2)], [(2000, ⟨1, false, rws eU8 e.1⟩), (8001, ⟨1, false, rws eU8 l3⟩)]⟩)
theorem i_keccak_2_l {l3 s e} (h : Loop (i_keccak_2_s l3) s = some e) : LoopX tab ow (.close [10001,10002]) b_i_keccak_8 (i_keccak_2_S l3 s) = some (i_keccak_2_E l3 e) := by
  refine lrG (fun s o h => ?_) h
  simp only [i_keccak_2_s] at h
  simp +decide only [i_keccak_2_S, i_keccak_2_E, b_i_keccak_8, go_sem, reduceIte, Nat.reduceAdd]
  all_goals exact go
noncomputable def i_keccak_4_s (l5 : List UInt8) (all2 : List UInt8) (t4 : List Int) : (List Int) × Int → Option (((List Int) × Int) ⊕ (((List Int) × Int × Bool)))
  | (m2, t5) =>
    br (decide (t5 < (25 : Int))) (
      br (decide (0 ≤ t5) && decide (t5.toNat < 25)) (
        (t4[t5.toNat]?).bind fun x4 =>
        br (decide (0 ≤ t5) && decide (t5.toNat < 25)) (
          (m2[t5.toNat]?).bind fun x5 =>
          br (decide (0 ≤ t5) && decide (t5.toNat < 25)) (
            br (decide (t5.toNat < m2.length)) (
              some (.inl ((m2.set t5.toNat (xor64 .u64 x5 x4)), (IntKind.wrap .i64 (t5 + (1 : Int)))))) (
              none)) (
            none)) (
          none)) (
        none)) (
      some (.inr (m2, t5, decide (t5 < (25 : Int)))))
@[reducible] def i_keccak_4_S (l5 : List UInt8) (all2 : List UInt8) (t4 : List Int) (s : (List Int) × Int) : St := ⟨[(3, sl eU8 all2), (6, .ptr 12001 0 0 1), (46, .agg (ar .u64 t4)), (47, I s.2)], [(8001, ⟨1, false, rws eU8 l5⟩), (12001, ⟨25, true, [ar .u64 s.1]⟩)]⟩
@[reducible] def i_keccak_4_E (l5 : List UInt8) (all2 : List UInt8) (t4 : List Int) : ((List Int) × Int × Bool) → AExit × St := fun e => (.exit 6, ⟨[(3, sl eU8 all2), (6, .ptr 12001 0 0 1), (46, .agg (ar .u64 t4)), (47, I e.2.1), (48, B e.2.2)], [(8001, ⟨1, false, rws eU8 l5⟩), (12001, ⟨25, true, [ar .u64 e.1]⟩)]⟩)
theorem i_keccak_4_l {l5 all2 t4 s e} (h : Loop (i_keccak_4_s l5 all2 t4) s = some e) : LoopX tab ow (.close []) b_i_keccak_15 (i_keccak_4_S l5 all2 t4 s) = some (i_keccak_4_E l5 all2 t4 e) := by
  refine lrG (fun s o h => ?_) h
  obtain ⟨_, _⟩ := s
  simp only [i_keccak_4_s] at h
  simp +decide only [i_keccak_4_S, i_keccak_4_E, b_i_keccak_15, go_sem, reduceIte, Nat.reduceAdd]
  all_goals exact go
noncomputable def i_keccak_3_s (l4 : List UInt8) : (List Int) × (List UInt8) → Option (((List Int) × (List UInt8)) ⊕ (((List Int) × (List UInt8) × Bool)))
  | (m, all) =>
    br (decide (((all.length : Nat) : Int) > (0 : Int))) (
      (subL all (0 : Int) (136 : Int)).bind fun y =>
      (i_lanesOf y).bind fun r_ =>
      (Loop (i_keccak_4_s l4 all r_) (m, (0 : Int))).bind fun e_3 =>
      (i_lanes_permute e_3.1).bind fun r_2 =>
      (subL all (136 : Int) ((all.length : Nat) : Int)).bind fun y2 =>
      some (.inl (r_2, y2))) (
      some (.inr (m, all, decide (((all.length : Nat) : Int) > (0 : Int)))))
@[reducible] def i_keccak_3_S (l4 : List UInt8) (s : (List Int) × (List UInt8)) : St := ⟨[(3, sl eU8 s.2), (6, .ptr 12001 0 0 1)], [(8001, ⟨1, false, rws eU8 l4⟩), (12001, ⟨25, true, [ar .u64 s.1]⟩)]⟩
@[reducible] def i_keccak_3_E (l4 : List UInt8) : ((List Int) × (List UInt8) × Bool) → AExit × St := fun e => (.exit 4, ⟨[(3, sl eU8 e.2.1), (6, .ptr 12001 0 0 1), (41, B e.2.2)], [(8001, ⟨1, false, rws eU8 l4⟩), (12001, ⟨25, true, [ar .u64 e.1]⟩)]⟩)
theorem i_keccak_3_l {l4 s e} (h : Loop (i_keccak_3_s l4) s = some e) : LoopX tab ow (.close [15002,20000,2000]) b_i_keccak_12 (i_keccak_3_S l4 s) = some (i_keccak_3_E l4 e) := by
  refine lrG (fun s o h => ?_) h
  obtain ⟨_, _⟩ := s
  simp only [i_keccak_3_s] at h
  simp +decide only [i_keccak_3_S, i_keccak_3_E, b_i_keccak_12, go_sem, reduceIte, Nat.reduceAdd]
  have d1 := @i_lanesOf_c
  have d2 := @i_keccak_4_l
  have d3 := @i_lanes_permute_c
  all_goals exact go
noncomputable def i_keccak (pieces : (List (List UInt8))) : Option ((List UInt8)) :=
  (Loop (i_keccak_1_s pieces ((pieces.length : Nat) : Int)) (([] : List UInt8), (0 : Int))).bind fun e_ =>
  br (fits ((e_.1 ++ ([(1 : UInt8)] : List UInt8)).length) 1) (
    (Loop (i_keccak_2_s ([(1 : UInt8)] : List UInt8)) (e_.1 ++ ([(1 : UInt8)] : List UInt8))).bind fun e_2 =>
    br (decide (0 ≤ (IntKind.wrap .i64 (((e_2.1.length : Nat) : Int) - (1 : Int))))) (
      br (decide ((IntKind.wrap .i64 (((e_2.1.length : Nat) : Int) - (1 : Int))).toNat < e_2.1.length)) (
        (e_2.1[(IntKind.wrap .i64 (((e_2.1.length : Nat) : Int) - (1 : Int))).toNat]?).bind fun x2 =>
        br (decide (0 ≤ (IntKind.wrap .i64 (((e_2.1.length : Nat) : Int) - (1 : Int))))) (
          br (decide ((IntKind.wrap .i64 (((e_2.1.length : Nat) : Int) - (1 : Int))).toNat < e_2.1.length)) (
            (e_2.1[(IntKind.wrap .i64 (((e_2.1.length : Nat) : Int) - (1 : Int))).toNat]?).bind fun x3 =>
            (Loop (i_keccak_3_s ([(1 : UInt8)] : List UInt8)) ((nZ 25), (e_2.1.set ((IntKind.wrap .i64 (((e_2.1.length : Nat) : Int) - (1 : Int))).toNat) (UInt8.ofInt (or64 .u8 (x2.toNat : Int) (128 : Int)))))).bind fun e_4 =>
            (i_lanes_text e_4.1).bind fun r_3 =>
            (subL r_3.1 (0 : Int) (32 : Int)).bind fun y3 =>
            some y3) (
            none)) (
          none)) (
        none)) (
      none)) (
    none)
theorem i_keccak_c {pieces r} (h : i_keccak pieces = some r) : Call tab ow 160 [sl (eL eU8) pieces] [] = some (S r, []) := by
  rw [Call_run (af := a_i_keccak) rfl]
  unfold i_keccak at h
  simp +decide only [a_i_keccak, b_i_keccak, go_sem, reduceIte, Nat.reduceAdd]
  have d1 := @i_keccak_1_l
  have d2 := @i_keccak_2_l
  have d3 := @i_keccak_3_l
  have d4 := @i_lanes_text_c
  all_goals exact go
end
section
theorem i_four_k0 : mkR 2012 [] = rws eU8 [] := rfl
attribute [local go_sem] i_four_k0
noncomputable def i_four (n : Int) : Option ((List UInt8)) :=
  br (fits (([(UInt8.ofInt (shr64 .i64 n (24 : Int))), (UInt8.ofInt (shr64 .i64 n (16 : Int))), (UInt8.ofInt (shr64 .i64 n (8 : Int))), (UInt8.ofInt n)] : List UInt8).length) 1) (
    some ([(UInt8.ofInt (shr64 .i64 n (24 : Int))), (UInt8.ofInt (shr64 .i64 n (16 : Int))), (UInt8.ofInt (shr64 .i64 n (8 : Int))), (UInt8.ofInt n)] : List UInt8)) (
    none)
theorem i_four_c {n r} (h : i_four n = some r) : Call tab ow 161 [.lit (.slice none 0 0), I n] [] = some (sl eU8 r, []) := by
  rw [Call_run (af := a_i_four) rfl]
  unfold i_four at h
  simp +decide only [a_i_four, b_i_four, go_sem, reduceIte, Nat.reduceAdd]
  all_goals exact go
end
section
theorem i_Source_absorb_k0 : mkR 1007 [] = rws eU8 [] := rfl
attribute [local go_sem] i_Source_absorb_k0
theorem i_Source_absorb_k1 : mkR 1013 [] = rws (eL eU8) [] := rfl
attribute [local go_sem] i_Source_absorb_k1
noncomputable def i_Source_absorb (t : (List UInt8)) (m : Source) : Option (Source) :=
  br (fits m.State.length 1) (
    (i_four ((t.length : Nat) : Int)).bind fun r_ =>
    (i_keccak ([m.State, ([(97 : UInt8), (98 : UInt8), (115 : UInt8), (111 : UInt8), (114 : UInt8), (98 : UInt8)] : List UInt8), r_, t] : List (List UInt8))).bind fun r_2 =>
    some (Source.mk m.Script m.At r_2 (0 : Int))) (
    none)
theorem i_Source_absorb_c {t m r} (h : i_Source_absorb t m = some r) : Call tab ow 66 [.ptr 0 0 0 1, sl eU8 t] [⟨4, true, [[sl eExt m.Script, I m.At, S m.State, I m.Count]]⟩] = some (.tup [], [⟨4, true, [[sl eExt r.Script, I r.At, S r.State, I r.Count]]⟩]) := by
  rw [Call_run (af := a_i_Source_absorb) rfl]
  unfold i_Source_absorb at h
  simp +decide only [a_i_Source_absorb, b_i_Source_absorb, go_sem, reduceIte, Nat.reduceAdd]
  have d1 := @i_four_c
  have d2 := @i_keccak_c
  all_goals exact go
end
noncomputable def s_l01In (n : Int) (low : Int) (high : Int) : Option (Bool) :=
  br (decide (low ≤ n)) (
    some (decide (n ≤ high))) (
    some false)
theorem s_l01In_c {n low high r} (h : s_l01In n low high = some r) : Call tab ow 103 [I n, I low, I high] [] = some (B r, []) := by
  rw [Call_run (af := a_s_l01In) rfl]
  unfold s_l01In at h
  simp +decide only [a_s_l01In, b_s_l01In, go_sem, reduceIte, Nat.reduceAdd]
  all_goals exact go
noncomputable def s_FieldOK (a : Int) : Option (Bool) :=
  (s_l01In a (0 : Int) (2130706432 : Int)).bind fun r_ =>
  some r_
theorem s_FieldOK_c {a r} (h : s_FieldOK a = some r) : Call tab ow 185 [I a] [] = some (B r, []) := by
  rw [Call_run (af := a_s_FieldOK) rfl]
  unfold s_FieldOK at h
  simp +decide only [a_s_FieldOK, b_s_FieldOK, go_sem, reduceIte, Nat.reduceAdd]
  have d1 := @s_l01In_c
  all_goals exact go
noncomputable def s_ExtOK (a : Ext) : Option (Bool) :=
  (s_FieldOK a.A).bind fun r_ =>
  br r_ (
    (s_FieldOK a.B).bind fun r_2 =>
    some r_2) (
    some false)
theorem s_ExtOK_c {a r} (h : s_ExtOK a = some r) : Call tab ow 100 [.agg [I a.A, I a.B]] [] = some (B r, []) := by
  rw [Call_run (af := a_s_ExtOK) rfl]
  unfold s_ExtOK at h
  simp +decide only [a_s_ExtOK, b_s_ExtOK, go_sem, reduceIte, Nat.reduceAdd]
  have d1 := @s_FieldOK_c
  all_goals exact go
noncomputable def s_l02List_1_s (list2 : List Ext) : Int → Option ((Int) ⊕ (Unit ⊕ (Int × Bool)))
  | i =>
    br (decide (i < ((list2.length : Nat) : Int))) (
      (atL list2 i).bind fun x =>
      (s_ExtOK x).bind fun r_ =>
      br (!r_) (
        some (.inr (.inl ()))) (
        some (.inl (IntKind.wrap .i64 (i + (1 : Int)))))) (
      some (.inr (.inr (i, decide (i < ((list2.length : Nat) : Int))))))
@[reducible] def s_l02List_1_S (list2 : List Ext) (s : Int) : St := ⟨[(0, sl eExt list2), (3, I s)], []⟩
@[reducible] def s_l02List_1_E (list2 : List Ext) : (Unit ⊕ (Int × Bool)) → AExit × St := alt (fun e => ((.ret, ⟨[(2, B false)], []⟩) : AExit × St)) (fun e => (.exit 0, ⟨[(0, sl eExt list2), (3, I e.1), (7, B e.2)], []⟩))
theorem s_l02List_1_l {list2 s e} (h : Loop (s_l02List_1_s list2) s = some e) : LoopX tab ow (.close [5004]) b_s_l02List_2 (s_l02List_1_S list2 s) = some (s_l02List_1_E list2 e) := by
  refine lrG (fun s o h => ?_) h
  simp only [s_l02List_1_s] at h
  simp +decide only [s_l02List_1_S, s_l02List_1_E, b_s_l02List_2, go_sem, reduceIte, Nat.reduceAdd]
  have d1 := @s_ExtOK_c
  all_goals exact go
noncomputable def s_l02List (list : (List Ext)) : Option (Bool) :=
  (Loop (s_l02List_1_s list) (0 : Int)).bind (alt (fun e_2 =>
    some false) (fun e_3 =>
    some true))
theorem s_l02List_c {list r} (h : s_l02List list = some r) : Call tab ow 184 [sl eExt list] [] = some (B r, []) := by
  rw [Call_run (af := a_s_l02List) rfl]
  unfold s_l02List at h
  simp +decide only [a_s_l02List, b_s_l02List, go_sem, reduceIte, Nat.reduceAdd]
  have d1 := @s_l02List_1_l
  all_goals exact go
noncomputable def s_SourceOK (s : Source) : Option (Bool) :=
  br (decide (((s.Script.length : Nat) : Int) ≤ (64 : Int))) (
    (s_l02List s.Script).bind fun r_ =>
    br r_ (
      (s_l01In s.At (0 : Int) (1000000 : Int)).bind fun r_2 =>
      br r_2 (
        br (((s.State.length : Nat) : Int) == (32 : Int)) (
          (s_l01In s.Count (0 : Int) (1000000 : Int)).bind fun r_3 =>
          some r_3) (
          some false)) (
        some false)) (
      some false)) (
    some false)
theorem s_SourceOK_c {s r} (h : s_SourceOK s = some r) : Call tab ow 101 [.agg [sl eExt s.Script, I s.At, S s.State, I s.Count]] [] = some (B r, []) := by
  rw [Call_run (af := a_s_SourceOK) rfl]
  unfold s_SourceOK at h
  simp +decide only [a_s_SourceOK, b_s_SourceOK, go_sem, reduceIte, Nat.reduceAdd]
  have d1 := @s_l02List_c
  have d2 := @s_l01In_c
  all_goals exact go
noncomputable def s_l05Spent (s : Source) (n : Int) : Option (Bool) :=
  br (decide (s.At > (IntKind.wrap .i64 ((1000000 : Int) - n)))) (
    some true) (
    some (decide (s.Count > (IntKind.wrap .i64 ((1000000 : Int) - n)))))
theorem s_l05Spent_c {s n r} (h : s_l05Spent s n = some r) : Call tab ow 104 [.agg [sl eExt s.Script, I s.At, S s.State, I s.Count], I n] [] = some (B r, []) := by
  rw [Call_run (af := a_s_l05Spent) rfl]
  unfold s_l05Spent at h
  simp +decide only [a_s_l05Spent, b_s_l05Spent, go_sem, reduceIte, Nat.reduceAdd]
  all_goals exact go
noncomputable def i_sub (a : Int) (b : Int) : Option (Int) :=
  some ((IntKind.wrap .i64 ((IntKind.wrap .i64 (a - b)) + (2130706433 : Int))).tmod (2130706433 : Int))
theorem i_sub_c {a b r} (h : i_sub a b = some r) : Call tab ow 248 [I a, I b] [] = some (I r, []) := by
  rw [Call_run (af := a_i_sub) rfl]
  unfold i_sub at h
  simp +decide only [a_i_sub, b_i_sub, go_sem, reduceIte, Nat.reduceAdd]
  all_goals exact go
noncomputable def i_Ext_minus (a : Ext) (b : Ext) : Option (Ext) :=
  (i_sub a.A b.A).bind fun r_ =>
  (i_sub a.B b.B).bind fun r_2 =>
  some (Ext.mk r_ r_2)
theorem i_Ext_minus_c {a b r} (h : i_Ext_minus a b = some r) : Call tab ow 173 [.agg [I a.A, I a.B], .agg [I b.A, I b.B]] [] = some (.agg [I r.A, I r.B], []) := by
  rw [Call_run (af := a_i_Ext_minus) rfl]
  unfold i_Ext_minus at h
  simp +decide only [a_i_Ext_minus, b_i_Ext_minus, go_sem, reduceIte, Nat.reduceAdd]
  have d1 := @i_sub_c
  all_goals exact go
noncomputable def i_mul (a : Int) (b : Int) : Option (Int) :=
  some ((IntKind.wrap .i64 (a * b)).tmod (2130706433 : Int))
theorem i_mul_c {a b r} (h : i_mul a b = some r) : Call tab ow 176 [I a, I b] [] = some (I r, []) := by
  rw [Call_run (af := a_i_mul) rfl]
  unfold i_mul at h
  simp +decide only [a_i_mul, b_i_mul, go_sem, reduceIte, Nat.reduceAdd]
  all_goals exact go
noncomputable def i_add (a : Int) (b : Int) : Option (Int) :=
  some ((IntKind.wrap .i64 (a + b)).tmod (2130706433 : Int))
theorem i_add_c {a b r} (h : i_add a b = some r) : Call tab ow 175 [I a, I b] [] = some (I r, []) := by
  rw [Call_run (af := a_i_add) rfl]
  unfold i_add at h
  simp +decide only [a_i_add, b_i_add, go_sem, reduceIte, Nat.reduceAdd]
  all_goals exact go
noncomputable def i_Ext_times (a : Ext) (b : Ext) : Option (Ext) :=
  (i_mul a.A b.A).bind fun r_ =>
  (i_mul a.B b.B).bind fun r_2 =>
  (i_mul (3 : Int) r_2).bind fun r_3 =>
  (i_add r_ r_3).bind fun r_4 =>
  (i_mul a.A b.B).bind fun r_5 =>
  (i_mul a.B b.A).bind fun r_6 =>
  (i_add r_5 r_6).bind fun r_7 =>
  some (Ext.mk r_4 r_7)
theorem i_Ext_times_c {a b r} (h : i_Ext_times a b = some r) : Call tab ow 83 [.agg [I a.A, I a.B], .agg [I b.A, I b.B]] [] = some (.agg [I r.A, I r.B], []) := by
  rw [Call_run (af := a_i_Ext_times) rfl]
  unfold i_Ext_times at h
  simp +decide only [a_i_Ext_times, b_i_Ext_times, go_sem, reduceIte, Nat.reduceAdd]
  have d1 := @i_mul_c
  have d2 := @i_add_c
  all_goals exact go
noncomputable def i_Ext_scaled (a : Ext) (n : Int) : Option (Ext) :=
  (i_mul a.A n).bind fun r_ =>
  (i_mul a.B n).bind fun r_2 =>
  some (Ext.mk r_ r_2)
theorem i_Ext_scaled_c {a n r} (h : i_Ext_scaled a n = some r) : Call tab ow 84 [.agg [I a.A, I a.B], I n] [] = some (.agg [I r.A, I r.B], []) := by
  rw [Call_run (af := a_i_Ext_scaled) rfl]
  unfold i_Ext_scaled at h
  simp +decide only [a_i_Ext_scaled, b_i_Ext_scaled, go_sem, reduceIte, Nat.reduceAdd]
  have d1 := @i_mul_c
  all_goals exact go
noncomputable def i_Ext_plus (a : Ext) (b : Ext) : Option (Ext) :=
  (i_add a.A b.A).bind fun r_ =>
  (i_add a.B b.B).bind fun r_2 =>
  some (Ext.mk r_ r_2)
theorem i_Ext_plus_c {a b r} (h : i_Ext_plus a b = some r) : Call tab ow 82 [.agg [I a.A, I a.B], .agg [I b.A, I b.B]] [] = some (.agg [I r.A, I r.B], []) := by
  rw [Call_run (af := a_i_Ext_plus) rfl]
  unfold i_Ext_plus at h
  simp +decide only [a_i_Ext_plus, b_i_Ext_plus, go_sem, reduceIte, Nat.reduceAdd]
  have d1 := @i_add_c
  all_goals exact go
noncomputable def i_isPower (n : Int) (most : Int) : Option (Bool) :=
  (i_in n (1 : Int) most).bind fun r_ =>
  br r_ (
    some ((and64 .i64 n (IntKind.wrap .i64 (n - (1 : Int)))) == (0 : Int))) (
    some false)
theorem i_isPower_c {n most r} (h : i_isPower n most = some r) : Call tab ow 171 [I n, I most] [] = some (B r, []) := by
  rw [Call_run (af := a_i_isPower) rfl]
  unfold i_isPower at h
  simp +decide only [a_i_isPower, b_i_isPower, go_sem, reduceIte, Nat.reduceAdd]
  have d1 := @i_in_c
  all_goals exact go
noncomputable def i_TableOK (list : (List Ext)) : Option (Bool) :=
  (i_isPower ((list.length : Nat) : Int) (64 : Int)).bind fun r_ =>
  br r_ (
    (i_are_i_Ext_ExtOK list).bind fun r_2 =>
    some r_2) (
    some false)
theorem i_TableOK_c {list r} (h : i_TableOK list = some r) : Call tab ow 76 [sl eExt list] [] = some (B r, []) := by
  rw [Call_run (af := a_i_TableOK) rfl]
  unfold i_TableOK at h
  simp +decide only [a_i_TableOK, b_i_TableOK, go_sem, reduceIte, Nat.reduceAdd]
  have d1 := @i_isPower_c
  have d2 := @i_are_i_Ext_ExtOK_c
  all_goals exact go
noncomputable def w_at (more : (List UInt8)) (i : Int) (n : Int) : Option (Int) :=
  br (decide (n ≤ (1 : Int))) (
    some (0 : Int)) (
    br (((more.length : Nat) : Int) == (0 : Int)) (
      br (decide (n ≠ 0)) (
        some ((IntKind.wrap .i64 (i * (7 : Int))).tmod n)) (
        none)) (
      br (decide (((more.length : Nat) : Int) ≠ 0)) (
        (atL more (i.tmod ((more.length : Nat) : Int))).bind fun x =>
        br (decide (((more.length : Nat) : Int) ≠ 0)) (
          (atL more ((IntKind.wrap .i64 (i + (1 : Int))).tmod ((more.length : Nat) : Int))).bind fun x2 =>
          br (decide (((more.length : Nat) : Int) ≠ 0)) (
            br (decide (n ≠ 0)) (
              some ((IntKind.wrap .i64 ((IntKind.wrap .i64 ((IntKind.wrap .i64 ((IntKind.wrap .i64 (x.toNat : Int)) * (31 : Int))) + (IntKind.wrap .i64 (x2.toNat : Int)))) + (IntKind.wrap .i64 (i.tdiv ((more.length : Nat) : Int))))).tmod n)) (
              none)) (
            none)) (
          none)) (
        none)))
theorem w_at_c {more i n r} (h : w_at more i n = some r) : Call tab ow 21 [sl eU8 more, I i, I n] [] = some (I r, []) := by
  rw [Call_run (af := a_w_at) rfl]
  unfold w_at at h
  simp +decide only [a_w_at, b_w_at, go_sem, reduceIte, Nat.reduceAdd]
  all_goals exact go
noncomputable def s_l08Tables (kind : Int) : Option (Int) :=
  some (IntKind.wrap .i64 ((2 : Int) * kind))
theorem s_l08Tables_c {kind r} (h : s_l08Tables kind = some r) : Call tab ow 177 [I kind] [] = some (I r, []) := by
  rw [Call_run (af := a_s_l08Tables) rfl]
  unfold s_l08Tables at h
  simp +decide only [a_s_l08Tables, b_s_l08Tables, go_sem, reduceIte, Nat.reduceAdd]
  all_goals exact go
end Go.AI.Fn

set_option linter.unusedVariables false
set_option linter.unusedSimpArgs false
set_option maxRecDepth 100000
set_option maxHeartbeats 1000000
namespace Go.AI.Fn
section
theorem s_l00Src_tables_k0 : mkR 2000 [] = rws (eL eExt) [] := rfl
attribute [local go_sem] s_l00Src_tables_k0
theorem s_l00Src_tables_k1 : mkR 6006 [] = rws (eL eExt) [] := rfl
attribute [local go_sem] s_l00Src_tables_k1
noncomputable def s_l00Src_tables_1_s (kind2 : Int) (vars2 : Int) : (List (List Ext)) × Int × (List UInt8) × Int × Int → Option (((List (List Ext)) × Int × (List UInt8) × Int × Int) ⊕ (((List (List Ext)) × Int × Bool × (List UInt8) × Int × Int)))
  | (l, i, c, c2, c3) =>
    (s_l08Tables kind2).bind fun r_ =>
    br (decide (i < r_)) (
      br (decide (0 ≤ (IntKind.wrap .u64 vars2))) (
        (s_l00Src_exts (shl64 .i64 (1 : Int) (IntKind.wrap .u64 vars2)) (l00Src.mk c c2 c3)).bind fun r_2 =>
        br (fits ((l ++ ([r_2.1] : List (List Ext))).length) 24) (
          some (.inl ((l ++ ([r_2.1] : List (List Ext))), (IntKind.wrap .i64 (i + (1 : Int))), r_2.2.code, r_2.2.at_, r_2.2.seed))) (
          none)) (
        none)) (
      some (.inr (l, i, decide (i < r_), c, c2, c3)))
@[reducible] def s_l00Src_tables_1_S (kind2 : Int) (vars2 : Int) (s : (List (List Ext)) × Int × (List UInt8) × Int × Int) : St := ⟨[(0, .ptr 0 0 0 1), (1, I kind2), (2, I vars2), (7, .sl 2000 0 s.1.length), (8, I s.2.1)], [(0, ⟨3, true, [[sl eU8 s.2.2.1, I s.2.2.2.1, I s.2.2.2.2]]⟩), (2000, ⟨1, false, rws (eL eExt) s.1⟩)]⟩
@[reducible] def s_l00Src_tables_1_E (kind2 : Int) (vars2 : Int) : ((List (List Ext)) × Int × Bool × (List UInt8) × Int × Int) → AExit × St := fun e => (.exit 0, ⟨[(0, .ptr 0 0 0 1), (1, I kind2), (2, I vars2), (7, .sl 2000 0 e.1.length), (8, I e.2.1), (13, B e.2.2.1)], [(0, ⟨3, true, [[sl eU8 e.2.2.2.1, I e.2.2.2.2.1, I e.2.2.2.2.2]]⟩), (2000, ⟨1, false, rws (eL eExt) e.1⟩)]⟩)
theorem s_l00Src_tables_1_l {kind2 vars2 s e} (h : Loop (s_l00Src_tables_1_s kind2 vars2) s = some e) : LoopX tab ow (.close [4002,6005,6006,6007]) b_s_l00Src_tables_3 (s_l00Src_tables_1_S kind2 vars2 s) = some (s_l00Src_tables_1_E kind2 vars2 e) := by
  refine lrG (fun s o h => ?_) h
  obtain ⟨_, _, _, _, _⟩ := s
  simp only [s_l00Src_tables_1_s] at h
  simp +decide only [s_l00Src_tables_1_S, s_l00Src_tables_1_E, b_s_l00Src_tables_3, go_sem, reduceIte, Nat.reduceAdd]
  have d1 := @s_l08Tables_c
  have d2 := @s_l00Src_exts_c
  all_goals exact go
noncomputable def s_l00Src_tables (kind : Int) (vars : Int) (m : l00Src) : Option ((List (List Ext)) × l00Src) :=
  (Loop (s_l00Src_tables_1_s kind vars) (([] : List (List Ext)), (0 : Int), m.code, m.at_, m.seed)).bind fun e_ =>
  some (e_.1, (l00Src.mk e_.2.2.2.1 e_.2.2.2.2.1 e_.2.2.2.2.2))
theorem s_l00Src_tables_c {kind vars m r} (h : s_l00Src_tables kind vars m = some r) : Call tab ow 86 [.ptr 0 0 0 1, I kind, I vars] [⟨3, true, [[sl eU8 m.code, I m.at_, I m.seed]]⟩] = some (sl (eL eExt) r.1, [⟨3, true, [[sl eU8 r.2.code, I r.2.at_, I r.2.seed]]⟩]) := by
  rw [Call_run (af := a_s_l00Src_tables) rfl]
  unfold s_l00Src_tables at h
  simp +decide only [a_s_l00Src_tables, b_s_l00Src_tables, go_sem, reduceIte, Nat.reduceAdd]
  have d1 := @s_l00Src_tables_1_l
  all_goals exact go
end
noncomputable def s_TablesOf (code : (List UInt8)) (kind : Int) (vars : Int) : Option ((List (List Ext))) :=
  (s_l00Source code).bind fun r_ =>
  (s_l00Src_tables kind vars r_).bind fun r_2 =>
  some r_2.1
theorem s_TablesOf_c {code kind vars r} (h : s_TablesOf code kind vars = some r) : Call tab ow 22 [sl eU8 code, I kind, I vars] [] = some (sl (eL eExt) r, []) := by
  rw [Call_run (af := a_s_TablesOf) rfl]
  unfold s_TablesOf at h
  simp +decide only [a_s_TablesOf, b_s_TablesOf, go_sem, reduceIte, Nat.reduceAdd]
  have d1 := @s_l00Source_c
  have d2 := @s_l00Src_tables_c
  all_goals exact go
noncomputable def i_degreeOf (kind : Int) : Option (Int) :=
  (i_in kind (1 : Int) (2 : Int)).bind fun r_ =>
  br (!r_) (
    some (0 : Int)) (
    some (IntKind.wrap .i64 (kind + (1 : Int))))
theorem i_degreeOf_c {kind r} (h : i_degreeOf kind = some r) : Call tab ow 96 [I kind] [] = some (I r, []) := by
  rw [Call_run (af := a_i_degreeOf) rfl]
  unfold i_degreeOf at h
  simp +decide only [a_i_degreeOf, b_i_degreeOf, go_sem, reduceIte, Nat.reduceAdd]
  have d1 := @i_in_c
  all_goals exact go
noncomputable def i_tablesOf (kind : Int) : Option (Int) :=
  some (IntKind.wrap .i64 ((2 : Int) * kind))
theorem i_tablesOf_c {kind r} (h : i_tablesOf kind = some r) : Call tab ow 109 [I kind] [] = some (I r, []) := by
  rw [Call_run (af := a_i_tablesOf) rfl]
  unfold i_tablesOf at h
  simp +decide only [a_i_tablesOf, b_i_tablesOf, go_sem, reduceIte, Nat.reduceAdd]
  all_goals exact go
noncomputable def i_tablesCode_1_s (tables2 : List (List Ext)) (t : List (List Ext)) (t2 : Int) : Int → Option ((Int) ⊕ (Int ⊕ (Int × Bool)))
  | t3 =>
    br (decide (t3 < t2)) (
      (atL t t3).bind fun x =>
      (i_TableOK x).bind fun r_3 =>
      br (!r_3) (
        some (.inr (.inl (1 : Int)))) (
        (atL tables2 (0 : Int)).bind fun x2 =>
        br (((x.length : Nat) : Int) != ((x2.length : Nat) : Int)) (
          some (.inr (.inl (8 : Int)))) (
          some (.inl (IntKind.wrap .i64 (t3 + (1 : Int))))))) (
      some (.inr (.inr (t3, decide (t3 < t2)))))
@[reducible] def i_tablesCode_1_S (tables2 : List (List Ext)) (t : List (List Ext)) (t2 : Int) (s : Int) : St := ⟨[(1, sl (eL eExt) tables2), (22, sl (eL eExt) t), (23, I t2), (24, I s)], []⟩
@[reducible] def i_tablesCode_1_E (tables2 : List (List Ext)) (t : List (List Ext)) (t2 : Int) : (Int ⊕ (Int × Bool)) → AExit × St := alt (fun e => ((.ret, ⟨[(4, I e)], []⟩) : AExit × St)) (fun e => (.exit 1, ⟨[(1, sl (eL eExt) tables2), (22, sl (eL eExt) t), (23, I t2), (24, I e.1), (25, B e.2)], []⟩))
theorem i_tablesCode_1_l {tables2 t t2 s e} (h : Loop (i_tablesCode_1_s tables2 t t2) s = some e) : LoopX tab ow (.close [9001]) b_i_tablesCode_6 (i_tablesCode_1_S tables2 t t2 s) = some (i_tablesCode_1_E tables2 t t2 e) := by
  refine lrG (fun s o h => ?_) h
  simp only [i_tablesCode_1_s] at h
  simp +decide only [i_tablesCode_1_S, i_tablesCode_1_E, b_i_tablesCode_6, go_sem, reduceIte, Nat.reduceAdd]
  have d1 := @i_TableOK_c
  all_goals exact go
noncomputable def i_tablesCode (kind : Int) (tables : (List (List Ext))) : Option (Int) :=
  br (decide (((tables.length : Nat) : Int) > (4096 : Int))) (
    some (2 : Int)) (
    (i_degreeOf kind).bind fun r_ =>
    br (r_ == (0 : Int)) (
      some (4 : Int)) (
      (i_tablesOf kind).bind fun r_2 =>
      br (((tables.length : Nat) : Int) != r_2) (
        some (4 : Int)) (
        (Loop (i_tablesCode_1_s tables tables ((tables.length : Nat) : Int)) (0 : Int)).bind (alt (fun e_2 =>
          some e_2) (fun e_3 =>
          some (0 : Int))))))
theorem i_tablesCode_c {kind tables r} (h : i_tablesCode kind tables = some r) : Call tab ow 87 [I kind, sl (eL eExt) tables] [] = some (I r, []) := by
  rw [Call_run (af := a_i_tablesCode) rfl]
  unfold i_tablesCode at h
  simp +decide only [a_i_tablesCode, b_i_tablesCode, go_sem, reduceIte, Nat.reduceAdd]
  have d1 := @i_degreeOf_c
  have d2 := @i_tablesOf_c
  have d3 := @i_tablesCode_1_l
  all_goals exact go
noncomputable def i_combine (kind : Int) (v : (List Ext)) : Option (Ext) :=
  br (kind == (1 : Int)) (
    (atL v (0 : Int)).bind fun x =>
    (atL v (1 : Int)).bind fun x2 =>
    (i_Ext_times x x2).bind fun r_ =>
    some r_) (
    (atL v (0 : Int)).bind fun x3 =>
    (atL v (1 : Int)).bind fun x4 =>
    (atL v (2 : Int)).bind fun x5 =>
    (i_Ext_times x4 x5).bind fun r_2 =>
    (atL v (3 : Int)).bind fun x6 =>
    (i_Ext_minus r_2 x6).bind fun r_3 =>
    (i_Ext_times x3 r_3).bind fun r_4 =>
    some r_4)
theorem i_combine_c {kind v r} (h : i_combine kind v = some r) : Call tab ow 110 [I kind, sl eExt v] [] = some (.agg [I r.A, I r.B], []) := by
  rw [Call_run (af := a_i_combine) rfl]
  unfold i_combine at h
  simp +decide only [a_i_combine, b_i_combine, go_sem, reduceIte, Nat.reduceAdd]
  have d1 := @i_Ext_times_c
  have d2 := @i_Ext_minus_c
  all_goals exact go
section
theorem i_sumOf_k0 : mkR 6000 [] = rws eExt [] := rfl
attribute [local go_sem] i_sumOf_k0
theorem i_sumOf_k1 : mkR 10005 [] = rws eExt [] := rfl
attribute [local go_sem] i_sumOf_k1
noncomputable def i_sumOf_2_s (kind3 : Int) (tables3 : List (List Ext)) (i : Int) (t3 : Int) (t4 : Int) (t5 : List (List Ext)) (t6 : Int) (c5 : Int) (c6 : Int) (c7 : Int) (c8 : Int) : (List Ext) × Int → Option (((List Ext) × Int) ⊕ (((List Ext) × Int × Bool)))
  | (l, t7) =>
    br (decide (t7 < t6)) (
      (atL t5 t7).bind fun x2 =>
      (atL x2 i).bind fun x3 =>
      br (fits ((l ++ ([x3] : List Ext)).length) 16) (
        some (.inl ((l ++ ([x3] : List Ext)), (IntKind.wrap .i64 (t7 + (1 : Int)))))) (
        none)) (
      some (.inr (l, t7, decide (t7 < t6))))
@[reducible] def i_sumOf_2_S (kind3 : Int) (tables3 : List (List Ext)) (i : Int) (t3 : Int) (t4 : Int) (t5 : List (List Ext)) (t6 : Int) (c5 : Int) (c6 : Int) (c7 : Int) (c8 : Int) (s : (List Ext) × Int) : St := ⟨[(0, I kind3), (1, sl (eL eExt) tables3), (4, .ptr 1000 0 0 1), (5, .ptr 2001 0 0 1), (6, I i), (7, .sl 6000 0 s.1.length), (14, I t3), (15, I t4), (19, sl (eL eExt) t5), (20, I t6), (21, I s.2)], [(1000, ⟨2, true, [[I c5, I c6]]⟩), (2001, ⟨2, true, [[I c7, I c8]]⟩), (6000, ⟨2, false, rws eExt s.1⟩)]⟩
@[reducible] def i_sumOf_2_E (kind3 : Int) (tables3 : List (List Ext)) (i : Int) (t3 : Int) (t4 : Int) (t5 : List (List Ext)) (t6 : Int) (c5 : Int) (c6 : Int) (c7 : Int) (c8 : Int) : ((List Ext) × Int × Bool) → AExit × St := fun e => (.exit 2, ⟨[(0, I kind3), (1, sl (eL eExt) tables3), (4, .ptr 1000 0 0 1), (5, .ptr 2001 0 0 1), (6, I i), (7, .sl 6000 0 e.1.length), (14, I t3), (15, I t4), (19, sl (eL eExt) t5), (20, I t6), (21, I e.2.1), (22, B e.2.2)], [(1000, ⟨2, true, [[I c5, I c6]]⟩), (2001, ⟨2, true, [[I c7, I c8]]⟩), (6000, ⟨2, false, rws eExt e.1⟩)]⟩)
theorem i_sumOf_2_l {kind3 tables3 i t3 t4 t5 t6 c5 c6 c7 c8 s e} (h : Loop (i_sumOf_2_s kind3 tables3 i t3 t4 t5 t6 c5 c6 c7 c8) s = some e) : LoopX tab ow (.close [10005,10006]) b_i_sumOf_7 (i_sumOf_2_S kind3 tables3 i t3 t4 t5 t6 c5 c6 c7 c8 s) = some (i_sumOf_2_E kind3 tables3 i t3 t4 t5 t6 c5 c6 c7 c8 e) := by
  refine lrG (fun s o h => ?_) h
  obtain ⟨_, _⟩ := s
  simp only [i_sumOf_2_s] at h
  simp +decide only [i_sumOf_2_S, i_sumOf_2_E, b_i_sumOf_7, go_sem, reduceIte, Nat.reduceAdd]
  all_goals exact go
noncomputable def i_sumOf_1_s (kind2 : Int) (tables2 : List (List Ext)) (t : Int) (c : Int) (c2 : Int) : Int × Int × Int → Option ((Int × Int × Int) ⊕ ((Int × Bool × Int × Int)))
  | (t2, c3, c4) =>
    br (decide (t2 < t)) (
      (Loop (i_sumOf_2_s kind2 tables2 t2 t t2 tables2 ((tables2.length : Nat) : Int) c c2 c3 c4) (([] : List Ext), (0 : Int))).bind fun e_ =>
      (i_combine kind2 e_.1).bind fun r_ =>
      (i_Ext_plus (Ext.mk c3 c4) r_).bind fun r_2 =>
      some (.inl ((IntKind.wrap .i64 (t2 + (1 : Int))), r_2.A, r_2.B))) (
      some (.inr (t2, decide (t2 < t), c3, c4)))
@[reducible] def i_sumOf_1_S (kind2 : Int) (tables2 : List (List Ext)) (t : Int) (c : Int) (c2 : Int) (s : Int × Int × Int) : St := ⟨[(0, I kind2), (1, sl (eL eExt) tables2), (4, .ptr 1000 0 0 1), (5, .ptr 2001 0 0 1), (14, I t), (15, I s.1)], [(1000, ⟨2, true, [[I c, I c2]]⟩), (2001, ⟨2, true, [[I s.2.1, I s.2.2]]⟩)]⟩
@[reducible] def i_sumOf_1_E (kind2 : Int) (tables2 : List (List Ext)) (t : Int) (c : Int) (c2 : Int) : (Int × Bool × Int × Int) → AExit × St := fun e => (.exit 0, ⟨[(0, I kind2), (1, sl (eL eExt) tables2), (4, .ptr 1000 0 0 1), (5, .ptr 2001 0 0 1), (14, I t), (15, I e.1), (16, B e.2.1)], [(1000, ⟨2, true, [[I c, I c2]]⟩), (2001, ⟨2, true, [[I e.2.2.1, I e.2.2.2]]⟩)]⟩)
theorem i_sumOf_1_l {kind2 tables2 t c c2 s e} (h : Loop (i_sumOf_1_s kind2 tables2 t c c2) s = some e) : LoopX tab ow (.close [6000,10005,10006,12003,12004]) b_i_sumOf_3 (i_sumOf_1_S kind2 tables2 t c c2 s) = some (i_sumOf_1_E kind2 tables2 t c c2 e) := by
  refine lrG (fun s o h => ?_) h
  obtain ⟨_, _, _⟩ := s
  simp only [i_sumOf_1_s] at h
  simp +decide only [i_sumOf_1_S, i_sumOf_1_E, b_i_sumOf_3, go_sem, reduceIte, Nat.reduceAdd]
  have d1 := @i_sumOf_2_l
  have d2 := @i_combine_c
  have d3 := @i_Ext_plus_c
  all_goals exact go
noncomputable def i_sumOf (kind : Int) (tables : (List (List Ext))) : Option (Ext) :=
  (atL tables (0 : Int)).bind fun x =>
  (Loop (i_sumOf_1_s kind tables ((x.length : Nat) : Int) (0 : Int) (0 : Int)) ((0 : Int), (0 : Int), (0 : Int))).bind fun e_2 =>
  some (Ext.mk e_2.2.2.1 e_2.2.2.2)
theorem i_sumOf_c {kind tables r} (h : i_sumOf kind tables = some r) : Call tab ow 88 [I kind, sl (eL eExt) tables] [] = some (.agg [I r.A, I r.B], []) := by
  rw [Call_run (af := a_i_sumOf) rfl]
  unfold i_sumOf at h
  simp +decide only [a_i_sumOf, b_i_sumOf, go_sem, reduceIte, Nat.reduceAdd]
  have d1 := @i_sumOf_1_l
  all_goals exact go
end
noncomputable def i_SumOf (kind : Int) (tables : (List (List Ext))) : Option (Ext × Int) :=
  (i_tablesCode kind tables).bind fun r_ =>
  br (r_ != (0 : Int)) (
    some ((Ext.mk (0 : Int) (0 : Int)), r_)) (
    (i_sumOf kind tables).bind fun r_2 =>
    some (r_2, (0 : Int)))
theorem i_SumOf_c {kind tables r} (h : i_SumOf kind tables = some r) : Call tab ow 23 [I kind, sl (eL eExt) tables] [] = some (.tup [.agg [I r.1.A, I r.1.B], I r.2], []) := by
  rw [Call_run (af := a_i_SumOf) rfl]
  unfold i_SumOf at h
  simp +decide only [a_i_SumOf, b_i_SumOf, go_sem, reduceIte, Nat.reduceAdd]
  have d1 := @i_tablesCode_c
  have d2 := @i_sumOf_c
  all_goals exact go
noncomputable def i_extTwo_plus (a : Ext) (b : Ext) : Option (Ext × Int) :=
  (i_ExtOK a).bind fun r_ =>
  br (!r_) (
    some ((Ext.mk (0 : Int) (0 : Int)), (1 : Int))) (
    (i_ExtOK b).bind fun r_2 =>
    br (!r_2) (
      some ((Ext.mk (0 : Int) (0 : Int)), (1 : Int))) (
      (i_Ext_plus a b).bind fun r_3 =>
      some (r_3, (0 : Int))))
theorem i_extTwo_plus_c {a b r} (h : i_extTwo_plus a b = some r) : Call tab ow 89 [.agg [I a.A, I a.B], .agg [I b.A, I b.B], .fn 82 []] [] = some (.tup [.agg [I r.1.A, I r.1.B], I r.2], []) := by
  rw [Call_run (af := a_i_extTwo) rfl]
  unfold i_extTwo_plus at h
  simp +decide only [a_i_extTwo, b_i_extTwo, go_sem, reduceIte, Nat.reduceAdd]
  have d1 := @i_ExtOK_c
  have d2 := @i_Ext_plus_c
  all_goals exact go
noncomputable def i_ExtAdd (a : Ext) (b : Ext) : Option (Ext × Int) :=
  (i_extTwo_plus a b).bind fun r_ =>
  some (r_.1, r_.2)
theorem i_ExtAdd_c {a b r} (h : i_ExtAdd a b = some r) : Call tab ow 24 [.agg [I a.A, I a.B], .agg [I b.A, I b.B]] [] = some (.tup [.agg [I r.1.A, I r.1.B], I r.2], []) := by
  rw [Call_run (af := a_i_ExtAdd) rfl]
  unfold i_ExtAdd at h
  simp +decide only [a_i_ExtAdd, b_i_ExtAdd, go_sem, reduceIte, Nat.reduceAdd]
  have d1 := @i_extTwo_plus_c
  all_goals exact go
noncomputable def i_between (a : Ext) (b : Ext) (r_ : Ext) : Option (Ext) :=
  (i_Ext_minus b a).bind fun r_2 =>
  (i_Ext_times r_ r_2).bind fun r_3 =>
  (i_Ext_plus a r_3).bind fun r_4 =>
  some r_4
theorem i_between_c {a b r_ r} (h : i_between a b r_ = some r) : Call tab ow 292 [.agg [I a.A, I a.B], .agg [I b.A, I b.B], .agg [I r_.A, I r_.B]] [] = some (.agg [I r.A, I r.B], []) := by
  rw [Call_run (af := a_i_between) rfl]
  unfold i_between at h
  simp +decide only [a_i_between, b_i_between, go_sem, reduceIte, Nat.reduceAdd]
  have d1 := @i_Ext_minus_c
  have d2 := @i_Ext_times_c
  have d3 := @i_Ext_plus_c
  all_goals exact go
section
theorem i_foldTable_k0 : mkR 2000 [] = rws eExt [] := rfl
attribute [local go_sem] i_foldTable_k0
theorem i_foldTable_k1 : mkR 6012 [] = rws eExt [] := rfl
attribute [local go_sem] i_foldTable_k1
noncomputable def i_foldTable_1_s (table2 : List Ext) (c : Int) (c2 : Int) : (List Ext) × Int → Option (((List Ext) × Int) ⊕ (((List Ext) × Int × Bool)))
  | (l, i) =>
    br (decide (i < ((table2.length : Nat) : Int))) (
      (atL table2 i).bind fun x =>
      (atL table2 (IntKind.wrap .i64 (i + (1 : Int)))).bind fun x2 =>
      (i_between x x2 (Ext.mk c c2)).bind fun r_2 =>
      br (fits ((l ++ ([r_2] : List Ext)).length) 16) (
        some (.inl ((l ++ ([r_2] : List Ext)), (IntKind.wrap .i64 (i + (2 : Int)))))) (
        none)) (
      some (.inr (l, i, decide (i < ((table2.length : Nat) : Int)))))
@[reducible] def i_foldTable_1_S (table2 : List Ext) (c : Int) (c2 : Int) (s : (List Ext) × Int) : St := ⟨[(0, sl eExt table2), (3, .ptr 1000 0 0 1), (5, .sl 2000 0 s.1.length), (6, I s.2)], [(1000, ⟨2, true, [[I c, I c2]]⟩), (2000, ⟨2, false, rws eExt s.1⟩)]⟩
@[reducible] def i_foldTable_1_E (table2 : List Ext) (c : Int) (c2 : Int) : ((List Ext) × Int × Bool) → AExit × St := fun e => (.exit 0, ⟨[(0, sl eExt table2), (3, .ptr 1000 0 0 1), (5, .sl 2000 0 e.1.length), (6, I e.2.1), (11, B e.2.2)], [(1000, ⟨2, true, [[I c, I c2]]⟩), (2000, ⟨2, false, rws eExt e.1⟩)]⟩)
theorem i_foldTable_1_l {table2 c c2 s e} (h : Loop (i_foldTable_1_s table2 c c2) s = some e) : LoopX tab ow (.close [6011,6012,6013]) b_i_foldTable_3 (i_foldTable_1_S table2 c c2 s) = some (i_foldTable_1_E table2 c c2 e) := by
  refine lrG (fun s o h => ?_) h
  obtain ⟨_, _⟩ := s
  simp only [i_foldTable_1_s] at h
  simp +decide only [i_foldTable_1_S, i_foldTable_1_E, b_i_foldTable_3, go_sem, reduceIte, Nat.reduceAdd]
  have d1 := @i_between_c
  all_goals exact go
noncomputable def i_foldTable (table : (List Ext)) (r_ : Ext) : Option ((List Ext)) :=
  (Loop (i_foldTable_1_s table r_.A r_.B) (([] : List Ext), (0 : Int))).bind fun e_ =>
  some e_.1
theorem i_foldTable_c {table r_ r} (h : i_foldTable table r_ = some r) : Call tab ow 252 [sl eExt table, .agg [I r_.A, I r_.B]] [] = some (sl eExt r, []) := by
  rw [Call_run (af := a_i_foldTable) rfl]
  unfold i_foldTable at h
  simp +decide only [a_i_foldTable, b_i_foldTable, go_sem, reduceIte, Nat.reduceAdd]
  have d1 := @i_foldTable_1_l
  all_goals exact go
end
section
theorem i_bound_k0 : mkR 2000 [] = rws (eL eExt) [] := rfl
attribute [local go_sem] i_bound_k0
theorem i_bound_k1 : mkR 6004 [] = rws (eL eExt) [] := rfl
attribute [local go_sem] i_bound_k1
noncomputable def i_bound_1_s (t : List (List Ext)) (t2 : Int) (c : Int) (c2 : Int) : (List (List Ext)) × Int → Option (((List (List Ext)) × Int) ⊕ (((List (List Ext)) × Int × Bool)))
  | (l, t3) =>
    br (decide (t3 < t2)) (
      (atL t t3).bind fun x =>
      (i_foldTable x (Ext.mk c c2)).bind fun r_2 =>
      br (fits ((l ++ ([r_2] : List (List Ext))).length) 24) (
        some (.inl ((l ++ ([r_2] : List (List Ext))), (IntKind.wrap .i64 (t3 + (1 : Int)))))) (
        none)) (
      some (.inr (l, t3, decide (t3 < t2))))
@[reducible] def i_bound_1_S (t : List (List Ext)) (t2 : Int) (c : Int) (c2 : Int) (s : (List (List Ext)) × Int) : St := ⟨[(3, .ptr 1000 0 0 1), (5, .sl 2000 0 s.1.length), (9, sl (eL eExt) t), (10, I t2), (11, I s.2)], [(1000, ⟨2, true, [[I c, I c2]]⟩), (2000, ⟨1, false, rws (eL eExt) s.1⟩)]⟩
@[reducible] def i_bound_1_E (t : List (List Ext)) (t2 : Int) (c : Int) (c2 : Int) : ((List (List Ext)) × Int × Bool) → AExit × St := fun e => (.exit 0, ⟨[(3, .ptr 1000 0 0 1), (5, .sl 2000 0 e.1.length), (9, sl (eL eExt) t), (10, I t2), (11, I e.2.1), (12, B e.2.2)], [(1000, ⟨2, true, [[I c, I c2]]⟩), (2000, ⟨1, false, rws (eL eExt) e.1⟩)]⟩)
theorem i_bound_1_l {t t2 c c2 s e} (h : Loop (i_bound_1_s t t2 c c2) s = some e) : LoopX tab ow (.close [6003,6004,6005]) b_i_bound_3 (i_bound_1_S t t2 c c2 s) = some (i_bound_1_E t t2 c c2 e) := by
  refine lrG (fun s o h => ?_) h
  obtain ⟨_, _⟩ := s
  simp only [i_bound_1_s] at h
  simp +decide only [i_bound_1_S, i_bound_1_E, b_i_bound_3, go_sem, reduceIte, Nat.reduceAdd]
  have d1 := @i_foldTable_c
  all_goals exact go
noncomputable def i_bound (tables : (List (List Ext))) (r_ : Ext) : Option ((List (List Ext))) :=
  (Loop (i_bound_1_s tables ((tables.length : Nat) : Int) r_.A r_.B) (([] : List (List Ext)), (0 : Int))).bind fun e_ =>
  some e_.1
theorem i_bound_c {tables r_ r} (h : i_bound tables r_ = some r) : Call tab ow 181 [sl (eL eExt) tables, .agg [I r_.A, I r_.B]] [] = some (sl (eL eExt) r, []) := by
  rw [Call_run (af := a_i_bound) rfl]
  unfold i_bound at h
  simp +decide only [a_i_bound, b_i_bound, go_sem, reduceIte, Nat.reduceAdd]
  have d1 := @i_bound_1_l
  all_goals exact go
end
section
theorem i_roundOf_k0 : mkR 2000 [] = rws eExt [] := rfl
attribute [local go_sem] i_roundOf_k0
theorem i_roundOf_k1 : mkR 6007 [] = rws eExt [] := rfl
attribute [local go_sem] i_roundOf_k1
noncomputable def i_roundOf_1_s (kind2 : Int) (tables2 : List (List Ext)) (t : Int) : (List Ext) × Int → Option (((List Ext) × Int) ⊕ (((List Ext) × Int × Bool)))
  | (l, t2) =>
    br (decide (t2 < t)) (
      (i_bound tables2 (Ext.mk t2 (0 : Int))).bind fun r_2 =>
      (i_sumOf kind2 r_2).bind fun r_3 =>
      br (fits ((l ++ ([r_3] : List Ext)).length) 16) (
        some (.inl ((l ++ ([r_3] : List Ext)), (IntKind.wrap .i64 (t2 + (1 : Int)))))) (
        none)) (
      some (.inr (l, t2, decide (t2 < t))))
@[reducible] def i_roundOf_1_S (kind2 : Int) (tables2 : List (List Ext)) (t : Int) (s : (List Ext) × Int) : St := ⟨[(0, I kind2), (1, sl (eL eExt) tables2), (5, .sl 2000 0 s.1.length), (10, I t), (11, I s.2)], [(2000, ⟨2, false, rws eExt s.1⟩)]⟩
@[reducible] def i_roundOf_1_E (kind2 : Int) (tables2 : List (List Ext)) (t : Int) : ((List Ext) × Int × Bool) → AExit × St := fun e => (.exit 0, ⟨[(0, I kind2), (1, sl (eL eExt) tables2), (5, .sl 2000 0 e.1.length), (10, I t), (11, I e.2.1), (12, B e.2.2)], [(2000, ⟨2, false, rws eExt e.1⟩)]⟩)
theorem i_roundOf_1_l {kind2 tables2 t s e} (h : Loop (i_roundOf_1_s kind2 tables2 t) s = some e) : LoopX tab ow (.close [6005,6006,6007,6008]) b_i_roundOf_3 (i_roundOf_1_S kind2 tables2 t s) = some (i_roundOf_1_E kind2 tables2 t e) := by
  refine lrG (fun s o h => ?_) h
  obtain ⟨_, _⟩ := s
  simp only [i_roundOf_1_s] at h
  simp +decide only [i_roundOf_1_S, i_roundOf_1_E, b_i_roundOf_3, go_sem, reduceIte, Nat.reduceAdd]
  have d1 := @i_bound_c
  have d2 := @i_sumOf_c
  all_goals exact go
noncomputable def i_roundOf (kind : Int) (tables : (List (List Ext))) : Option ((List Ext)) :=
  (i_degreeOf kind).bind fun r_ =>
  (Loop (i_roundOf_1_s kind tables (IntKind.wrap .i64 (r_ + (1 : Int)))) (([] : List Ext), (0 : Int))).bind fun e_ =>
  some e_.1
theorem i_roundOf_c {kind tables r} (h : i_roundOf kind tables = some r) : Call tab ow 111 [I kind, sl (eL eExt) tables] [] = some (sl eExt r, []) := by
  rw [Call_run (af := a_i_roundOf) rfl]
  unfold i_roundOf at h
  simp +decide only [a_i_roundOf, b_i_roundOf, go_sem, reduceIte, Nat.reduceAdd]
  have d1 := @i_degreeOf_c
  have d2 := @i_roundOf_1_l
  all_goals exact go
end
section
theorem i_extBytes_k0 : mkR 2000 [] = rws eU8 [] := rfl
attribute [local go_sem] i_extBytes_k0
noncomputable def i_extBytes_1_s (t : List Ext) (t2 : Int) : (List UInt8) × Int → Option (((List UInt8) × Int) ⊕ (((List UInt8) × Int × Bool)))
  | (l, t3) =>
    br (decide (t3 < t2)) (
      (atL t t3).bind fun x =>
      (i_four_o x.A l).bind fun r_ =>
      (i_four_o x.B r_).bind fun r_2 =>
      some (.inl (r_2, (IntKind.wrap .i64 (t3 + (1 : Int)))))) (
      some (.inr (l, t3, decide (t3 < t2))))
@[reducible] def i_extBytes_1_S (t : List Ext) (t2 : Int) (s : (List UInt8) × Int) : St := ⟨[(3, .sl 2000 0 s.1.length), (7, sl eExt t), (8, I t2), (9, I s.2)], [(2000, ⟨1, false, rws eU8 s.1⟩)]⟩
@[reducible] def i_extBytes_1_E (t : List Ext) (t2 : Int) : ((List UInt8) × Int × Bool) → AExit × St := fun e => (.exit 0, ⟨[(3, .sl 2000 0 e.1.length), (7, sl eExt t), (8, I t2), (9, I e.2.1), (10, B e.2.2)], [(2000, ⟨1, false, rws eU8 e.1⟩)]⟩)
theorem i_extBytes_1_l {t t2 s e} (h : Loop (i_extBytes_1_s t t2) s = some e) : LoopX tab ow (.close [5002,6003,6006]) b_i_extBytes_3 (i_extBytes_1_S t t2 s) = some (i_extBytes_1_E t t2 e) := by
  refine lrG (fun s o h => ?_) h
  obtain ⟨_, _⟩ := s
  simp only [i_extBytes_1_s] at h
  simp +decide only [i_extBytes_1_S, i_extBytes_1_E, b_i_extBytes_3, go_sem, reduceIte, Nat.reduceAdd]
  have d1 := @i_four_o_c
  all_goals exact go
noncomputable def i_extBytes (list : (List Ext)) : Option ((List UInt8)) :=
  (Loop (i_extBytes_1_s list ((list.length : Nat) : Int)) (([] : List UInt8), (0 : Int))).bind fun e_ =>
  some e_.1
theorem i_extBytes_c {list r} (h : i_extBytes list = some r) : Call tab ow 209 [sl eExt list] [] = some (sl eU8 r, []) := by
  rw [Call_run (af := a_i_extBytes) rfl]
  unfold i_extBytes at h
  simp +decide only [a_i_extBytes, b_i_extBytes, go_sem, reduceIte, Nat.reduceAdd]
  have d1 := @i_extBytes_1_l
  all_goals exact go
end
noncomputable def i_Source_absorbExts (list : (List Ext)) (m : Source) : Option (Source) :=
  (i_extBytes list).bind fun r_ =>
  (i_Source_absorb r_ m).bind fun r_2 =>
  some r_2
theorem i_Source_absorbExts_c {list m r} (h : i_Source_absorbExts list m = some r) : Call tab ow 179 [.ptr 0 0 0 1, sl eExt list] [⟨4, true, [[sl eExt m.Script, I m.At, S m.State, I m.Count]]⟩] = some (.tup [], [⟨4, true, [[sl eExt r.Script, I r.At, S r.State, I r.Count]]⟩]) := by
  rw [Call_run (af := a_i_Source_absorbExts) rfl]
  unfold i_Source_absorbExts at h
  simp +decide only [a_i_Source_absorbExts, b_i_Source_absorbExts, go_sem, reduceIte, Nat.reduceAdd]
  have d1 := @i_extBytes_c
  have d2 := @i_Source_absorb_c
  all_goals exact go
noncomputable def i_modulo_1_s (t : List UInt8) (t2 : Int) : Int × Int → Option ((Int × Int) ⊕ ((Int × Int × Bool)))
  | (n, t3) =>
    br (decide (t3 < t2)) (
      (atL t t3).bind fun x =>
      some (.inl ((or64 .u64 (shl64 .u64 n (8 : Int)) (IntKind.wrap .u64 (x.toNat : Int))), (IntKind.wrap .i64 (t3 + (1 : Int)))))) (
      some (.inr (n, t3, decide (t3 < t2))))
@[reducible] def i_modulo_1_S (t : List UInt8) (t2 : Int) (s : Int × Int) : St := ⟨[(3, .lit (.int .u64 s.1)), (6, sl eU8 t), (7, I t2), (8, I s.2)], []⟩
@[reducible] def i_modulo_1_E (t : List UInt8) (t2 : Int) : (Int × Int × Bool) → AExit × St := fun e => (.exit 0, ⟨[(3, .lit (.int .u64 e.1)), (6, sl eU8 t), (7, I t2), (8, I e.2.1), (9, B e.2.2)], []⟩)
theorem i_modulo_1_l {t t2 s e} (h : Loop (i_modulo_1_s t t2) s = some e) : LoopX tab ow (.close []) b_i_modulo_3 (i_modulo_1_S t t2 s) = some (i_modulo_1_E t t2 e) := by
  refine lrG (fun s o h => ?_) h
  obtain ⟨_, _⟩ := s
  simp only [i_modulo_1_s] at h
  simp +decide only [i_modulo_1_S, i_modulo_1_E, b_i_modulo_3, go_sem, reduceIte, Nat.reduceAdd]
  all_goals exact go
noncomputable def i_modulo (b : (List UInt8)) : Option (Int) :=
  (Loop (i_modulo_1_s b ((b.length : Nat) : Int)) ((0 : Int), (0 : Int))).bind fun e_ =>
  some (IntKind.wrap .i64 (e_.1.tmod (2130706433 : Int)))
theorem i_modulo_c {b r} (h : i_modulo b = some r) : Call tab ow 251 [sl eU8 b] [] = some (I r, []) := by
  rw [Call_run (af := a_i_modulo) rfl]
  unfold i_modulo at h
  simp +decide only [a_i_modulo, b_i_modulo, go_sem, reduceIte, Nat.reduceAdd]
  have d1 := @i_modulo_1_l
  all_goals exact go
section
theorem i_Source_draw_k0 : mkR 5005 [] = rws eU8 [] := rfl
attribute [local go_sem] i_Source_draw_k0
theorem i_Source_draw_k1 : mkR 5012 [] = rws (eL eU8) [] := rfl
attribute [local go_sem] i_Source_draw_k1
noncomputable def i_Source_draw (m : Source) : Option (Ext × Source) :=
  br (decide (((m.Script.length : Nat) : Int) > (0 : Int))) (
    br (decide (((m.Script.length : Nat) : Int) ≠ 0)) (
      (atL m.Script ((IntKind.wrap .i64 ((IntKind.wrap .i64 (m.At + (1 : Int))) - (1 : Int))).tmod ((m.Script.length : Nat) : Int))).bind fun x =>
      some (x, (Source.mk m.Script (IntKind.wrap .i64 (m.At + (1 : Int))) m.State m.Count))) (
      none)) (
    br (fits m.State.length 1) (
      (i_four m.Count).bind fun r_ =>
      (i_keccak ([m.State, ([(100 : UInt8), (114 : UInt8), (97 : UInt8), (119 : UInt8)] : List UInt8), r_] : List (List UInt8))).bind fun r_2 =>
      br (fits r_2.length 1) (
        (subL r_2 (0 : Int) (8 : Int)).bind fun y =>
        (i_modulo y).bind fun r_3 =>
        (subL r_2 (8 : Int) (16 : Int)).bind fun y2 =>
        (i_modulo y2).bind fun r_4 =>
        some ((Ext.mk r_3 r_4), (Source.mk m.Script m.At m.State (IntKind.wrap .i64 (m.Count + (1 : Int)))))) (
        none)) (
      none))
theorem i_Source_draw_c {m r} (h : i_Source_draw m = some r) : Call tab ow 180 [.ptr 0 0 0 1] [⟨4, true, [[sl eExt m.Script, I m.At, S m.State, I m.Count]]⟩] = some (.agg [I r.1.A, I r.1.B], [⟨4, true, [[sl eExt r.2.Script, I r.2.At, S r.2.State, I r.2.Count]]⟩]) := by
  rw [Call_run (af := a_i_Source_draw) rfl]
  unfold i_Source_draw at h
  simp +decide only [a_i_Source_draw, b_i_Source_draw, go_sem, reduceIte, Nat.reduceAdd]
  have d1 := @i_four_c
  have d2 := @i_keccak_c
  have d3 := @i_modulo_c
  all_goals exact go
end
noncomputable def i_nothing (a : Ext) : Option (Unit) :=
  some ()
theorem i_nothing_c {a r} (h : i_nothing a = some r) : Call tab ow 93 [.agg [I a.A, I a.B]] [] = some (.tup [], []) := by
  rw [Call_run (af := a_i_nothing) rfl]
  unfold i_nothing at h
  simp +decide only [a_i_nothing, b_i_nothing, go_sem, reduceIte, Nat.reduceAdd]
  all_goals exact go
section
theorem i_Source_proveSum_nothing_k0 : mkR 2000 [] = rws (eL eExt) [] := rfl
attribute [local go_sem] i_Source_proveSum_nothing_k0
theorem i_Source_proveSum_nothing_k1 : mkR 2001 [] = rws eExt [] := rfl
attribute [local go_sem] i_Source_proveSum_nothing_k1
theorem i_Source_proveSum_nothing_k2 : mkR 2002 [] = rws eExt [] := rfl
attribute [local go_sem] i_Source_proveSum_nothing_k2
theorem i_Source_proveSum_nothing_k3 : mkR 8002 [] = rws (eL eExt) [] := rfl
attribute [local go_sem] i_Source_proveSum_nothing_k3
theorem i_Source_proveSum_nothing_k4 : mkR 8006 [] = rws eExt [] := rfl
attribute [local go_sem] i_Source_proveSum_nothing_k4
theorem i_Source_proveSum_nothing_k5 : mkR 13004 [] = rws eExt [] := rfl
attribute [local go_sem] i_Source_proveSum_nothing_k5
noncomputable def i_Source_proveSum_nothing_1_s (l3 : List Ext) (kind2 : Int) : (List (List Ext)) × (List Ext) × (List (List Ext)) × (List Ext) × Int × (List UInt8) × Int → Option (((List (List Ext)) × (List Ext) × (List (List Ext)) × (List Ext) × Int × (List UInt8) × Int) ⊕ (((List (List Ext)) × (List Ext) × (List (List Ext)) × Bool × (List Ext) × Int × (List UInt8) × Int)))
  | (l, l2, tables2, c, c2, c3, c4) =>
    (atL tables2 (0 : Int)).bind fun x =>
    br (decide (((x.length : Nat) : Int) > (1 : Int))) (
      (i_roundOf kind2 tables2).bind fun r_ =>
      (i_Source_absorbExts r_ (Source.mk c c2 c3 c4)).bind fun r_2 =>
      (i_Source_draw r_2).bind fun r_3 =>
      (i_bound tables2 r_3.1).bind fun r_4 =>
      br (fits ((l ++ ([r_] : List (List Ext))).length) 24) (
        br (fits ((l2 ++ ([r_3.1] : List Ext)).length) 16) (
          (i_nothing r_3.1).bind fun r_5 =>
          some (.inl ((l ++ ([r_] : List (List Ext))), (l2 ++ ([r_3.1] : List Ext)), r_4, r_3.2.Script, r_3.2.At, r_3.2.State, r_3.2.Count))) (
          none)) (
        none)) (
      some (.inr (l, l2, tables2, decide (((x.length : Nat) : Int) > (1 : Int)), c, c2, c3, c4)))
@[reducible] def i_Source_proveSum_nothing_1_S (l3 : List Ext) (kind2 : Int) (s : (List (List Ext)) × (List Ext) × (List (List Ext)) × (List Ext) × Int × (List UInt8) × Int) : St := ⟨[(0, .ptr 0 0 0 1), (1, I kind2), (2, sl (eL eExt) s.2.2.1), (3, .fn 93 []), (11, .sl 2000 0 s.1.length), (12, .sl 2001 0 s.2.1.length), (13, .sl 2002 0 l3.length)], [(0, ⟨4, true, [[sl eExt s.2.2.2.1, I s.2.2.2.2.1, S s.2.2.2.2.2.1, I s.2.2.2.2.2.2]]⟩), (2000, ⟨1, false, rws (eL eExt) s.1⟩), (2001, ⟨2, false, rws eExt s.2.1⟩), (2002, ⟨2, false, rws eExt l3⟩)]⟩
@[reducible] def i_Source_proveSum_nothing_1_E (l3 : List Ext) (kind2 : Int) : ((List (List Ext)) × (List Ext) × (List (List Ext)) × Bool × (List Ext) × Int × (List UInt8) × Int) → AExit × St := fun e => (.exit 0, ⟨[(0, .ptr 0 0 0 1), (1, I kind2), (2, sl (eL eExt) e.2.2.1), (3, .fn 93 []), (11, .sl 2000 0 e.1.length), (12, .sl 2001 0 e.2.1.length), (13, .sl 2002 0 l3.length), (25, B e.2.2.2.1)], [(0, ⟨4, true, [[sl eExt e.2.2.2.2.1, I e.2.2.2.2.2.1, S e.2.2.2.2.2.2.1, I e.2.2.2.2.2.2.2]]⟩), (2000, ⟨1, false, rws (eL eExt) e.1⟩), (2001, ⟨2, false, rws eExt e.2.1⟩), (2002, ⟨2, false, rws eExt l3⟩)]⟩)
theorem i_Source_proveSum_nothing_1_l {l3 kind2 s e} (h : Loop (i_Source_proveSum_nothing_1_s l3 kind2) s = some e) : LoopX tab ow (.close [4002,5002,6001,6002,7002,8002,8003,8006,8007,9002]) b_i_Source_proveSum_2 (i_Source_proveSum_nothing_1_S l3 kind2 s) = some (i_Source_proveSum_nothing_1_E l3 kind2 e) := by
  refine lrG (fun s o h => ?_) h
  obtain ⟨_, _, _, _, _, _, _⟩ := s
  simp only [i_Source_proveSum_nothing_1_s] at h
  simp +decide only [i_Source_proveSum_nothing_1_S, i_Source_proveSum_nothing_1_E, b_i_Source_proveSum_2, go_sem, reduceIte, Nat.reduceAdd]
  have d1 := @i_roundOf_c
  have d2 := @i_Source_absorbExts_c
  have d3 := @i_Source_draw_c
  have d4 := @i_bound_c
  have d5 := @i_nothing_c
  all_goals exact go
noncomputable def i_Source_proveSum_nothing_2_s (l4 : List (List Ext)) (l5 : List Ext) (t : List (List Ext)) (t2 : Int) (c5 : List Ext) (c6 : Int) (c7 : List UInt8) (c8 : Int) : (List Ext) × Int → Option (((List Ext) × Int) ⊕ (((List Ext) × Int × Bool)))
  | (l6, t3) =>
    br (decide (t3 < t2)) (
      (atL t t3).bind fun x2 =>
      (atL x2 (0 : Int)).bind fun x3 =>
      br (fits ((l6 ++ ([x3] : List Ext)).length) 16) (
        some (.inl ((l6 ++ ([x3] : List Ext)), (IntKind.wrap .i64 (t3 + (1 : Int)))))) (
        none)) (
      some (.inr (l6, t3, decide (t3 < t2))))
@[reducible] def i_Source_proveSum_nothing_2_S (l4 : List (List Ext)) (l5 : List Ext) (t : List (List Ext)) (t2 : Int) (c5 : List Ext) (c6 : Int) (c7 : List UInt8) (c8 : Int) (s : (List Ext) × Int) : St := ⟨[(11, .sl 2000 0 l4.length), (12, .sl 2001 0 l5.length), (13, .sl 2002 0 s.1.length), (48, sl (eL eExt) t), (49, I t2), (50, I s.2)], [(0, ⟨4, true, [[sl eExt c5, I c6, S c7, I c8]]⟩), (2000, ⟨1, false, rws (eL eExt) l4⟩), (2001, ⟨2, false, rws eExt l5⟩), (2002, ⟨2, false, rws eExt s.1⟩)]⟩
@[reducible] def i_Source_proveSum_nothing_2_E (l4 : List (List Ext)) (l5 : List Ext) (t : List (List Ext)) (t2 : Int) (c5 : List Ext) (c6 : Int) (c7 : List UInt8) (c8 : Int) : ((List Ext) × Int × Bool) → AExit × St := fun e => (.exit 2, ⟨[(11, .sl 2000 0 l4.length), (12, .sl 2001 0 l5.length), (13, .sl 2002 0 e.1.length), (48, sl (eL eExt) t), (49, I t2), (50, I e.2.1), (51, B e.2.2)], [(0, ⟨4, true, [[sl eExt c5, I c6, S c7, I c8]]⟩), (2000, ⟨1, false, rws (eL eExt) l4⟩), (2001, ⟨2, false, rws eExt l5⟩), (2002, ⟨2, false, rws eExt e.1⟩)]⟩)
theorem i_Source_proveSum_nothing_2_l {l4 l5 t t2 c5 c6 c7 c8 s e} (h : Loop (i_Source_proveSum_nothing_2_s l4 l5 t t2 c5 c6 c7 c8) s = some e) : LoopX tab ow (.close [13004,13005]) b_i_Source_proveSum_10 (i_Source_proveSum_nothing_2_S l4 l5 t t2 c5 c6 c7 c8 s) = some (i_Source_proveSum_nothing_2_E l4 l5 t t2 c5 c6 c7 c8 e) := by
  refine lrG (fun s o h => ?_) h
  obtain ⟨_, _⟩ := s
  simp only [i_Source_proveSum_nothing_2_s] at h
  simp +decide only [i_Source_proveSum_nothing_2_S, i_Source_proveSum_nothing_2_E, b_i_Source_proveSum_10, go_sem, reduceIte, Nat.reduceAdd]
  all_goals exact go
noncomputable def i_Source_proveSum_nothing (kind : Int) (tables : (List (List Ext))) (m : Source) : Option ((List (List Ext)) × (List Ext) × (List Ext) × Source) :=
  (Loop (i_Source_proveSum_nothing_1_s ([] : List Ext) kind) (([] : List (List Ext)), ([] : List Ext), tables, m.Script, m.At, m.State, m.Count)).bind fun e_ =>
  (Loop (i_Source_proveSum_nothing_2_s e_.1 e_.2.1 e_.2.2.1 ((e_.2.2.1.length : Nat) : Int) e_.2.2.2.2.1 e_.2.2.2.2.2.1 e_.2.2.2.2.2.2.1 e_.2.2.2.2.2.2.2) (([] : List Ext), (0 : Int))).bind fun e_2 =>
  some (e_.1, e_.2.1, e_2.1, (Source.mk e_.2.2.2.2.1 e_.2.2.2.2.2.1 e_.2.2.2.2.2.2.1 e_.2.2.2.2.2.2.2))
theorem i_Source_proveSum_nothing_c {kind tables m r} (h : i_Source_proveSum_nothing kind tables m = some r) : Call tab ow 92 [.ptr 0 0 0 1, I kind, sl (eL eExt) tables, .fn 93 []] [⟨4, true, [[sl eExt m.Script, I m.At, S m.State, I m.Count]]⟩] = some (.tup [sl (eL eExt) r.1, sl eExt r.2.1, sl eExt r.2.2.1], [⟨4, true, [[sl eExt r.2.2.2.Script, I r.2.2.2.At, S r.2.2.2.State, I r.2.2.2.Count]]⟩]) := by
  rw [Call_run (af := a_i_Source_proveSum) rfl]
  unfold i_Source_proveSum_nothing at h
  simp +decide only [a_i_Source_proveSum, b_i_Source_proveSum, go_sem, reduceIte, Nat.reduceAdd]
  have d1 := @i_Source_proveSum_nothing_1_l
  have d2 := @i_Source_proveSum_nothing_2_l
  all_goals exact go
end
noncomputable def i_SumProve (kind : Int) (tables : (List (List Ext))) (s : Source) : Option ((List (List Ext)) × (List Ext) × (List Ext) × Source × Int) :=
  (i_tablesCode kind tables).bind fun r_ =>
  br (r_ != (0 : Int)) (
    br (r_ != (0 : Int)) (
      some (([] : List (List Ext)), ([] : List Ext), ([] : List Ext), (Source.mk ([] : List Ext) (0 : Int) (([] : List UInt8)) (0 : Int)), r_)) (
      (i_Source_copied s).bind fun r_2 =>
      (i_Source_proveSum_nothing kind tables r_2).bind fun r_3 =>
      some (r_3.1, r_3.2.1, r_3.2.2.1, r_3.2.2.2, (0 : Int)))) (
    (i_SourceOK s).bind fun r_4 =>
    br (!r_4) (
      some (([] : List (List Ext)), ([] : List Ext), ([] : List Ext), (Source.mk ([] : List Ext) (0 : Int) (([] : List UInt8)) (0 : Int)), (1 : Int))) (
      (i_Source_left s).bind fun r_5 =>
      br (decide (r_5 < (6 : Int))) (
        some (([] : List (List Ext)), ([] : List Ext), ([] : List Ext), (Source.mk ([] : List Ext) (0 : Int) (([] : List UInt8)) (0 : Int)), (6 : Int))) (
        br (r_ != (0 : Int)) (
          some (([] : List (List Ext)), ([] : List Ext), ([] : List Ext), (Source.mk ([] : List Ext) (0 : Int) (([] : List UInt8)) (0 : Int)), r_)) (
          (i_Source_copied s).bind fun r_6 =>
          (i_Source_proveSum_nothing kind tables r_6).bind fun r_7 =>
          some (r_7.1, r_7.2.1, r_7.2.2.1, r_7.2.2.2, (0 : Int))))))
theorem i_SumProve_c {kind tables s r} (h : i_SumProve kind tables s = some r) : Call tab ow 25 [I kind, sl (eL eExt) tables, .agg [sl eExt s.Script, I s.At, S s.State, I s.Count]] [] = some (.tup [sl (eL eExt) r.1, sl eExt r.2.1, sl eExt r.2.2.1, .agg [sl eExt r.2.2.2.1.Script, I r.2.2.2.1.At, S r.2.2.2.1.State, I r.2.2.2.1.Count], I r.2.2.2.2], []) := by
  rw [Call_run (af := a_i_SumProve) rfl]
  unfold i_SumProve at h
  simp +decide only [a_i_SumProve, b_i_SumProve, go_sem, reduceIte, Nat.reduceAdd]
  have d1 := @i_tablesCode_c
  have d2 := @i_Source_copied_c
  have d3 := @i_Source_proveSum_nothing_c
  have d4 := @i_SourceOK_c
  have d5 := @i_Source_left_c
  all_goals exact go
noncomputable def i_SumVerify_1 (round : (List Ext)) : Option (Bool) :=
  br (decide (((round.length : Nat) : Int) > (8 : Int))) (
    some true) (
    (i_are_i_Ext_ExtOK round).bind fun r_ =>
    some (!r_))
theorem i_SumVerify_1_c {round r} (h : i_SumVerify_1 round = some r) : Call tab ow 95 [sl eExt round] [] = some (B r, []) := by
  rw [Call_run (af := a_i_SumVerify_1) rfl]
  unfold i_SumVerify_1 at h
  simp +decide only [a_i_SumVerify_1, b_i_SumVerify_1, go_sem, reduceIte, Nat.reduceAdd]
  have d1 := @i_are_i_Ext_ExtOK_c
  all_goals exact go
noncomputable def slices_IndexFunc_LLi_Ext_Li_Ext_SumVerify_1_1_s (s2 : List (List Ext)) (t : Int) : Int → Option ((Int) ⊕ (Int ⊕ (Int × Bool)))
  | t2 =>
    br (decide (t2 < t)) (
      (atL s2 t2).bind fun x =>
      (i_SumVerify_1 x).bind fun r_ =>
      br r_ (
        some (.inr (.inl t2))) (
        some (.inl (IntKind.wrap .i64 (t2 + (1 : Int)))))) (
      some (.inr (.inr (t2, decide (t2 < t)))))
@[reducible] def slices_IndexFunc_LLi_Ext_Li_Ext_SumVerify_1_1_S (s2 : List (List Ext)) (t : Int) (s : Int) : St := ⟨[(0, sl (eL eExt) s2), (1, .fn 95 []), (7, I t), (8, I s)], []⟩
@[reducible] def slices_IndexFunc_LLi_Ext_Li_Ext_SumVerify_1_1_E (s2 : List (List Ext)) (t : Int) : (Int ⊕ (Int × Bool)) → AExit × St := alt (fun e => ((.ret, ⟨[(4, I e)], []⟩) : AExit × St)) (fun e => (.exit 0, ⟨[(0, sl (eL eExt) s2), (1, .fn 95 []), (7, I t), (8, I e.1), (9, B e.2)], []⟩))
theorem slices_IndexFunc_LLi_Ext_Li_Ext_SumVerify_1_1_l {s2 t s e} (h : Loop (slices_IndexFunc_LLi_Ext_Li_Ext_SumVerify_1_1_s s2 t) s = some e) : LoopX tab ow (.close [5005]) b_slices_IndexFunc_LLi_Ext_Li_Ext_2 (slices_IndexFunc_LLi_Ext_Li_Ext_SumVerify_1_1_S s2 t s) = some (slices_IndexFunc_LLi_Ext_Li_Ext_SumVerify_1_1_E s2 t e) := by
  refine lrG (fun s o h => ?_) h
  simp only [slices_IndexFunc_LLi_Ext_Li_Ext_SumVerify_1_1_s] at h
  simp +decide only [slices_IndexFunc_LLi_Ext_Li_Ext_SumVerify_1_1_S, slices_IndexFunc_LLi_Ext_Li_Ext_SumVerify_1_1_E, b_slices_IndexFunc_LLi_Ext_Li_Ext_2, go_sem, reduceIte, Nat.reduceAdd]
  have d1 := @i_SumVerify_1_c
  all_goals exact go
noncomputable def slices_IndexFunc_LLi_Ext_Li_Ext_SumVerify_1 (s : (List (List Ext))) : Option (Int) :=
  (Loop (slices_IndexFunc_LLi_Ext_Li_Ext_SumVerify_1_1_s s ((s.length : Nat) : Int)) (0 : Int)).bind (alt (fun e_2 =>
    some e_2) (fun e_3 =>
    some (-1 : Int)))
theorem slices_IndexFunc_LLi_Ext_Li_Ext_SumVerify_1_c {s r} (h : slices_IndexFunc_LLi_Ext_Li_Ext_SumVerify_1 s = some r) : Call tab ow 182 [sl (eL eExt) s, .fn 95 []] [] = some (I r, []) := by
  rw [Call_run (af := a_slices_IndexFunc_LLi_Ext_Li_Ext) rfl]
  unfold slices_IndexFunc_LLi_Ext_Li_Ext_SumVerify_1 at h
  simp +decide only [a_slices_IndexFunc_LLi_Ext_Li_Ext, b_slices_IndexFunc_LLi_Ext_Li_Ext, go_sem, reduceIte, Nat.reduceAdd]
  have d1 := @slices_IndexFunc_LLi_Ext_Li_Ext_SumVerify_1_1_l
  all_goals exact go
noncomputable def slices_ContainsFunc_LLi_Ext_Li_Ext_SumVerify_1 (s : (List (List Ext))) : Option (Bool) :=
  (slices_IndexFunc_LLi_Ext_Li_Ext_SumVerify_1 s).bind fun r_ =>
  some (decide (r_ ≥ (0 : Int)))
theorem slices_ContainsFunc_LLi_Ext_Li_Ext_SumVerify_1_c {s r} (h : slices_ContainsFunc_LLi_Ext_Li_Ext_SumVerify_1 s = some r) : Call tab ow 94 [sl (eL eExt) s, .fn 95 []] [] = some (B r, []) := by
  rw [Call_run (af := a_slices_ContainsFunc_LLi_Ext_Li_Ext) rfl]
  unfold slices_ContainsFunc_LLi_Ext_Li_Ext_SumVerify_1 at h
  simp +decide only [a_slices_ContainsFunc_LLi_Ext_Li_Ext, b_slices_ContainsFunc_LLi_Ext_Li_Ext, go_sem, reduceIte, Nat.reduceAdd]
  have d1 := @slices_IndexFunc_LLi_Ext_Li_Ext_SumVerify_1_c
  all_goals exact go
noncomputable def i_pow_1_s : Int × Int × Int → Option ((Int × Int × Int) ⊕ ((Int × Int × Int × Bool)))
  | (a2, n2, out) =>
    br (decide (n2 > (0 : Int))) (
      br ((and64 .i64 n2 (1 : Int)) == (1 : Int)) (
        (i_mul out a2).bind fun r_ =>
        (i_mul a2 a2).bind fun r_2 =>
        some (.inl (r_2, (shr64 .i64 n2 (1 : Int)), r_))) (
        (i_mul a2 a2).bind fun r_3 =>
        some (.inl (r_3, (shr64 .i64 n2 (1 : Int)), out)))) (
      some (.inr (a2, n2, out, decide (n2 > (0 : Int)))))
@[reducible] def i_pow_1_S (s : Int × Int × Int) : St := ⟨[(0, I s.1), (1, I s.2.1), (5, I s.2.2)], []⟩
@[reducible] def i_pow_1_E : (Int × Int × Int × Bool) → AExit × St := fun e => (.exit 0, ⟨[(0, I e.1), (1, I e.2.1), (5, I e.2.2.1), (7, B e.2.2.2)], []⟩)
theorem i_pow_1_l { s e} (h : Loop (i_pow_1_s) s = some e) : LoopX tab ow (.close [6002,7002]) b_i_pow_2 (i_pow_1_S s) = some (i_pow_1_E e) := by
  refine lrG (fun s o h => ?_) h
  obtain ⟨_, _, _⟩ := s
  simp only [i_pow_1_s] at h
  simp +decide only [i_pow_1_S, i_pow_1_E, b_i_pow_2, go_sem, reduceIte, Nat.reduceAdd]
  have d1 := @i_mul_c
  all_goals exact go
noncomputable def i_pow (a : Int) (n : Int) : Option (Int) :=
  (Loop (i_pow_1_s) (a, n, (1 : Int))).bind fun e_ =>
  some e_.2.2.1
theorem i_pow_c {a n r} (h : i_pow a n = some r) : Call tab ow 293 [I a, I n] [] = some (I r, []) := by
  rw [Call_run (af := a_i_pow) rfl]
  unfold i_pow at h
  simp +decide only [a_i_pow, b_i_pow, go_sem, reduceIte, Nat.reduceAdd]
  have d1 := @i_pow_1_l
  all_goals exact go
noncomputable def i_inverse (a : Int) : Option (Int) :=
  (i_pow a (2130706431 : Int)).bind fun r_ =>
  some r_
theorem i_inverse_c {a r} (h : i_inverse a = some r) : Call tab ow 253 [I a] [] = some (I r, []) := by
  rw [Call_run (af := a_i_inverse) rfl]
  unfold i_inverse at h
  simp +decide only [a_i_inverse, b_i_inverse, go_sem, reduceIte, Nat.reduceAdd]
  have d1 := @i_pow_c
  all_goals exact go
noncomputable def i_lineAt_2_s (values3 : List Ext) (i : Int) (t4 : List Ext) (t5 : Int) (t6 : Int) (t7 : Int) (c7 : Int) (c8 : Int) (c9 : Int) (c10 : Int) (c11 : Int) (c12 : Int) (c13 : Int) (c14 : Int) : Int × Int × Int → Option ((Int × Int × Int) ⊕ ((Int × Bool × Int × Int)))
  | (t8, c15, c16) =>
    br (decide (t8 < t7)) (
      br (t8 != i) (
        (i_Ext_minus (Ext.mk c7 c8) (Ext.mk t8 (0 : Int))).bind fun r_ =>
        (i_Ext_times (Ext.mk c15 c16) r_).bind fun r_2 =>
        (i_sub i t8).bind fun r_3 =>
        (i_inverse r_3).bind fun r_4 =>
        (i_Ext_scaled r_2 r_4).bind fun r_5 =>
        some (.inl ((IntKind.wrap .i64 (t8 + (1 : Int))), r_5.A, r_5.B))) (
        some (.inl ((IntKind.wrap .i64 (t8 + (1 : Int))), c15, c16)))) (
      some (.inr (t8, decide (t8 < t7), c15, c16)))
@[reducible] def i_lineAt_2_S (values3 : List Ext) (i : Int) (t4 : List Ext) (t5 : Int) (t6 : Int) (t7 : Int) (c7 : Int) (c8 : Int) (c9 : Int) (c10 : Int) (c11 : Int) (c12 : Int) (c13 : Int) (c14 : Int) (s : Int × Int × Int) : St := ⟨[(0, sl eExt values3), (3, .ptr 1000 0 0 1), (4, .ptr 1001 0 0 1), (5, .ptr 2001 0 0 1), (6, I i), (8, .ptr 6001 0 0 1), (11, sl eExt t4), (12, I t5), (13, I t6), (20, I t7), (21, I s.1)], [(1000, ⟨2, true, [[I c7, I c8]]⟩), (1001, ⟨2, true, [[I c9, I c10]]⟩), (2001, ⟨2, true, [[I c11, I c12]]⟩), (5003, ⟨2, true, [[I c13, I c14]]⟩), (6001, ⟨2, true, [[I s.2.1, I s.2.2]]⟩)]⟩
@[reducible] def i_lineAt_2_E (values3 : List Ext) (i : Int) (t4 : List Ext) (t5 : Int) (t6 : Int) (t7 : Int) (c7 : Int) (c8 : Int) (c9 : Int) (c10 : Int) (c11 : Int) (c12 : Int) (c13 : Int) (c14 : Int) : (Int × Bool × Int × Int) → AExit × St := fun e => (.exit 2, ⟨[(0, sl eExt values3), (3, .ptr 1000 0 0 1), (4, .ptr 1001 0 0 1), (5, .ptr 2001 0 0 1), (6, I i), (8, .ptr 6001 0 0 1), (11, sl eExt t4), (12, I t5), (13, I t6), (20, I t7), (21, I e.1), (22, B e.2.1)], [(1000, ⟨2, true, [[I c7, I c8]]⟩), (1001, ⟨2, true, [[I c9, I c10]]⟩), (2001, ⟨2, true, [[I c11, I c12]]⟩), (5003, ⟨2, true, [[I c13, I c14]]⟩), (6001, ⟨2, true, [[I e.2.2.1, I e.2.2.2]]⟩)]⟩)
theorem i_lineAt_2_l {values3 i t4 t5 t6 t7 c7 c8 c9 c10 c11 c12 c13 c14 s e} (h : Loop (i_lineAt_2_s values3 i t4 t5 t6 t7 c7 c8 c9 c10 c11 c12 c13 c14) s = some e) : LoopX tab ow (.close [11004,11005,11008,11009,11010]) b_i_lineAt_7 (i_lineAt_2_S values3 i t4 t5 t6 t7 c7 c8 c9 c10 c11 c12 c13 c14 s) = some (i_lineAt_2_E values3 i t4 t5 t6 t7 c7 c8 c9 c10 c11 c12 c13 c14 e) := by
  refine lrG (fun s o h => ?_) h
  obtain ⟨_, _, _⟩ := s
  simp only [i_lineAt_2_s] at h
  simp +decide only [i_lineAt_2_S, i_lineAt_2_E, b_i_lineAt_7, go_sem, reduceIte, Nat.reduceAdd]
  have d1 := @i_Ext_minus_c
  have d2 := @i_Ext_times_c
  have d3 := @i_sub_c
  have d4 := @i_inverse_c
  have d5 := @i_Ext_scaled_c
  all_goals exact go
noncomputable def i_lineAt_1_s (values2 : List Ext) (t : List Ext) (t2 : Int) (c : Int) (c2 : Int) (c3 : Int) (c4 : Int) : Int × Int × Int → Option ((Int × Int × Int) ⊕ ((Int × Bool × Int × Int)))
  | (t3, c5, c6) =>
    br (decide (t3 < t2)) (
      (atL t t3).bind fun x2 =>
      (Loop (i_lineAt_2_s values2 t3 t t2 t3 ((values2.length : Nat) : Int) c c2 c3 c4 c5 c6 x2.A x2.B) ((0 : Int), x2.A, x2.B)).bind fun e_ =>
      (i_Ext_plus (Ext.mk c5 c6) (Ext.mk e_.2.2.1 e_.2.2.2)).bind fun r_6 =>
      some (.inl ((IntKind.wrap .i64 (t3 + (1 : Int))), r_6.A, r_6.B))) (
      some (.inr (t3, decide (t3 < t2), c5, c6)))
@[reducible] def i_lineAt_1_S (values2 : List Ext) (t : List Ext) (t2 : Int) (c : Int) (c2 : Int) (c3 : Int) (c4 : Int) (s : Int × Int × Int) : St := ⟨[(0, sl eExt values2), (3, .ptr 1000 0 0 1), (4, .ptr 1001 0 0 1), (5, .ptr 2001 0 0 1), (11, sl eExt t), (12, I t2), (13, I s.1)], [(1000, ⟨2, true, [[I c, I c2]]⟩), (1001, ⟨2, true, [[I c3, I c4]]⟩), (2001, ⟨2, true, [[I s.2.1, I s.2.2]]⟩)]⟩
@[reducible] def i_lineAt_1_E (values2 : List Ext) (t : List Ext) (t2 : Int) (c : Int) (c2 : Int) (c3 : Int) (c4 : Int) : (Int × Bool × Int × Int) → AExit × St := fun e => (.exit 0, ⟨[(0, sl eExt values2), (3, .ptr 1000 0 0 1), (4, .ptr 1001 0 0 1), (5, .ptr 2001 0 0 1), (11, sl eExt t), (12, I t2), (13, I e.1), (14, B e.2.1)], [(1000, ⟨2, true, [[I c, I c2]]⟩), (1001, ⟨2, true, [[I c3, I c4]]⟩), (2001, ⟨2, true, [[I e.2.2.1, I e.2.2.2]]⟩)]⟩)
theorem i_lineAt_1_l {values2 t t2 c c2 c3 c4 s e} (h : Loop (i_lineAt_1_s values2 t t2 c c2 c3 c4) s = some e) : LoopX tab ow (.close [5003,6001,11004,11005,11008,11009,11010,13002]) b_i_lineAt_3 (i_lineAt_1_S values2 t t2 c c2 c3 c4 s) = some (i_lineAt_1_E values2 t t2 c c2 c3 c4 e) := by
  refine lrG (fun s o h => ?_) h
  obtain ⟨_, _, _⟩ := s
  simp only [i_lineAt_1_s] at h
  simp +decide only [i_lineAt_1_S, i_lineAt_1_E, b_i_lineAt_3, go_sem, reduceIte, Nat.reduceAdd]
  have d1 := @i_lineAt_2_l
  have d2 := @i_Ext_plus_c
  all_goals exact go
noncomputable def i_lineAt (values : (List Ext)) (x : Ext) : Option (Ext) :=
  (Loop (i_lineAt_1_s values values ((values.length : Nat) : Int) x.A x.B (0 : Int) (0 : Int)) ((0 : Int), (0 : Int), (0 : Int))).bind fun e_2 =>
  some (Ext.mk e_2.2.2.1 e_2.2.2.2)
theorem i_lineAt_c {values x r} (h : i_lineAt values x = some r) : Call tab ow 183 [sl eExt values, .agg [I x.A, I x.B]] [] = some (.agg [I r.A, I r.B], []) := by
  rw [Call_run (af := a_i_lineAt) rfl]
  unfold i_lineAt at h
  simp +decide only [a_i_lineAt, b_i_lineAt, go_sem, reduceIte, Nat.reduceAdd]
  have d1 := @i_lineAt_1_l
  all_goals exact go
noncomputable def i_nowhere (a : Int) : Option (Unit) :=
  some ()
theorem i_nowhere_c {a r} (h : i_nowhere a = some r) : Call tab ow 98 [I a] [] = some (.tup [], []) := by
  rw [Call_run (af := a_i_nowhere) rfl]
  unfold i_nowhere at h
  simp +decide only [a_i_nowhere, b_i_nowhere, go_sem, reduceIte, Nat.reduceAdd]
  all_goals exact go
section
theorem i_Source_verifySum_nowhere_k0 : mkR 2000 [] = rws eExt [] := rfl
attribute [local go_sem] i_Source_verifySum_nowhere_k0
theorem i_Source_verifySum_nowhere_k1 : mkR 12005 [] = rws eExt [] := rfl
attribute [local go_sem] i_Source_verifySum_nowhere_k1
noncomputable def i_Source_verifySum_nowhere_1_s (kind2 : Int) (t : List (List Ext)) (t2 : Int) (c7 : Int) (c8 : Int) : (List Ext) × Int × (List Ext) × Int × (List UInt8) × Int × Int × Int → Option (((List Ext) × Int × (List Ext) × Int × (List UInt8) × Int × Int × Int) ⊕ (((List Ext) × Int × (List Ext) × Int × (List UInt8) × Int × Int × Int) ⊕ ((List Ext) × Int × Bool × (List Ext) × Int × (List UInt8) × Int × Int × Int)))
  | (l, t3, c, c2, c3, c4, c5, c6) =>
    br (decide (t3 < t2)) (
      (atL t t3).bind fun x =>
      (i_degreeOf kind2).bind fun r_ =>
      br (((x.length : Nat) : Int) != (IntKind.wrap .i64 (r_ + (1 : Int)))) (
        some (.inr (.inl (l, (18 : Int), c, c2, c3, c4, c5, c6)))) (
        (atL x (0 : Int)).bind fun x2 =>
        (atL x (1 : Int)).bind fun x3 =>
        (i_Ext_plus x2 x3).bind fun r_2 =>
        br (r_2.A == c5) (
          br (r_2.B == c6) (
            (i_Source_absorbExts x (Source.mk c c2 c3 c4)).bind fun r_3 =>
            (i_Source_draw r_3).bind fun r_4 =>
            (i_lineAt x r_4.1).bind fun r_5 =>
            br (fits ((l ++ ([r_4.1] : List Ext)).length) 16) (
              (i_nowhere t3).bind fun r_6 =>
              some (.inl ((l ++ ([r_4.1] : List Ext)), (IntKind.wrap .i64 (t3 + (1 : Int))), r_4.2.Script, r_4.2.At, r_4.2.State, r_4.2.Count, r_5.A, r_5.B))) (
              none)) (
            some (.inr (.inl (l, (10 : Int), c, c2, c3, c4, c5, c6))))) (
          some (.inr (.inl (l, (10 : Int), c, c2, c3, c4, c5, c6)))))) (
      some (.inr (.inr (l, t3, decide (t3 < t2), c, c2, c3, c4, c5, c6))))
@[reducible] def i_Source_verifySum_nowhere_1_S (kind2 : Int) (t : List (List Ext)) (t2 : Int) (c7 : Int) (c8 : Int) (s : (List Ext) × Int × (List Ext) × Int × (List UInt8) × Int × Int × Int) : St := ⟨[(0, .ptr 0 0 0 1), (1, I kind2), (4, .fn 98 []), (7, .ptr 1000 0 0 1), (11, .ptr 1002 0 0 1), (13, .sl 2000 0 s.1.length), (18, sl (eL eExt) t), (19, I t2), (20, I s.2.1)], [(0, ⟨4, true, [[sl eExt s.2.2.1, I s.2.2.2.1, S s.2.2.2.2.1, I s.2.2.2.2.2.1]]⟩), (1000, ⟨2, true, [[I s.2.2.2.2.2.2.1, I s.2.2.2.2.2.2.2]]⟩), (1002, ⟨2, true, [[I c7, I c8]]⟩), (2000, ⟨2, false, rws eExt s.1⟩)]⟩
@[reducible] def i_Source_verifySum_nowhere_1_E (kind2 : Int) (t : List (List Ext)) (t2 : Int) (c7 : Int) (c8 : Int) : (((List Ext) × Int × (List Ext) × Int × (List UInt8) × Int × Int × Int) ⊕ ((List Ext) × Int × Bool × (List Ext) × Int × (List UInt8) × Int × Int × Int)) → AExit × St := alt (fun e => ((.ret, ⟨[(10, .lit (.slice none 0 0)), (11, .ptr 1002 0 0 1), (12, I e.2.1)], [(0, ⟨4, true, [[sl eExt e.2.2.1, I e.2.2.2.1, S e.2.2.2.2.1, I e.2.2.2.2.2.1]]⟩), (1000, ⟨2, true, [[I e.2.2.2.2.2.2.1, I e.2.2.2.2.2.2.2]]⟩), (1002, ⟨2, true, [[I (0 : Int), I (0 : Int)]]⟩), (2000, ⟨2, false, rws eExt e.1⟩)]⟩) : AExit × St)) (fun e => (.exit 0, ⟨[(0, .ptr 0 0 0 1), (1, I kind2), (4, .fn 98 []), (7, .ptr 1000 0 0 1), (11, .ptr 1002 0 0 1), (13, .sl 2000 0 e.1.length), (18, sl (eL eExt) t), (19, I t2), (20, I e.2.1), (21, B e.2.2.1)], [(0, ⟨4, true, [[sl eExt e.2.2.2.1, I e.2.2.2.2.1, S e.2.2.2.2.2.1, I e.2.2.2.2.2.2.1]]⟩), (1000, ⟨2, true, [[I e.2.2.2.2.2.2.2.1, I e.2.2.2.2.2.2.2.2]]⟩), (1002, ⟨2, true, [[I c7, I c8]]⟩), (2000, ⟨2, false, rws eExt e.1⟩)]⟩))
theorem i_Source_verifySum_nowhere_1_l {kind2 t t2 c7 c8 s e} (h : Loop (i_Source_verifySum_nowhere_1_s kind2 t t2 c7 c8) s = some e) : LoopX tab ow (.close [6003,8006,10002,11001,11002,12002,12005,12006,13002]) b_i_Source_verifySum_3 (i_Source_verifySum_nowhere_1_S kind2 t t2 c7 c8 s) = some (i_Source_verifySum_nowhere_1_E kind2 t t2 c7 c8 e) := by
  refine lrG (fun s o h => ?_) h
  obtain ⟨_, _, _, _, _, _, _, _⟩ := s
  simp only [i_Source_verifySum_nowhere_1_s] at h
  simp +decide only [i_Source_verifySum_nowhere_1_S, i_Source_verifySum_nowhere_1_E, b_i_Source_verifySum_3, go_sem, reduceIte, Nat.reduceAdd]
  have d1 := @i_degreeOf_c
  have d2 := @i_Ext_plus_c
  have d3 := @i_Source_absorbExts_c
  have d4 := @i_Source_draw_c
  have d5 := @i_lineAt_c
  have d6 := @i_nowhere_c
  all_goals exact go
noncomputable def i_Source_verifySum_nowhere (kind : Int) (claim : Ext) (rounds : (List (List Ext))) (m : Source) : Option ((List Ext) × Ext × Int × Source) :=
  (Loop (i_Source_verifySum_nowhere_1_s kind rounds ((rounds.length : Nat) : Int) (0 : Int) (0 : Int)) (([] : List Ext), (0 : Int), m.Script, m.At, m.State, m.Count, claim.A, claim.B)).bind (alt (fun e_2 =>
    some (([] : List Ext), (Ext.mk (0 : Int) (0 : Int)), e_2.2.1, (Source.mk e_2.2.2.1 e_2.2.2.2.1 e_2.2.2.2.2.1 e_2.2.2.2.2.2.1))) (fun e_3 =>
    some (e_3.1, (Ext.mk e_3.2.2.2.2.2.2.2.1 e_3.2.2.2.2.2.2.2.2), (0 : Int), (Source.mk e_3.2.2.2.1 e_3.2.2.2.2.1 e_3.2.2.2.2.2.1 e_3.2.2.2.2.2.2.1))))
theorem i_Source_verifySum_nowhere_c {kind claim rounds m r} (h : i_Source_verifySum_nowhere kind claim rounds m = some r) : Call tab ow 97 [.ptr 0 0 0 1, I kind, .agg [I claim.A, I claim.B], sl (eL eExt) rounds, .fn 98 []] [⟨4, true, [[sl eExt m.Script, I m.At, S m.State, I m.Count]]⟩] = some (.tup [sl eExt r.1, .agg [I r.2.1.A, I r.2.1.B], I r.2.2.1], [⟨4, true, [[sl eExt r.2.2.2.Script, I r.2.2.2.At, S r.2.2.2.State, I r.2.2.2.Count]]⟩]) := by
  rw [Call_run (af := a_i_Source_verifySum) rfl]
  unfold i_Source_verifySum_nowhere at h
  simp +decide only [a_i_Source_verifySum, b_i_Source_verifySum, go_sem, reduceIte, Nat.reduceAdd]
  have d1 := @i_Source_verifySum_nowhere_1_l
  all_goals exact go
end
noncomputable def i_SumVerify (ListtoArray : Int) (a : Ext) (a2 : (List (List Ext))) (a3 : Int) (a4 : Source) : Option ((List Ext) × Ext × Source × Int) :=
  br (decide (((a2.length : Nat) : Int) > (4096 : Int))) (
    some (([] : List Ext), (Ext.mk (0 : Int) (0 : Int)), (Source.mk ([] : List Ext) (0 : Int) (([] : List UInt8)) (0 : Int)), (2 : Int))) (
    (i_ExtOK a).bind fun r_ =>
    br (!r_) (
      some (([] : List Ext), (Ext.mk (0 : Int) (0 : Int)), (Source.mk ([] : List Ext) (0 : Int) (([] : List UInt8)) (0 : Int)), (1 : Int))) (
      (i_SourceOK a4).bind fun r_2 =>
      br (!r_2) (
        some (([] : List Ext), (Ext.mk (0 : Int) (0 : Int)), (Source.mk ([] : List Ext) (0 : Int) (([] : List UInt8)) (0 : Int)), (1 : Int))) (
        (slices_ContainsFunc_LLi_Ext_Li_Ext_SumVerify_1 a2).bind fun r_3 =>
        br r_3 (
          some (([] : List Ext), (Ext.mk (0 : Int) (0 : Int)), (Source.mk ([] : List Ext) (0 : Int) (([] : List UInt8)) (0 : Int)), (1 : Int))) (
          (i_degreeOf ListtoArray).bind fun r_4 =>
          br (r_4 == (0 : Int)) (
            some (([] : List Ext), (Ext.mk (0 : Int) (0 : Int)), (Source.mk ([] : List Ext) (0 : Int) (([] : List UInt8)) (0 : Int)), (4 : Int))) (
            (i_in a3 (0 : Int) (6 : Int)).bind fun r_5 =>
            br (!r_5) (
              some (([] : List Ext), (Ext.mk (0 : Int) (0 : Int)), (Source.mk ([] : List Ext) (0 : Int) (([] : List UInt8)) (0 : Int)), (4 : Int))) (
              (i_Source_left a4).bind fun r_6 =>
              br (decide (r_6 < (6 : Int))) (
                some (([] : List Ext), (Ext.mk (0 : Int) (0 : Int)), (Source.mk ([] : List Ext) (0 : Int) (([] : List UInt8)) (0 : Int)), (6 : Int))) (
                br (((a2.length : Nat) : Int) != a3) (
                  some (([] : List Ext), (Ext.mk (0 : Int) (0 : Int)), (Source.mk ([] : List Ext) (0 : Int) (([] : List UInt8)) (0 : Int)), (18 : Int))) (
                  (i_Source_copied a4).bind fun r_7 =>
                  (i_Source_verifySum_nowhere ListtoArray a a2 r_7).bind fun r_8 =>
                  br (r_8.2.2.1 != (0 : Int)) (
                    some (([] : List Ext), (Ext.mk (0 : Int) (0 : Int)), (Source.mk ([] : List Ext) (0 : Int) (([] : List UInt8)) (0 : Int)), r_8.2.2.1)) (
                    some (r_8.1, r_8.2.1, r_8.2.2.2, (0 : Int)))))))))))
theorem i_SumVerify_c {ListtoArray a a2 a3 a4 r} (h : i_SumVerify ListtoArray a a2 a3 a4 = some r) : Call tab ow 26 [I ListtoArray, .agg [I a.A, I a.B], sl (eL eExt) a2, I a3, .agg [sl eExt a4.Script, I a4.At, S a4.State, I a4.Count]] [] = some (.tup [sl eExt r.1, .agg [I r.2.1.A, I r.2.1.B], .agg [sl eExt r.2.2.1.Script, I r.2.2.1.At, S r.2.2.1.State, I r.2.2.1.Count], I r.2.2.2], []) := by
  rw [Call_run (af := a_i_SumVerify) rfl]
  unfold i_SumVerify at h
  simp +decide only [a_i_SumVerify, b_i_SumVerify, go_sem, reduceIte, Nat.reduceAdd]
  have d1 := @i_ExtOK_c
  have d2 := @i_SourceOK_c
  have d3 := @slices_ContainsFunc_LLi_Ext_Li_Ext_SumVerify_1_c
  have d4 := @i_degreeOf_c
  have d5 := @i_in_c
  have d6 := @i_Source_left_c
  have d7 := @i_Source_copied_c
  have d8 := @i_Source_verifySum_nowhere_c
  all_goals exact go
end Go.AI.Fn

set_option linter.unusedVariables false
set_option linter.unusedSimpArgs false
set_option maxRecDepth 100000
set_option maxHeartbeats 1000000
namespace Go.AI.Fn
noncomputable def s_l08Rounds_1_s (rounds2 : List (List Ext)) : Int → Option ((Int) ⊕ (Unit ⊕ (Int × Bool)))
  | i =>
    br (decide (i < ((rounds2.length : Nat) : Int))) (
      (atL rounds2 i).bind fun x =>
      br (decide (((x.length : Nat) : Int) > (8 : Int))) (
        some (.inr (.inl ()))) (
        (atL rounds2 i).bind fun x2 =>
        (s_l02List x2).bind fun r_ =>
        br (!r_) (
          some (.inr (.inl ()))) (
          some (.inl (IntKind.wrap .i64 (i + (1 : Int))))))) (
      some (.inr (.inr (i, decide (i < ((rounds2.length : Nat) : Int))))))
@[reducible] def s_l08Rounds_1_S (rounds2 : List (List Ext)) (s : Int) : St := ⟨[(0, sl (eL eExt) rounds2), (3, I s)], []⟩
@[reducible] def s_l08Rounds_1_E (rounds2 : List (List Ext)) : (Unit ⊕ (Int × Bool)) → AExit × St := alt (fun e => ((.ret, ⟨[(2, I (1 : Int))], []⟩) : AExit × St)) (fun e => (.exit 0, ⟨[(0, sl (eL eExt) rounds2), (3, I e.1), (10, B e.2)], []⟩))
theorem s_l08Rounds_1_l {rounds2 s e} (h : Loop (s_l08Rounds_1_s rounds2) s = some e) : LoopX tab ow (.close [7011]) b_s_l08Rounds_4 (s_l08Rounds_1_S rounds2 s) = some (s_l08Rounds_1_E rounds2 e) := by
  refine lrG (fun s o h => ?_) h
  simp only [s_l08Rounds_1_s] at h
  simp +decide only [s_l08Rounds_1_S, s_l08Rounds_1_E, b_s_l08Rounds_4, go_sem, reduceIte, Nat.reduceAdd]
  have d1 := @s_l02List_c
  all_goals exact go
noncomputable def s_l08Rounds (rounds : (List (List Ext))) : Option (Int) :=
  br (decide (((rounds.length : Nat) : Int) > (4096 : Int))) (
    some (2 : Int)) (
    (Loop (s_l08Rounds_1_s rounds) (0 : Int)).bind (alt (fun e_2 =>
      some (1 : Int)) (fun e_3 =>
      some (0 : Int))))
theorem s_l08Rounds_c {rounds r} (h : s_l08Rounds rounds = some r) : Call tab ow 99 [sl (eL eExt) rounds] [] = some (I r, []) := by
  rw [Call_run (af := a_s_l08Rounds) rfl]
  unfold s_l08Rounds at h
  simp +decide only [a_s_l08Rounds, b_s_l08Rounds, go_sem, reduceIte, Nat.reduceAdd]
  have d1 := @s_l08Rounds_1_l
  all_goals exact go
noncomputable def s_l08Kind (kind : Int) : Option (Bool) :=
  br (kind == (1 : Int)) (
    some true) (
    some (kind == (2 : Int)))
theorem s_l08Kind_c {kind r} (h : s_l08Kind kind = some r) : Call tab ow 102 [I kind] [] = some (B r, []) := by
  rw [Call_run (af := a_s_l08Kind) rfl]
  unfold s_l08Kind at h
  simp +decide only [a_s_l08Kind, b_s_l08Kind, go_sem, reduceIte, Nat.reduceAdd]
  all_goals exact go
noncomputable def s_l08Degree (kind : Int) : Option (Int) :=
  some (IntKind.wrap .i64 (kind + (1 : Int)))
theorem s_l08Degree_c {kind r} (h : s_l08Degree kind = some r) : Call tab ow 186 [I kind] [] = some (I r, []) := by
  rw [Call_run (af := a_s_l08Degree) rfl]
  unfold s_l08Degree at h
  simp +decide only [a_s_l08Degree, b_s_l08Degree, go_sem, reduceIte, Nat.reduceAdd]
  all_goals exact go
noncomputable def s_l01Add (a : Int) (b : Int) : Option (Int) :=
  some ((IntKind.wrap .i64 (a + b)).tmod (2130706433 : Int))
theorem s_l01Add_c {a b r} (h : s_l01Add a b = some r) : Call tab ow 254 [I a, I b] [] = some (I r, []) := by
  rw [Call_run (af := a_s_l01Add) rfl]
  unfold s_l01Add at h
  simp +decide only [a_s_l01Add, b_s_l01Add, go_sem, reduceIte, Nat.reduceAdd]
  all_goals exact go
noncomputable def s_l02Add (a : Ext) (b : Ext) : Option (Ext) :=
  (s_l01Add a.A b.A).bind fun r_ =>
  (s_l01Add a.B b.B).bind fun r_2 =>
  some (Ext.mk r_ r_2)
theorem s_l02Add_c {a b r} (h : s_l02Add a b = some r) : Call tab ow 187 [.agg [I a.A, I a.B], .agg [I b.A, I b.B]] [] = some (.agg [I r.A, I r.B], []) := by
  rw [Call_run (af := a_s_l02Add) rfl]
  unfold s_l02Add at h
  simp +decide only [a_s_l02Add, b_s_l02Add, go_sem, reduceIte, Nat.reduceAdd]
  have d1 := @s_l01Add_c
  all_goals exact go
section
theorem s_l02Bytes_k0 : mkR 2000 [] = rws eU8 [] := rfl
attribute [local go_sem] s_l02Bytes_k0
noncomputable def s_l02Bytes_1_s (list2 : List Ext) : (List UInt8) × Int → Option (((List UInt8) × Int) ⊕ (((List UInt8) × Int × Bool)))
  | (l, i) =>
    br (decide (i < ((list2.length : Nat) : Int))) (
      (atL list2 i).bind fun x =>
      (s_l02Number x.A (4 : Int)).bind fun r_ =>
      br (fits ((l ++ r_).length) 1) (
        (atL list2 i).bind fun x2 =>
        (s_l02Number x2.B (4 : Int)).bind fun r_2 =>
        br (fits (((l ++ r_) ++ r_2).length) 1) (
          some (.inl (((l ++ r_) ++ r_2), (IntKind.wrap .i64 (i + (1 : Int)))))) (
          none)) (
        none)) (
      some (.inr (l, i, decide (i < ((list2.length : Nat) : Int)))))
@[reducible] def s_l02Bytes_1_S (list2 : List Ext) (s : (List UInt8) × Int) : St := ⟨[(0, sl eExt list2), (3, .sl 2000 0 s.1.length), (4, I s.2)], [(2000, ⟨1, false, rws eU8 s.1⟩)]⟩
@[reducible] def s_l02Bytes_1_E (list2 : List Ext) : ((List UInt8) × Int × Bool) → AExit × St := fun e => (.exit 0, ⟨[(0, sl eExt list2), (3, .sl 2000 0 e.1.length), (4, I e.2.1), (9, B e.2.2)], [(2000, ⟨1, false, rws eU8 e.1⟩)]⟩)
theorem s_l02Bytes_1_l {list2 s e} (h : Loop (s_l02Bytes_1_s list2) s = some e) : LoopX tab ow (.close [6006,6007,6013,6014]) b_s_l02Bytes_3 (s_l02Bytes_1_S list2 s) = some (s_l02Bytes_1_E list2 e) := by
  refine lrG (fun s o h => ?_) h
  obtain ⟨_, _⟩ := s
  simp only [s_l02Bytes_1_s] at h
  simp +decide only [s_l02Bytes_1_S, s_l02Bytes_1_E, b_s_l02Bytes_3, go_sem, reduceIte, Nat.reduceAdd]
  have d1 := @s_l02Number_c
  all_goals exact go
noncomputable def s_l02Bytes (list : (List Ext)) : Option ((List UInt8)) :=
  (Loop (s_l02Bytes_1_s list) (([] : List UInt8), (0 : Int))).bind fun e_ =>
  some e_.1
theorem s_l02Bytes_c {list r} (h : s_l02Bytes list = some r) : Call tab ow 210 [sl eExt list] [] = some (sl eU8 r, []) := by
  rw [Call_run (af := a_s_l02Bytes) rfl]
  unfold s_l02Bytes at h
  simp +decide only [a_s_l02Bytes, b_s_l02Bytes, go_sem, reduceIte, Nat.reduceAdd]
  have d1 := @s_l02Bytes_1_l
  all_goals exact go
end
noncomputable def s_l05Exts (s : Source) (list : (List Ext)) : Option (Source) :=
  (s_l02Bytes list).bind fun r_ =>
  (s_l05Absorb s r_).bind fun r_2 =>
  some r_2
theorem s_l05Exts_c {s list r} (h : s_l05Exts s list = some r) : Call tab ow 188 [.agg [sl eExt s.Script, I s.At, S s.State, I s.Count], sl eExt list] [] = some (.agg [sl eExt r.Script, I r.At, S r.State, I r.Count], []) := by
  rw [Call_run (af := a_s_l05Exts) rfl]
  unfold s_l05Exts at h
  simp +decide only [a_s_l05Exts, b_s_l05Exts, go_sem, reduceIte, Nat.reduceAdd]
  have d1 := @s_l02Bytes_c
  have d2 := @s_l05Absorb_c
  all_goals exact go
noncomputable def s_l02Of (n : Int) : Option (Ext) :=
  some (Ext.mk n (0 : Int))
theorem s_l02Of_c {n r} (h : s_l02Of n = some r) : Call tab ow 257 [I n] [] = some (.agg [I r.A, I r.B], []) := by
  rw [Call_run (af := a_s_l02Of) rfl]
  unfold s_l02Of at h
  simp +decide only [a_s_l02Of, b_s_l02Of, go_sem, reduceIte, Nat.reduceAdd]
  all_goals exact go
noncomputable def s_l01Sub (a : Int) (b : Int) : Option (Int) :=
  some ((IntKind.wrap .i64 ((IntKind.wrap .i64 (a + (2130706433 : Int))) - b)).tmod (2130706433 : Int))
theorem s_l01Sub_c {a b r} (h : s_l01Sub a b = some r) : Call tab ow 259 [I a, I b] [] = some (I r, []) := by
  rw [Call_run (af := a_s_l01Sub) rfl]
  unfold s_l01Sub at h
  simp +decide only [a_s_l01Sub, b_s_l01Sub, go_sem, reduceIte, Nat.reduceAdd]
  all_goals exact go
noncomputable def s_l02Sub (a : Ext) (b : Ext) : Option (Ext) :=
  (s_l01Sub a.A b.A).bind fun r_ =>
  (s_l01Sub a.B b.B).bind fun r_2 =>
  some (Ext.mk r_ r_2)
theorem s_l02Sub_c {a b r} (h : s_l02Sub a b = some r) : Call tab ow 256 [.agg [I a.A, I a.B], .agg [I b.A, I b.B]] [] = some (.agg [I r.A, I r.B], []) := by
  rw [Call_run (af := a_s_l02Sub) rfl]
  unfold s_l02Sub at h
  simp +decide only [a_s_l02Sub, b_s_l02Sub, go_sem, reduceIte, Nat.reduceAdd]
  have d1 := @s_l01Sub_c
  all_goals exact go
noncomputable def s_l01Mul (a : Int) (b : Int) : Option (Int) :=
  some ((IntKind.wrap .i64 (a * b)).tmod (2130706433 : Int))
theorem s_l01Mul_c {a b r} (h : s_l01Mul a b = some r) : Call tab ow 258 [I a, I b] [] = some (I r, []) := by
  rw [Call_run (af := a_s_l01Mul) rfl]
  unfold s_l01Mul at h
  simp +decide only [a_s_l01Mul, b_s_l01Mul, go_sem, reduceIte, Nat.reduceAdd]
  all_goals exact go
noncomputable def s_l02Mul (a : Ext) (b : Ext) : Option (Ext) :=
  (s_l01Mul a.A b.A).bind fun r_ =>
  (s_l01Mul a.B b.B).bind fun r_2 =>
  (s_l01Add r_ ((IntKind.wrap .i64 ((3 : Int) * r_2)).tmod (2130706433 : Int))).bind fun r_3 =>
  (s_l01Mul a.A b.B).bind fun r_4 =>
  (s_l01Mul a.B b.A).bind fun r_5 =>
  (s_l01Add r_4 r_5).bind fun r_6 =>
  some (Ext.mk r_3 r_6)
theorem s_l02Mul_c {a b r} (h : s_l02Mul a b = some r) : Call tab ow 255 [.agg [I a.A, I a.B], .agg [I b.A, I b.B]] [] = some (.agg [I r.A, I r.B], []) := by
  rw [Call_run (af := a_s_l02Mul) rfl]
  unfold s_l02Mul at h
  simp +decide only [a_s_l02Mul, b_s_l02Mul, go_sem, reduceIte, Nat.reduceAdd]
  have d1 := @s_l01Mul_c
  have d2 := @s_l01Add_c
  all_goals exact go
noncomputable def s_l01Pow_1_s : Int × Int × Int → Option ((Int × Int × Int) ⊕ ((Int × Int × Int × Bool)))
  | (a2, n2, r_) =>
    br (decide (n2 > (0 : Int))) (
      br ((n2.tmod (2 : Int)) == (1 : Int)) (
        (s_l01Mul r_ a2).bind fun r_2 =>
        (s_l01Mul a2 a2).bind fun r_3 =>
        some (.inl (r_3, (IntKind.wrap .i64 (n2.tdiv (2 : Int))), r_2))) (
        (s_l01Mul a2 a2).bind fun r_4 =>
        some (.inl (r_4, (IntKind.wrap .i64 (n2.tdiv (2 : Int))), r_)))) (
      some (.inr (a2, n2, r_, decide (n2 > (0 : Int)))))
@[reducible] def s_l01Pow_1_S (s : Int × Int × Int) : St := ⟨[(0, I s.1), (1, I s.2.1), (5, I s.2.2)], []⟩
@[reducible] def s_l01Pow_1_E : (Int × Int × Int × Bool) → AExit × St := fun e => (.exit 0, ⟨[(0, I e.1), (1, I e.2.1), (5, I e.2.2.1), (7, B e.2.2.2)], []⟩)
theorem s_l01Pow_1_l { s e} (h : Loop (s_l01Pow_1_s) s = some e) : LoopX tab ow (.close [5002,6002]) b_s_l01Pow_2 (s_l01Pow_1_S s) = some (s_l01Pow_1_E e) := by
  refine lrG (fun s o h => ?_) h
  obtain ⟨_, _, _⟩ := s
  simp only [s_l01Pow_1_s] at h
  simp +decide only [s_l01Pow_1_S, s_l01Pow_1_E, b_s_l01Pow_2, go_sem, reduceIte, Nat.reduceAdd]
  have d1 := @s_l01Mul_c
  all_goals exact go
noncomputable def s_l01Pow (a : Int) (n : Int) : Option (Int) :=
  (Loop (s_l01Pow_1_s) (a, n, (1 : Int))).bind fun e_ =>
  some e_.2.2.1
theorem s_l01Pow_c {a n r} (h : s_l01Pow a n = some r) : Call tab ow 294 [I a, I n] [] = some (I r, []) := by
  rw [Call_run (af := a_s_l01Pow) rfl]
  unfold s_l01Pow at h
  simp +decide only [a_s_l01Pow, b_s_l01Pow, go_sem, reduceIte, Nat.reduceAdd]
  have d1 := @s_l01Pow_1_l
  all_goals exact go
noncomputable def s_l01Inverse (a : Int) : Option (Int) :=
  (s_l01Pow a (2130706431 : Int)).bind fun r_ =>
  some r_
theorem s_l01Inverse_c {a r} (h : s_l01Inverse a = some r) : Call tab ow 260 [I a] [] = some (I r, []) := by
  rw [Call_run (af := a_s_l01Inverse) rfl]
  unfold s_l01Inverse at h
  simp +decide only [a_s_l01Inverse, b_s_l01Inverse, go_sem, reduceIte, Nat.reduceAdd]
  have d1 := @s_l01Pow_c
  all_goals exact go
noncomputable def s_l06Line_2_s (values3 : List Ext) (i2 : Int) (c7 : Int) (c8 : Int) (c9 : Int) (c10 : Int) (c11 : Int) (c12 : Int) : Int × Int × Int × Int → Option ((Int × Int × Int × Int) ⊕ ((Int × Int × Bool × Int × Int)))
  | (d, k, c13, c14) =>
    br (decide (k < ((values3.length : Nat) : Int))) (
      br (k != i2) (
        (s_l02Of k).bind fun r_ =>
        (s_l02Sub (Ext.mk c7 c8) r_).bind fun r_2 =>
        (s_l02Mul (Ext.mk c13 c14) r_2).bind fun r_3 =>
        (s_l01Sub i2 k).bind fun r_4 =>
        (s_l01Mul d r_4).bind fun r_5 =>
        some (.inl (r_5, (IntKind.wrap .i64 (k + (1 : Int))), r_3.A, r_3.B))) (
        some (.inl (d, (IntKind.wrap .i64 (k + (1 : Int))), c13, c14)))) (
      some (.inr (d, k, decide (k < ((values3.length : Nat) : Int)), c13, c14)))
@[reducible] def s_l06Line_2_S (values3 : List Ext) (i2 : Int) (c7 : Int) (c8 : Int) (c9 : Int) (c10 : Int) (c11 : Int) (c12 : Int) (s : Int × Int × Int × Int) : St := ⟨[(0, sl eExt values3), (3, .ptr 1000 0 0 1), (4, .ptr 1001 0 0 1), (5, .ptr 2001 0 0 1), (6, I i2), (7, .ptr 6004 0 0 1), (8, I s.1), (9, I s.2.1)], [(1000, ⟨2, true, [[I c7, I c8]]⟩), (1001, ⟨2, true, [[I c9, I c10]]⟩), (2001, ⟨2, true, [[I c11, I c12]]⟩), (6004, ⟨2, true, [[I s.2.2.1, I s.2.2.2]]⟩)]⟩
@[reducible] def s_l06Line_2_E (values3 : List Ext) (i2 : Int) (c7 : Int) (c8 : Int) (c9 : Int) (c10 : Int) (c11 : Int) (c12 : Int) : (Int × Int × Bool × Int × Int) → AExit × St := fun e => (.exit 2, ⟨[(0, sl eExt values3), (3, .ptr 1000 0 0 1), (4, .ptr 1001 0 0 1), (5, .ptr 2001 0 0 1), (6, I i2), (7, .ptr 6004 0 0 1), (8, I e.1), (9, I e.2.1), (24, B e.2.2.1)], [(1000, ⟨2, true, [[I c7, I c8]]⟩), (1001, ⟨2, true, [[I c9, I c10]]⟩), (2001, ⟨2, true, [[I c11, I c12]]⟩), (6004, ⟨2, true, [[I e.2.2.2.1, I e.2.2.2.2]]⟩)]⟩)
theorem s_l06Line_2_l {values3 i2 c7 c8 c9 c10 c11 c12 s e} (h : Loop (s_l06Line_2_s values3 i2 c7 c8 c9 c10 c11 c12) s = some e) : LoopX tab ow (.close [12003,12004,12005,13003,13004]) b_s_l06Line_8 (s_l06Line_2_S values3 i2 c7 c8 c9 c10 c11 c12 s) = some (s_l06Line_2_E values3 i2 c7 c8 c9 c10 c11 c12 e) := by
  refine lrG (fun s o h => ?_) h
  obtain ⟨_, _, _, _⟩ := s
  simp only [s_l06Line_2_s] at h
  simp +decide only [s_l06Line_2_S, s_l06Line_2_E, b_s_l06Line_8, go_sem, reduceIte, Nat.reduceAdd]
  have d1 := @s_l02Of_c
  have d2 := @s_l02Sub_c
  have d3 := @s_l02Mul_c
  have d4 := @s_l01Sub_c
  have d5 := @s_l01Mul_c
  all_goals exact go
noncomputable def s_l06Line_1_s (values2 : List Ext) (c : Int) (c2 : Int) (c3 : Int) (c4 : Int) : Int × Int × Int → Option ((Int × Int × Int) ⊕ ((Int × Bool × Int × Int)))
  | (i, c5, c6) =>
    br (decide (i < ((values2.length : Nat) : Int))) (
      (atL values2 i).bind fun x2 =>
      (Loop (s_l06Line_2_s values2 i c c2 c3 c4 c5 c6) ((1 : Int), (0 : Int), x2.A, x2.B)).bind fun e_ =>
      (s_l01Inverse e_.1).bind fun r_6 =>
      (s_l02Of r_6).bind fun r_7 =>
      (s_l02Mul (Ext.mk e_.2.2.2.1 e_.2.2.2.2) r_7).bind fun r_8 =>
      (s_l02Add (Ext.mk c5 c6) r_8).bind fun r_9 =>
      some (.inl ((IntKind.wrap .i64 (i + (1 : Int))), r_9.A, r_9.B))) (
      some (.inr (i, decide (i < ((values2.length : Nat) : Int)), c5, c6)))
@[reducible] def s_l06Line_1_S (values2 : List Ext) (c : Int) (c2 : Int) (c3 : Int) (c4 : Int) (s : Int × Int × Int) : St := ⟨[(0, sl eExt values2), (3, .ptr 1000 0 0 1), (4, .ptr 1001 0 0 1), (5, .ptr 2001 0 0 1), (6, I s.1)], [(1000, ⟨2, true, [[I c, I c2]]⟩), (1001, ⟨2, true, [[I c3, I c4]]⟩), (2001, ⟨2, true, [[I s.2.1, I s.2.2]]⟩)]⟩
@[reducible] def s_l06Line_1_E (values2 : List Ext) (c : Int) (c2 : Int) (c3 : Int) (c4 : Int) : (Int × Bool × Int × Int) → AExit × St := fun e => (.exit 0, ⟨[(0, sl eExt values2), (3, .ptr 1000 0 0 1), (4, .ptr 1001 0 0 1), (5, .ptr 2001 0 0 1), (6, I e.1), (14, B e.2.1)], [(1000, ⟨2, true, [[I c, I c2]]⟩), (1001, ⟨2, true, [[I c3, I c4]]⟩), (2001, ⟨2, true, [[I e.2.2.1, I e.2.2.2]]⟩)]⟩)
theorem s_l06Line_1_l {values2 c c2 c3 c4 s e} (h : Loop (s_l06Line_1_s values2 c c2 c3 c4) s = some e) : LoopX tab ow (.close [6004,12003,12004,12005,13003,13004,14003,14004,14005,14006]) b_s_l06Line_3 (s_l06Line_1_S values2 c c2 c3 c4 s) = some (s_l06Line_1_E values2 c c2 c3 c4 e) := by
  refine lrG (fun s o h => ?_) h
  obtain ⟨_, _, _⟩ := s
  simp only [s_l06Line_1_s] at h
  simp +decide only [s_l06Line_1_S, s_l06Line_1_E, b_s_l06Line_3, go_sem, reduceIte, Nat.reduceAdd]
  have d1 := @s_l06Line_2_l
  have d2 := @s_l01Inverse_c
  have d3 := @s_l02Of_c
  have d4 := @s_l02Mul_c
  have d5 := @s_l02Add_c
  all_goals exact go
noncomputable def s_l06Line (values : (List Ext)) (x : Ext) : Option (Ext) :=
  (Loop (s_l06Line_1_s values x.A x.B (0 : Int) (0 : Int)) ((0 : Int), (0 : Int), (0 : Int))).bind fun e_2 =>
  some (Ext.mk e_2.2.2.1 e_2.2.2.2)
theorem s_l06Line_c {values x r} (h : s_l06Line values x = some r) : Call tab ow 189 [sl eExt values, .agg [I x.A, I x.B]] [] = some (.agg [I r.A, I r.B], []) := by
  rw [Call_run (af := a_s_l06Line) rfl]
  unfold s_l06Line at h
  simp +decide only [a_s_l06Line, b_s_l06Line, go_sem, reduceIte, Nat.reduceAdd]
  have d1 := @s_l06Line_1_l
  all_goals exact go
section
theorem s_l08Verify_k0 : mkR 3000 [] = rws eExt [] := rfl
attribute [local go_sem] s_l08Verify_k0
theorem s_l08Verify_k1 : mkR 4000 [] = rws eExt [] := rfl
attribute [local go_sem] s_l08Verify_k1
theorem s_l08Verify_k2 : mkR 10000 [] = rws eExt [] := rfl
attribute [local go_sem] s_l08Verify_k2
theorem s_l08Verify_k3 : mkR 17002 [] = rws eExt [] := rfl
attribute [local go_sem] s_l08Verify_k3
theorem s_l08Verify_k4 : mkR 12000 [] = rws eExt [] := rfl
attribute [local go_sem] s_l08Verify_k4
noncomputable def s_l08Verify_1_s (ListtoArray2 : Int) (t : List (List Ext)) (t2 : Int) (c7 : Int) (c8 : Int) (c9 : Int) (c10 : List UInt8) (c11 : Int) : (List Ext) × Int × Int × Int × (List Ext) × Int × (List UInt8) × Int → Option (((List Ext) × Int × Int × Int × (List Ext) × Int × (List UInt8) × Int) ⊕ (((List Ext) × (List Ext) × Int × Int × (List Ext) × Int × (List UInt8) × Int × (List Ext) × Int × (List UInt8) × Int) ⊕ ((List Ext) × (List Ext) × Int × Int × (List Ext) × Int × (List UInt8) × Int × (List Ext) × Int × (List UInt8) × Int) ⊕ ((List Ext) × Int × Bool × Int × Int × (List Ext) × Int × (List UInt8) × Int)))
  | (l, t3, c, c2, c3, c4, c5, c6) =>
    br (decide (t3 < t2)) (
      (atL t t3).bind fun x =>
      (s_l08Degree ListtoArray2).bind fun r_ =>
      br (((x.length : Nat) : Int) != (IntKind.wrap .i64 (r_ + (1 : Int)))) (
        some (.inr (.inl (l, ([] : List Ext), c, c2, c3, c4, c5, c6, c3, c4, c5, c6)))) (
        (atL x (0 : Int)).bind fun x2 =>
        (atL x (1 : Int)).bind fun x3 =>
        (s_l02Add x2 x3).bind fun r_2 =>
        br (r_2.A == c) (
          br (r_2.B == c2) (
            (s_l05Exts (Source.mk c3 c4 c5 c6) x).bind fun r_3 =>
            (s_l05Draw r_3).bind fun r_4 =>
            (s_l06Line x r_4.2).bind fun r_5 =>
            br (fits ((l ++ ([r_4.2] : List Ext)).length) 16) (
              some (.inl ((l ++ ([r_4.2] : List Ext)), (IntKind.wrap .i64 (t3 + (1 : Int))), r_5.A, r_5.B, r_4.1.Script, r_4.1.At, r_4.1.State, r_4.1.Count))) (
              none)) (
            some (.inr (.inr (.inl (l, ([] : List Ext), c, c2, c3, c4, c5, c6, c3, c4, c5, c6)))))) (
          some (.inr (.inr (.inl (l, ([] : List Ext), c, c2, c3, c4, c5, c6, c3, c4, c5, c6))))))) (
      some (.inr (.inr (.inr (l, t3, decide (t3 < t2), c, c2, c3, c4, c5, c6)))))
@[reducible] def s_l08Verify_1_S (ListtoArray2 : Int) (t : List (List Ext)) (t2 : Int) (c7 : Int) (c8 : Int) (c9 : Int) (c10 : List UInt8) (c11 : Int) (s : (List Ext) × Int × Int × Int × (List Ext) × Int × (List UInt8) × Int) : St := ⟨[(0, I ListtoArray2), (2, sl (eL eExt) t), (3, I t2), (6, .ptr 1000 0 0 1), (9, .ptr 1001 0 0 1), (11, .ptr 1003 0 0 1), (12, .ptr 1004 0 0 1), (14, .sl 4000 0 s.1.length), (15, I s.2.1)], [(1000, ⟨2, true, [[I s.2.2.1, I s.2.2.2.1]]⟩), (1001, ⟨4, true, [[sl eExt s.2.2.2.2.1, I s.2.2.2.2.2.1, S s.2.2.2.2.2.2.1, I s.2.2.2.2.2.2.2]]⟩), (1003, ⟨2, true, [[I c7, I c8]]⟩), (1004, ⟨4, true, [[.lit (.slice none 0 0), I c9, S c10, I c11]]⟩), (4000, ⟨2, false, rws eExt s.1⟩)]⟩
@[reducible] def s_l08Verify_1_E (ListtoArray2 : Int) (t : List (List Ext)) (t2 : Int) (c7 : Int) (c8 : Int) (c9 : Int) (c10 : List UInt8) (c11 : Int) : (((List Ext) × (List Ext) × Int × Int × (List Ext) × Int × (List UInt8) × Int × (List Ext) × Int × (List UInt8) × Int) ⊕ ((List Ext) × (List Ext) × Int × Int × (List Ext) × Int × (List UInt8) × Int × (List Ext) × Int × (List UInt8) × Int) ⊕ ((List Ext) × Int × Bool × Int × Int × (List Ext) × Int × (List UInt8) × Int)) → AExit × St := alt (fun e => ((.ret, ⟨[(10, .sl 10000 0 e.2.1.length), (11, .ptr 1003 0 0 1), (12, .ptr 1004 0 0 1), (13, I (18 : Int))], [(1000, ⟨2, true, [[I e.2.2.1, I e.2.2.2.1]]⟩), (1001, ⟨4, true, [[sl eExt e.2.2.2.2.1, I e.2.2.2.2.2.1, S e.2.2.2.2.2.2.1, I e.2.2.2.2.2.2.2.1]]⟩), (1003, ⟨2, true, [[I (0 : Int), I (0 : Int)]]⟩), (1004, ⟨4, true, [[sl eExt e.2.2.2.2.2.2.2.2.1, I e.2.2.2.2.2.2.2.2.2.1, S e.2.2.2.2.2.2.2.2.2.2.1, I e.2.2.2.2.2.2.2.2.2.2.2]]⟩), (4000, ⟨2, false, rws eExt e.1⟩), (10000, ⟨2, false, rws eExt e.2.1⟩)]⟩) : AExit × St)) (alt (fun e => ((.ret, ⟨[(10, .sl 12000 0 e.2.1.length), (11, .ptr 1003 0 0 1), (12, .ptr 1004 0 0 1), (13, I (10 : Int))], [(1000, ⟨2, true, [[I e.2.2.1, I e.2.2.2.1]]⟩), (1001, ⟨4, true, [[sl eExt e.2.2.2.2.1, I e.2.2.2.2.2.1, S e.2.2.2.2.2.2.1, I e.2.2.2.2.2.2.2.1]]⟩), (1003, ⟨2, true, [[I (0 : Int), I (0 : Int)]]⟩), (1004, ⟨4, true, [[sl eExt e.2.2.2.2.2.2.2.2.1, I e.2.2.2.2.2.2.2.2.2.1, S e.2.2.2.2.2.2.2.2.2.2.1, I e.2.2.2.2.2.2.2.2.2.2.2]]⟩), (4000, ⟨2, false, rws eExt e.1⟩), (12000, ⟨2, false, rws eExt e.2.1⟩)]⟩) : AExit × St)) (fun e => (.exit 0, ⟨[(0, I ListtoArray2), (2, sl (eL eExt) t), (3, I t2), (6, .ptr 1000 0 0 1), (9, .ptr 1001 0 0 1), (11, .ptr 1003 0 0 1), (12, .ptr 1004 0 0 1), (14, .sl 4000 0 e.1.length), (15, I e.2.1), (29, B e.2.2.1)], [(1000, ⟨2, true, [[I e.2.2.2.1, I e.2.2.2.2.1]]⟩), (1001, ⟨4, true, [[sl eExt e.2.2.2.2.2.1, I e.2.2.2.2.2.2.1, S e.2.2.2.2.2.2.2.1, I e.2.2.2.2.2.2.2.2]]⟩), (1003, ⟨2, true, [[I c7, I c8]]⟩), (1004, ⟨4, true, [[.lit (.slice none 0 0), I c9, S c10, I c11]]⟩), (4000, ⟨2, false, rws eExt e.1⟩)]⟩)))
theorem s_l08Verify_1_l {ListtoArray2 t t2 c7 c8 c9 c10 c11 s e} (h : Loop (s_l08Verify_1_s ListtoArray2 t t2 c7 c8 c9 c10 c11) s = some e) : LoopX tab ow (.close [9003,10000,11006,12000,13002,14001,14005,14006,16002,17002,17003]) b_s_l08Verify_5 (s_l08Verify_1_S ListtoArray2 t t2 c7 c8 c9 c10 c11 s) = some (s_l08Verify_1_E ListtoArray2 t t2 c7 c8 c9 c10 c11 e) := by
  refine lrG (fun s o h => ?_) h
  obtain ⟨_, _, _, _, _, _, _, _⟩ := s
  simp only [s_l08Verify_1_s] at h
  simp +decide only [s_l08Verify_1_S, s_l08Verify_1_E, b_s_l08Verify_5, go_sem, reduceIte, Nat.reduceAdd]
  have d1 := @s_l08Degree_c
  have d2 := @s_l02Add_c
  have d3 := @s_l05Exts_c
  have d4 := @s_l05Draw_c
  have d5 := @s_l06Line_c
  all_goals exact go
noncomputable def s_l08Verify (ListtoArray : Int) (a : Ext) (a2 : (List (List Ext))) (a3 : Int) (a4 : Source) : Option ((List Ext) × Ext × Source × Int) :=
  br (((a2.length : Nat) : Int) != a3) (
    some (([] : List Ext), (Ext.mk (0 : Int) (0 : Int)), a4, (18 : Int))) (
    (Loop (s_l08Verify_1_s ListtoArray a2 a3 (0 : Int) (0 : Int) (0 : Int) (([] : List UInt8)) (0 : Int)) (([] : List Ext), (0 : Int), a.A, a.B, a4.Script, a4.At, a4.State, a4.Count)).bind (alt (fun e_2 =>
      some (e_2.2.1, (Ext.mk (0 : Int) (0 : Int)), (Source.mk e_2.2.2.2.2.2.2.2.2.1 e_2.2.2.2.2.2.2.2.2.2.1 e_2.2.2.2.2.2.2.2.2.2.2.1 e_2.2.2.2.2.2.2.2.2.2.2.2), (18 : Int))) (alt (fun e_3 =>
      some (e_3.2.1, (Ext.mk (0 : Int) (0 : Int)), (Source.mk e_3.2.2.2.2.2.2.2.2.1 e_3.2.2.2.2.2.2.2.2.2.1 e_3.2.2.2.2.2.2.2.2.2.2.1 e_3.2.2.2.2.2.2.2.2.2.2.2), (10 : Int))) (fun e_4 =>
      some (e_4.1, (Ext.mk e_4.2.2.2.1 e_4.2.2.2.2.1), (Source.mk e_4.2.2.2.2.2.1 e_4.2.2.2.2.2.2.1 e_4.2.2.2.2.2.2.2.1 e_4.2.2.2.2.2.2.2.2), (0 : Int))))))
theorem s_l08Verify_c {ListtoArray a a2 a3 a4 r} (h : s_l08Verify ListtoArray a a2 a3 a4 = some r) : Call tab ow 105 [I ListtoArray, .agg [I a.A, I a.B], sl (eL eExt) a2, I a3, .agg [sl eExt a4.Script, I a4.At, S a4.State, I a4.Count]] [] = some (.tup [sl eExt r.1, .agg [I r.2.1.A, I r.2.1.B], .agg [sl eExt r.2.2.1.Script, I r.2.2.1.At, S r.2.2.1.State, I r.2.2.1.Count], I r.2.2.2], []) := by
  rw [Call_run (af := a_s_l08Verify) rfl]
  unfold s_l08Verify at h
  simp +decide only [a_s_l08Verify, b_s_l08Verify, go_sem, reduceIte, Nat.reduceAdd]
  have d1 := @s_l08Verify_1_l
  all_goals exact go
end
section
theorem s_SumVerify_k0 : mkR 3000 [] = rws eExt [] := rfl
attribute [local go_sem] s_SumVerify_k0
theorem s_SumVerify_k1 : mkR 12000 [] = rws eExt [] := rfl
attribute [local go_sem] s_SumVerify_k1
theorem s_SumVerify_k2 : mkR 15000 [] = rws eExt [] := rfl
attribute [local go_sem] s_SumVerify_k2
noncomputable def s_SumVerify (ListtoArray : Int) (a : Ext) (a2 : (List (List Ext))) (a3 : Int) (a4 : Source) : Option ((List Ext) × Ext × Source × Int) :=
  br (decide (((a2.length : Nat) : Int) > (4096 : Int))) (
    some (([] : List Ext), (Ext.mk (0 : Int) (0 : Int)), (Source.mk ([] : List Ext) (0 : Int) (([] : List UInt8)) (0 : Int)), (2 : Int))) (
    (s_l08Rounds a2).bind fun r_ =>
    br (r_ == (0 : Int)) (
      (s_ExtOK a).bind fun r_2 =>
      br (!r_2) (
        some (([] : List Ext), (Ext.mk (0 : Int) (0 : Int)), (Source.mk ([] : List Ext) (0 : Int) (([] : List UInt8)) (0 : Int)), (1 : Int))) (
        (s_SourceOK a4).bind fun r_3 =>
        br (!r_3) (
          some (([] : List Ext), (Ext.mk (0 : Int) (0 : Int)), (Source.mk ([] : List Ext) (0 : Int) (([] : List UInt8)) (0 : Int)), (1 : Int))) (
          br (r_ == (0 : Int)) (
            (s_l08Kind ListtoArray).bind fun r_4 =>
            br (!r_4) (
              some (([] : List Ext), (Ext.mk (0 : Int) (0 : Int)), (Source.mk ([] : List Ext) (0 : Int) (([] : List UInt8)) (0 : Int)), (4 : Int))) (
              (s_l01In a3 (0 : Int) (6 : Int)).bind fun r_5 =>
              br (!r_5) (
                some (([] : List Ext), (Ext.mk (0 : Int) (0 : Int)), (Source.mk ([] : List Ext) (0 : Int) (([] : List UInt8)) (0 : Int)), (4 : Int))) (
                br (r_ == (0 : Int)) (
                  (s_l05Spent a4 (6 : Int)).bind fun r_6 =>
                  br r_6 (
                    some (([] : List Ext), (Ext.mk (0 : Int) (0 : Int)), (Source.mk ([] : List Ext) (0 : Int) (([] : List UInt8)) (0 : Int)), (6 : Int))) (
                    br (r_ != (0 : Int)) (
                      some (([] : List Ext), (Ext.mk (0 : Int) (0 : Int)), (Source.mk ([] : List Ext) (0 : Int) (([] : List UInt8)) (0 : Int)), r_)) (
                      (s_l08Verify ListtoArray a a2 a3 a4).bind fun r_7 =>
                      br (r_7.2.2.2 != (0 : Int)) (
                        some (([] : List Ext), (Ext.mk (0 : Int) (0 : Int)), (Source.mk ([] : List Ext) (0 : Int) (([] : List UInt8)) (0 : Int)), r_7.2.2.2)) (
                        (s_l05Own r_7.2.2.1).bind fun r_8 =>
                        some (r_7.1, r_7.2.1, r_8, (0 : Int)))))) (
                  br (r_ != (0 : Int)) (
                    some (([] : List Ext), (Ext.mk (0 : Int) (0 : Int)), (Source.mk ([] : List Ext) (0 : Int) (([] : List UInt8)) (0 : Int)), r_)) (
                    (s_l08Verify ListtoArray a a2 a3 a4).bind fun r_9 =>
                    br (r_9.2.2.2 != (0 : Int)) (
                      some (([] : List Ext), (Ext.mk (0 : Int) (0 : Int)), (Source.mk ([] : List Ext) (0 : Int) (([] : List UInt8)) (0 : Int)), r_9.2.2.2)) (
                      (s_l05Own r_9.2.2.1).bind fun r_10 =>
                      some (r_9.1, r_9.2.1, r_10, (0 : Int)))))))) (
            br (r_ == (0 : Int)) (
              (s_l05Spent a4 (6 : Int)).bind fun r_11 =>
              br r_11 (
                some (([] : List Ext), (Ext.mk (0 : Int) (0 : Int)), (Source.mk ([] : List Ext) (0 : Int) (([] : List UInt8)) (0 : Int)), (6 : Int))) (
                br (r_ != (0 : Int)) (
                  some (([] : List Ext), (Ext.mk (0 : Int) (0 : Int)), (Source.mk ([] : List Ext) (0 : Int) (([] : List UInt8)) (0 : Int)), r_)) (
                  (s_l08Verify ListtoArray a a2 a3 a4).bind fun r_12 =>
                  br (r_12.2.2.2 != (0 : Int)) (
                    some (([] : List Ext), (Ext.mk (0 : Int) (0 : Int)), (Source.mk ([] : List Ext) (0 : Int) (([] : List UInt8)) (0 : Int)), r_12.2.2.2)) (
                    (s_l05Own r_12.2.2.1).bind fun r_13 =>
                    some (r_12.1, r_12.2.1, r_13, (0 : Int)))))) (
              br (r_ != (0 : Int)) (
                some (([] : List Ext), (Ext.mk (0 : Int) (0 : Int)), (Source.mk ([] : List Ext) (0 : Int) (([] : List UInt8)) (0 : Int)), r_)) (
                (s_l08Verify ListtoArray a a2 a3 a4).bind fun r_14 =>
                br (r_14.2.2.2 != (0 : Int)) (
                  some (([] : List Ext), (Ext.mk (0 : Int) (0 : Int)), (Source.mk ([] : List Ext) (0 : Int) (([] : List UInt8)) (0 : Int)), r_14.2.2.2)) (
                  (s_l05Own r_14.2.2.1).bind fun r_15 =>
                  some (r_14.1, r_14.2.1, r_15, (0 : Int))))))))) (
      br (r_ == (0 : Int)) (
        (s_l08Kind ListtoArray).bind fun r_16 =>
        br (!r_16) (
          some (([] : List Ext), (Ext.mk (0 : Int) (0 : Int)), (Source.mk ([] : List Ext) (0 : Int) (([] : List UInt8)) (0 : Int)), (4 : Int))) (
          (s_l01In a3 (0 : Int) (6 : Int)).bind fun r_17 =>
          br (!r_17) (
            some (([] : List Ext), (Ext.mk (0 : Int) (0 : Int)), (Source.mk ([] : List Ext) (0 : Int) (([] : List UInt8)) (0 : Int)), (4 : Int))) (
            br (r_ == (0 : Int)) (
              (s_l05Spent a4 (6 : Int)).bind fun r_18 =>
              br r_18 (
                some (([] : List Ext), (Ext.mk (0 : Int) (0 : Int)), (Source.mk ([] : List Ext) (0 : Int) (([] : List UInt8)) (0 : Int)), (6 : Int))) (
                br (r_ != (0 : Int)) (
                  some (([] : List Ext), (Ext.mk (0 : Int) (0 : Int)), (Source.mk ([] : List Ext) (0 : Int) (([] : List UInt8)) (0 : Int)), r_)) (
                  (s_l08Verify ListtoArray a a2 a3 a4).bind fun r_19 =>
                  br (r_19.2.2.2 != (0 : Int)) (
                    some (([] : List Ext), (Ext.mk (0 : Int) (0 : Int)), (Source.mk ([] : List Ext) (0 : Int) (([] : List UInt8)) (0 : Int)), r_19.2.2.2)) (
                    (s_l05Own r_19.2.2.1).bind fun r_20 =>
                    some (r_19.1, r_19.2.1, r_20, (0 : Int)))))) (
              br (r_ != (0 : Int)) (
                some (([] : List Ext), (Ext.mk (0 : Int) (0 : Int)), (Source.mk ([] : List Ext) (0 : Int) (([] : List UInt8)) (0 : Int)), r_)) (
                (s_l08Verify ListtoArray a a2 a3 a4).bind fun r_21 =>
                br (r_21.2.2.2 != (0 : Int)) (
                  some (([] : List Ext), (Ext.mk (0 : Int) (0 : Int)), (Source.mk ([] : List Ext) (0 : Int) (([] : List UInt8)) (0 : Int)), r_21.2.2.2)) (
                  (s_l05Own r_21.2.2.1).bind fun r_22 =>
                  some (r_21.1, r_21.2.1, r_22, (0 : Int)))))))) (
        br (r_ == (0 : Int)) (
          (s_l05Spent a4 (6 : Int)).bind fun r_23 =>
          br r_23 (
            some (([] : List Ext), (Ext.mk (0 : Int) (0 : Int)), (Source.mk ([] : List Ext) (0 : Int) (([] : List UInt8)) (0 : Int)), (6 : Int))) (
            br (r_ != (0 : Int)) (
              some (([] : List Ext), (Ext.mk (0 : Int) (0 : Int)), (Source.mk ([] : List Ext) (0 : Int) (([] : List UInt8)) (0 : Int)), r_)) (
              (s_l08Verify ListtoArray a a2 a3 a4).bind fun r_24 =>
              br (r_24.2.2.2 != (0 : Int)) (
                some (([] : List Ext), (Ext.mk (0 : Int) (0 : Int)), (Source.mk ([] : List Ext) (0 : Int) (([] : List UInt8)) (0 : Int)), r_24.2.2.2)) (
                (s_l05Own r_24.2.2.1).bind fun r_25 =>
                some (r_24.1, r_24.2.1, r_25, (0 : Int)))))) (
          br (r_ != (0 : Int)) (
            some (([] : List Ext), (Ext.mk (0 : Int) (0 : Int)), (Source.mk ([] : List Ext) (0 : Int) (([] : List UInt8)) (0 : Int)), r_)) (
            (s_l08Verify ListtoArray a a2 a3 a4).bind fun r_26 =>
            br (r_26.2.2.2 != (0 : Int)) (
              some (([] : List Ext), (Ext.mk (0 : Int) (0 : Int)), (Source.mk ([] : List Ext) (0 : Int) (([] : List UInt8)) (0 : Int)), r_26.2.2.2)) (
              (s_l05Own r_26.2.2.1).bind fun r_27 =>
              some (r_26.1, r_26.2.1, r_27, (0 : Int))))))))
theorem s_SumVerify_c {ListtoArray a a2 a3 a4 r} (h : s_SumVerify ListtoArray a a2 a3 a4 = some r) : Call tab ow 27 [I ListtoArray, .agg [I a.A, I a.B], sl (eL eExt) a2, I a3, .agg [sl eExt a4.Script, I a4.At, S a4.State, I a4.Count]] [] = some (.tup [sl eExt r.1, .agg [I r.2.1.A, I r.2.1.B], .agg [sl eExt r.2.2.1.Script, I r.2.2.1.At, S r.2.2.1.State, I r.2.2.1.Count], I r.2.2.2], []) := by
  rw [Call_run (af := a_s_SumVerify) rfl]
  unfold s_SumVerify at h
  simp +decide only [a_s_SumVerify, b_s_SumVerify, go_sem, reduceIte, Nat.reduceAdd]
  have d1 := @s_l08Rounds_c
  have d2 := @s_ExtOK_c
  have d3 := @s_SourceOK_c
  have d4 := @s_l08Kind_c
  have d5 := @s_l01In_c
  have d6 := @s_l05Spent_c
  have d7 := @s_l08Verify_c
  have d8 := @s_l05Own_c
  all_goals exact go
end
section
theorem w_FnSumLies_k0 : mkR 13000 [] = rws (eL eExt) [] := rfl
attribute [local go_sem] w_FnSumLies_k0
theorem w_FnSumLies_k1 : mkR 15002 [] = rws eExt [] := rfl
attribute [local go_sem] w_FnSumLies_k1
noncomputable def w_FnSumLies (ListtoArray : (List UInt8)) (a : (List UInt8)) : Option (Bool) :=
  br (decide (((ListtoArray.length : Nat) : Int) > (1048576 : Int))) (
    some true) (
    br (decide (((a.length : Nat) : Int) > (1048576 : Int))) (
      some true) (
      (w_at a (0 : Int) (2 : Int)).bind fun r_ =>
      (w_at a (1 : Int) (3 : Int)).bind fun r_2 =>
      (s_TablesOf ListtoArray (IntKind.wrap .i64 ((1 : Int) + r_)) (IntKind.wrap .i64 ((1 : Int) + r_2))).bind fun r_3 =>
      (s_SourceOf a).bind fun r_4 =>
      (i_SumOf (IntKind.wrap .i64 ((1 : Int) + r_)) r_3).bind fun r_5 =>
      (w_at a (2 : Int) (90 : Int)).bind fun r_6 =>
      (i_ExtAdd r_5.1 (Ext.mk (IntKind.wrap .i64 ((1 : Int) + r_6)) (0 : Int))).bind fun r_7 =>
      (i_SumProve (IntKind.wrap .i64 ((1 : Int) + r_)) r_3 r_4).bind fun r_8 =>
      (i_SumVerify (IntKind.wrap .i64 ((1 : Int) + r_)) r_7.1 r_8.1 (IntKind.wrap .i64 ((1 : Int) + r_2)) r_4).bind fun r_9 =>
      (subL r_8.1 (0 : Int) (IntKind.wrap .i64 ((IntKind.wrap .i64 ((1 : Int) + r_2)) - (1 : Int)))).bind fun y =>
      (i_SumVerify (IntKind.wrap .i64 ((1 : Int) + r_)) r_5.1 y (IntKind.wrap .i64 ((1 : Int) + r_2)) r_4).bind fun r_10 =>
      br (fits ((([] : List (List Ext)) ++ r_8.1).length) 24) (
        br (decide (0 < (([] : List (List Ext)) ++ r_8.1).length)) (
          ((([] : List (List Ext)) ++ r_8.1)[0]?).bind fun x =>
          (atL x (0 : Int)).bind fun x2 =>
          (w_at a (2 : Int) (90 : Int)).bind fun r_11 =>
          (i_ExtAdd x2 (Ext.mk (IntKind.wrap .i64 ((1 : Int) + r_11)) (0 : Int))).bind fun r_12 =>
          br (decide (0 < (([] : List (List Ext)) ++ r_8.1).length)) (
            ((([] : List (List Ext)) ++ r_8.1)[0]?).bind fun x3 =>
            (subL x3 (1 : Int) ((x3.length : Nat) : Int)).bind fun y2 =>
            br (fits ((([r_12.1] : List Ext) ++ y2).length) 16) (
              br (decide (0 < (([] : List (List Ext)) ++ r_8.1).length)) (
                ((([] : List (List Ext)) ++ r_8.1)[0]?).bind fun x4 =>
                (i_SumVerify (IntKind.wrap .i64 ((1 : Int) + r_)) r_7.1 ((([] : List (List Ext)) ++ r_8.1).set 0 (([r_12.1] : List Ext) ++ y2)) (IntKind.wrap .i64 ((1 : Int) + r_2)) r_4).bind fun r_13 =>
                (s_SumVerify (IntKind.wrap .i64 ((1 : Int) + r_)) r_7.1 ((([] : List (List Ext)) ++ r_8.1).set 0 (([r_12.1] : List Ext) ++ y2)) (IntKind.wrap .i64 ((1 : Int) + r_2)) r_4).bind fun r_14 =>
                br (r_5.2 == (0 : Int)) (
                  br (r_7.2 == (0 : Int)) (
                    br (r_8.2.2.2.2 == (0 : Int)) (
                      br (r_9.2.2.2 == (10 : Int)) (
                        br (r_10.2.2.2 == (18 : Int)) (
                          br (r_12.2 == (0 : Int)) (
                            some (r_13.2.2.2 == r_14.2.2.2)) (
                            some false)) (
                          some false)) (
                        some false)) (
                      some false)) (
                    some false)) (
                  some false)) (
                none)) (
              none)) (
            none)) (
          none)) (
        none)))
theorem w_FnSumLies_c {ListtoArray a r} (h : w_FnSumLies ListtoArray a = some r) : Call tab ow 4 [sl eU8 ListtoArray, sl eU8 a] [] = some (B r, []) := by
  rw [Call_run (af := a_w_FnSumLies) rfl]
  unfold w_FnSumLies at h
  simp +decide only [a_w_FnSumLies, b_w_FnSumLies, go_sem, reduceIte, Nat.reduceAdd]
  have d1 := @w_at_c
  have d2 := @s_TablesOf_c
  have d3 := @s_SourceOf_c
  have d4 := @i_SumOf_c
  have d5 := @i_ExtAdd_c
  have d6 := @i_SumProve_c
  have d7 := @i_SumVerify_c
  have d8 := @s_SumVerify_c
  all_goals exact go
end
end Go.AI.Fn

