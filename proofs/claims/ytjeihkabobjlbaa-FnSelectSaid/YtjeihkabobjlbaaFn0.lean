/- Walks through the program, with open values. -/
import Derived.Test.YtjeihkabobjlbaaStr
set_option linter.unusedVariables false
set_option linter.unusedSimpArgs false
set_option maxRecDepth 100000
set_option maxHeartbeats 1000000
namespace Go.AI.Fn
noncomputable def w_at (more : (List UInt8)) (i : Int) (n : Int) : Option (Int) :=
  br (decide (n ≤ (1 : Int))) (
    some (0 : Int)) (
    br (((more.length : Nat) : Int) == (0 : Int)) (
      br (decide (n ≠ 0)) (
        some ((IntKind.wrap .i64 (i * (7 : Int))).tmod n)) (
        none)) (
      br (decide (((more.length : Nat) : Int) ≠ 0)) (
        (atL more (i.tmod ((more.length : Nat) : Int))).bind fun x =>
        br (decide (((more.length : Nat) : Int) ≠ 0)) (
          (atL more ((IntKind.wrap .i64 (i + (1 : Int))).tmod ((more.length : Nat) : Int))).bind fun x2 =>
          br (decide (((more.length : Nat) : Int) ≠ 0)) (
            br (decide (n ≠ 0)) (
              some ((IntKind.wrap .i64 ((IntKind.wrap .i64 ((IntKind.wrap .i64 ((IntKind.wrap .i64 (x.toNat : Int)) * (31 : Int))) + (IntKind.wrap .i64 (x2.toNat : Int)))) + (IntKind.wrap .i64 (i.tdiv ((more.length : Nat) : Int))))).tmod n)) (
              none)) (
            none)) (
          none)) (
        none)))
theorem w_at_c {more : (List UInt8)} {i : Int} {n : Int} {r : Int} (h : w_at more i n = some r) : Call tab ow 18 [sl eU8 more, I i, I n] [] = some (I r, []) := by
  rw [run_w_at]
  unfold w_at at h
  simp +decide only [b_w_at, go_sem, reduceIte, Nat.reduceAdd]
  rcases brc h with ⟨hb, h⟩ | ⟨hb, h⟩
  · refine br_t hb ?_
    obtain rfl := Option.some.inj h
    first | rfl | (simp only [List.length_set, go_sem]; done)
  · refine br_f hb ?_
    rcases brc h with ⟨hb, h⟩ | ⟨hb, h⟩
    · refine br_t hb ?_
      obtain ⟨hb, h⟩ := brg h
      refine br_t hb ?_
      obtain rfl := Option.some.inj h
      first | rfl | (simp only [List.length_set, go_sem]; done)
    · refine br_f hb ?_
      obtain ⟨hb, h⟩ := brg h
      refine br_t hb ?_
      obtain ⟨x, h1, h⟩ := bd h
      refine bind_some h1 ?_
      obtain ⟨hb, h⟩ := brg h
      refine br_t hb ?_
      obtain ⟨x2, h1, h⟩ := bd h
      refine bind_some h1 ?_
      obtain ⟨hb, h⟩ := brg h
      refine br_t hb ?_
      obtain ⟨hb, h⟩ := brg h
      refine br_t hb ?_
      obtain rfl := Option.some.inj h
      first | rfl | (simp only [List.length_set, go_sem]; done)
noncomputable def i_in (n : Int) (low : Int) (high : Int) : Option (Bool) :=
  br (decide (low ≤ n)) (
    some (decide (n ≤ high))) (
    some false)
theorem i_in_c {n : Int} {low : Int} {high : Int} {r : Bool} (h : i_in n low high = some r) : Call tab ow 33 [I n, I low, I high] [] = some (B r, []) := by
  rw [run_i_in]
  unfold i_in at h
  simp +decide only [b_i_in, go_sem, reduceIte, Nat.reduceAdd]
  rcases brc h with ⟨hb, h⟩ | ⟨hb, h⟩
  · refine br_t hb ?_
    obtain rfl := Option.some.inj h
    first | rfl | (simp only [List.length_set, go_sem]; done)
  · refine br_f hb ?_
    obtain rfl := Option.some.inj h
    first | rfl | (simp only [List.length_set, go_sem]; done)
noncomputable def i_Setting_bitsOf_1_s (bits : Int) (t2 : Int) (c : Int) (c2 : Int) (c3 : Int) : Int × Int × Int → Option ((Int × Int × Int) ⊕ ((Int × Int × Int × Bool)))
  | (got, most, t3) =>
    br (decide (t3 < t2)) (
      br (decide (0 ≤ c)) (
        br (decide (0 ≤ (IntKind.wrap .i64 (c + (1 : Int))))) (
          some (.inl ((IntKind.wrap .i64 (got * (IntKind.wrap .i64 ((shl64 .i64 (1 : Int) c) + (1 : Int))))), (shl64 .i64 most (IntKind.wrap .i64 (c + (1 : Int)))), (IntKind.wrap .i64 (t3 + (1 : Int)))))) (
          none)) (
        none)) (
      some (.inr (got, most, t3, decide (t3 < t2))))
theorem i_Setting_bitsOf_1_l {bits : Int} {t2 : Int} {c : Int} {c2 : Int} {c3 : Int} {got : Int} {most : Int} {t3 : Int} {e : (Int × Int × Int × Bool)} (h : Loop (i_Setting_bitsOf_1_s bits t2 c c2 c3) (got, most, t3) = some e) : LoopX tab ow (.close []) b_i_Setting_bitsOf_3 ⟨[(1, .ptr 1000 0 0 1), (3, I got), (4, I most), (5, I bits), (7, I t2), (8, I t3)], [(1000, ⟨3, true, [[I c, I c2, I c3]]⟩)]⟩ = some ((.exit 0, ⟨[(1, .ptr 1000 0 0 1), (3, I e.1), (4, I e.2.1), (5, I bits), (7, I t2), (8, I e.2.2.1), (9, B e.2.2.2)], [(1000, ⟨3, true, [[I c, I c2, I c3]]⟩)]⟩)) := by
  refine loop_runG (S := Int × Int × Int) (eS := fun s => ⟨[(1, .ptr 1000 0 0 1), (3, I s.1), (4, I s.2.1), (5, I bits), (7, I t2), (8, I s.2.2)], [(1000, ⟨3, true, [[I c, I c2, I c3]]⟩)]⟩) (eE := fun e => (.exit 0, ⟨[(1, .ptr 1000 0 0 1), (3, I e.1), (4, I e.2.1), (5, I bits), (7, I t2), (8, I e.2.2.1), (9, B e.2.2.2)], [(1000, ⟨3, true, [[I c, I c2, I c3]]⟩)]⟩)) (fun e => ?_) (fun s o h => ?_) h
  · simp [alt]
  · obtain ⟨got, most, t3⟩ := s
    simp only [i_Setting_bitsOf_1_s] at h
    show Rn tab ow _ _ ⟨[(1, .ptr 1000 0 0 1), (3, I got), (4, I most), (5, I bits), (7, I t2), (8, I t3)], [(1000, ⟨3, true, [[I c, I c2, I c3]]⟩)]⟩ = _
    simp +decide only [b_i_Setting_bitsOf_3, go_sem, reduceIte, Nat.reduceAdd]
    rcases brc h with ⟨hb, h⟩ | ⟨hb, h⟩
    · refine br_t hb ?_
      obtain ⟨hb, h⟩ := brg h
      refine br_t hb ?_
      obtain ⟨hb, h⟩ := brg h
      refine br_t hb ?_
      obtain rfl := Option.some.inj h
      first | rfl | (simp only [List.length_set, go_sem]; done)
    · refine br_f hb ?_
      obtain rfl := Option.some.inj h
      first | rfl | (simp only [List.length_set, go_sem]; done)
noncomputable def i_Setting_bitsOf_2_s (got2 : Int) (most2 : Int) (t4 : Int) (t5 : Int) (t6 : Bool) (c4 : Int) (c5 : Int) (c6 : Int) : Int → Option ((Int) ⊕ ((Int × Bool)))
  | bits2 =>
    br (decide (0 ≤ (IntKind.wrap .i64 (bits2 + (1 : Int))))) (
      br (decide ((shl64 .i64 got2 (IntKind.wrap .i64 (bits2 + (1 : Int)))) ≤ most2)) (
        some (.inl (IntKind.wrap .i64 (bits2 + (1 : Int))))) (
        some (.inr (bits2, decide ((shl64 .i64 got2 (IntKind.wrap .i64 (bits2 + (1 : Int)))) ≤ most2))))) (
      none)
theorem i_Setting_bitsOf_2_l {got2 : Int} {most2 : Int} {t4 : Int} {t5 : Int} {t6 : Bool} {c4 : Int} {c5 : Int} {c6 : Int} {bits2 : Int} {e : (Int × Bool)} (h : Loop (i_Setting_bitsOf_2_s got2 most2 t4 t5 t6 c4 c5 c6) bits2 = some e) : LoopX tab ow (.close []) b_i_Setting_bitsOf_6 ⟨[(1, .ptr 1000 0 0 1), (3, I got2), (4, I most2), (5, I bits2), (7, I t4), (8, I t5), (9, B t6)], [(1000, ⟨3, true, [[I c4, I c5, I c6]]⟩)]⟩ = some ((.exit 2, ⟨[(1, .ptr 1000 0 0 1), (3, I got2), (4, I most2), (5, I e.1), (7, I t4), (8, I t5), (9, B t6), (27, B e.2)], [(1000, ⟨3, true, [[I c4, I c5, I c6]]⟩)]⟩)) := by
  refine loop_runG (S := Int) (eS := fun s => ⟨[(1, .ptr 1000 0 0 1), (3, I got2), (4, I most2), (5, I s), (7, I t4), (8, I t5), (9, B t6)], [(1000, ⟨3, true, [[I c4, I c5, I c6]]⟩)]⟩) (eE := fun e => (.exit 2, ⟨[(1, .ptr 1000 0 0 1), (3, I got2), (4, I most2), (5, I e.1), (7, I t4), (8, I t5), (9, B t6), (27, B e.2)], [(1000, ⟨3, true, [[I c4, I c5, I c6]]⟩)]⟩)) (fun e => ?_) (fun bits2 o h => ?_) h
  · simp [alt]
  · skip
    simp only [i_Setting_bitsOf_2_s] at h
    show Rn tab ow _ _ ⟨[(1, .ptr 1000 0 0 1), (3, I got2), (4, I most2), (5, I bits2), (7, I t4), (8, I t5), (9, B t6)], [(1000, ⟨3, true, [[I c4, I c5, I c6]]⟩)]⟩ = _
    simp +decide only [b_i_Setting_bitsOf_6, go_sem, reduceIte, Nat.reduceAdd]
    obtain ⟨hb, h⟩ := brg h
    refine br_t hb ?_
    rcases brc h with ⟨hb, h⟩ | ⟨hb, h⟩
    · refine br_t hb ?_
      obtain rfl := Option.some.inj h
      first | rfl | (simp only [List.length_set, go_sem]; done)
    · refine br_f hb ?_
      obtain rfl := Option.some.inj h
      first | rfl | (simp only [List.length_set, go_sem]; done)
noncomputable def i_Setting_bitsOf (t : Setting) : Option (Int) :=
  (Loop (i_Setting_bitsOf_1_s (0 : Int) t.Queries t.Rate t.Queries t.Grind) ((1 : Int), (1 : Int), (0 : Int))).bind fun e_ =>
  (Loop (i_Setting_bitsOf_2_s e_.1 e_.2.1 t.Queries e_.2.2.1 e_.2.2.2 t.Rate t.Queries t.Grind) (0 : Int)).bind fun e_2 =>
  some (IntKind.wrap .i64 (e_2.1 + t.Grind))
theorem i_Setting_bitsOf_c {t : Setting} {r : Int} (h : i_Setting_bitsOf t = some r) : Call tab ow 31 [.agg [I t.Rate, I t.Queries, I t.Grind]] [] = some (I r, []) := by
  rw [run_i_Setting_bitsOf]
  unfold i_Setting_bitsOf at h
  simp +decide only [b_i_Setting_bitsOf, go_sem, reduceIte, Nat.reduceAdd]
  obtain ⟨e_, h1, h⟩ := bd h
  refine goR_of (i_Setting_bitsOf_1_l h1) ?_
  simp +decide only [go_sem, reduceIte, Nat.reduceAdd]
  obtain ⟨e_2, h1, h⟩ := bd h
  refine goR_of (i_Setting_bitsOf_2_l h1) ?_
  simp +decide only [go_sem, reduceIte, Nat.reduceAdd]
  obtain rfl := Option.some.inj h
  first | rfl | (simp only [List.length_set, go_sem]; done)
noncomputable def i_Select_1_s (bits2 : Int) (rate2 : Int) (grind2 : Int) (c : Int) (c2 : Int) (c3 : Int) : Int → Option ((Int) ⊕ ((Int × Int) ⊕ (Int × Bool)))
  | q =>
    br (decide (q ≤ (8 : Int))) (
      (i_Setting_bitsOf (Setting.mk rate2 q grind2)).bind fun r_4 =>
      br (decide (r_4 ≥ bits2)) (
        some (.inr (.inl (q, q)))) (
        some (.inl (IntKind.wrap .i64 (q + (1 : Int)))))) (
      some (.inr (.inr (q, decide (q ≤ (8 : Int))))))
theorem i_Select_1_l {bits2 : Int} {rate2 : Int} {grind2 : Int} {c : Int} {c2 : Int} {c3 : Int} {q : Int} {e : (Int × Int) ⊕ (Int × Bool)} (h : Loop (i_Select_1_s bits2 rate2 grind2 c c2 c3) q = some e) : LoopX tab ow (.close [7004, 8001]) b_i_Select_4 ⟨[(0, I bits2), (1, I rate2), (2, I grind2), (6, .ptr 1000 0 0 1), (8, I q)], [(1000, ⟨3, true, [[I c, I c2, I c3]]⟩)]⟩ = some ((alt (fun e => ((.ret, ⟨[(6, .ptr 1000 0 0 1), (7, I (0 : Int))], [(1000, ⟨3, true, [[I rate2, I e.1, I grind2]]⟩), (7004, ⟨3, true, [[I rate2, I e.2, I grind2]]⟩)]⟩) : AExit × St)) (fun e => (.exit 0, ⟨[(0, I bits2), (1, I rate2), (2, I grind2), (6, .ptr 1000 0 0 1), (8, I e.1), (25, B e.2)], [(1000, ⟨3, true, [[I c, I c2, I c3]]⟩)]⟩))) e) := by
  refine loop_runG (S := Int) (eS := fun s => ⟨[(0, I bits2), (1, I rate2), (2, I grind2), (6, .ptr 1000 0 0 1), (8, I s)], [(1000, ⟨3, true, [[I c, I c2, I c3]]⟩)]⟩) (eE := fun e => (alt (fun e => ((.ret, ⟨[(6, .ptr 1000 0 0 1), (7, I (0 : Int))], [(1000, ⟨3, true, [[I rate2, I e.1, I grind2]]⟩), (7004, ⟨3, true, [[I rate2, I e.2, I grind2]]⟩)]⟩) : AExit × St)) (fun e => (.exit 0, ⟨[(0, I bits2), (1, I rate2), (2, I grind2), (6, .ptr 1000 0 0 1), (8, I e.1), (25, B e.2)], [(1000, ⟨3, true, [[I c, I c2, I c3]]⟩)]⟩))) e) (fun e => ?_) (fun q o h => ?_) h
  · rcases e with e | e <;> simp [alt]
  · skip
    simp only [i_Select_1_s] at h
    show Rn tab ow _ _ ⟨[(0, I bits2), (1, I rate2), (2, I grind2), (6, .ptr 1000 0 0 1), (8, I q)], [(1000, ⟨3, true, [[I c, I c2, I c3]]⟩)]⟩ = _
    simp +decide only [b_i_Select_4, go_sem, reduceIte, Nat.reduceAdd]
    rcases brc h with ⟨hb, h⟩ | ⟨hb, h⟩
    · refine br_t hb ?_
      obtain ⟨r_4, h1, h⟩ := bd h
      refine call_aft (i_Setting_bitsOf_c h1) ?_
      simp +decide only [go_sem, reduceIte, Nat.reduceAdd]
      rcases brc h with ⟨hb, h⟩ | ⟨hb, h⟩
      · refine br_t hb ?_
        obtain rfl := Option.some.inj h
        first | rfl | (simp only [List.length_set, go_sem]; done)
      · refine br_f hb ?_
        obtain rfl := Option.some.inj h
        first | rfl | (simp only [List.length_set, go_sem]; done)
    · refine br_f hb ?_
      obtain rfl := Option.some.inj h
      first | rfl | (simp only [List.length_set, go_sem]; done)
noncomputable def i_Select (bits : Int) (rate : Int) (grind : Int) : Option (Setting × Int) :=
  (i_in bits (0 : Int) (16 : Int)).bind fun r_ =>
  br (!r_) (
    some ((Setting.mk (0 : Int) (0 : Int) (0 : Int)), (4 : Int))) (
    (i_in rate (1 : Int) (3 : Int)).bind fun r_2 =>
    br (!r_2) (
      some ((Setting.mk (0 : Int) (0 : Int) (0 : Int)), (4 : Int))) (
      (i_in grind (0 : Int) (12 : Int)).bind fun r_3 =>
      br (!r_3) (
        some ((Setting.mk (0 : Int) (0 : Int) (0 : Int)), (4 : Int))) (
        (Loop (i_Select_1_s bits rate grind (0 : Int) (0 : Int) (0 : Int)) (1 : Int)).bind (alt (fun e_2 =>
          some ((Setting.mk rate e_2.1 grind), (0 : Int))) (fun e_3 =>
          some ((Setting.mk (0 : Int) (0 : Int) (0 : Int)), (16 : Int)))))))
theorem i_Select_c {bits : Int} {rate : Int} {grind : Int} {r : Setting × Int} (h : i_Select bits rate grind = some r) : Call tab ow 16 [I bits, I rate, I grind] [] = some (.tup [.agg [I r.1.Rate, I r.1.Queries, I r.1.Grind], I r.2], []) := by
  rw [run_i_Select]
  unfold i_Select at h
  simp +decide only [b_i_Select, go_sem, reduceIte, Nat.reduceAdd]
  obtain ⟨r_, h1, h⟩ := bd h
  refine call_aft (i_in_c h1) ?_
  simp +decide only [go_sem, reduceIte, Nat.reduceAdd]
  rcases brc h with ⟨hb, h⟩ | ⟨hb, h⟩
  · refine br_t hb ?_
    obtain rfl := Option.some.inj h
    first | rfl | (simp only [List.length_set, go_sem]; done)
  · refine br_f hb ?_
    obtain ⟨r_2, h1, h⟩ := bd h
    refine call_aft (i_in_c h1) ?_
    simp +decide only [go_sem, reduceIte, Nat.reduceAdd]
    rcases brc h with ⟨hb, h⟩ | ⟨hb, h⟩
    · refine br_t hb ?_
      obtain rfl := Option.some.inj h
      first | rfl | (simp only [List.length_set, go_sem]; done)
    · refine br_f hb ?_
      obtain ⟨r_3, h1, h⟩ := bd h
      refine call_aft (i_in_c h1) ?_
      simp +decide only [go_sem, reduceIte, Nat.reduceAdd]
      rcases brc h with ⟨hb, h⟩ | ⟨hb, h⟩
      · refine br_t hb ?_
        obtain rfl := Option.some.inj h
        first | rfl | (simp only [List.length_set, go_sem]; done)
      · refine br_f hb ?_
        obtain ⟨e_, h1, h⟩ := bd h
        refine goR_of (i_Select_1_l h1) ?_
        rcases e_ with e_2 | e_3
        · simp +decide only [go_sem, reduceIte, Nat.reduceAdd]
          obtain rfl := Option.some.inj h
          first | rfl | (simp only [List.length_set, go_sem]; done)
        · simp +decide only [go_sem, reduceIte, Nat.reduceAdd]
          obtain rfl := Option.some.inj h
          first | rfl | (simp only [List.length_set, go_sem]; done)
noncomputable def s_l01In (n : Int) (low : Int) (high : Int) : Option (Bool) :=
  br (decide (low ≤ n)) (
    some (decide (n ≤ high))) (
    some false)
theorem s_l01In_c {n : Int} {low : Int} {high : Int} {r : Bool} (h : s_l01In n low high = some r) : Call tab ow 32 [I n, I low, I high] [] = some (B r, []) := by
  rw [run_s_l01In]
  unfold s_l01In at h
  simp +decide only [b_s_l01In, go_sem, reduceIte, Nat.reduceAdd]
  rcases brc h with ⟨hb, h⟩ | ⟨hb, h⟩
  · refine br_t hb ?_
    obtain rfl := Option.some.inj h
    first | rfl | (simp only [List.length_set, go_sem]; done)
  · refine br_f hb ?_
    obtain rfl := Option.some.inj h
    first | rfl | (simp only [List.length_set, go_sem]; done)
noncomputable def s_l15Enough_1_s (rate2 : Int) (queries2 : Int) (bits2 : Int) : Int × Int → Option ((Int × Int) ⊕ ((Int × Int × Bool)))
  | (a, i) =>
    br (decide (i < queries2)) (
      br (decide (0 ≤ (IntKind.wrap .u64 rate2))) (
        some (.inl ((IntKind.wrap .i64 (a * (IntKind.wrap .i64 ((shl64 .i64 (1 : Int) (IntKind.wrap .u64 rate2)) + (1 : Int))))), (IntKind.wrap .i64 (i + (1 : Int)))))) (
        none)) (
      some (.inr (a, i, decide (i < queries2))))
theorem s_l15Enough_1_l {rate2 : Int} {queries2 : Int} {bits2 : Int} {a : Int} {i : Int} {e : (Int × Int × Bool)} (h : Loop (s_l15Enough_1_s rate2 queries2 bits2) (a, i) = some e) : LoopX tab ow (.close []) b_s_l15Enough_3 ⟨[(0, I rate2), (1, I queries2), (2, I bits2), (7, I a), (8, I i)], []⟩ = some ((.exit 0, ⟨[(0, I rate2), (1, I queries2), (2, I bits2), (7, I e.1), (8, I e.2.1), (12, B e.2.2)], []⟩)) := by
  refine loop_runG (S := Int × Int) (eS := fun s => ⟨[(0, I rate2), (1, I queries2), (2, I bits2), (7, I s.1), (8, I s.2)], []⟩) (eE := fun e => (.exit 0, ⟨[(0, I rate2), (1, I queries2), (2, I bits2), (7, I e.1), (8, I e.2.1), (12, B e.2.2)], []⟩)) (fun e => ?_) (fun s o h => ?_) h
  · simp [alt]
  · obtain ⟨a, i⟩ := s
    simp only [s_l15Enough_1_s] at h
    show Rn tab ow _ _ ⟨[(0, I rate2), (1, I queries2), (2, I bits2), (7, I a), (8, I i)], []⟩ = _
    simp +decide only [b_s_l15Enough_3, go_sem, reduceIte, Nat.reduceAdd]
    rcases brc h with ⟨hb, h⟩ | ⟨hb, h⟩
    · refine br_t hb ?_
      obtain ⟨hb, h⟩ := brg h
      refine br_t hb ?_
      obtain rfl := Option.some.inj h
      first | rfl | (simp only [List.length_set, go_sem]; done)
    · refine br_f hb ?_
      obtain rfl := Option.some.inj h
      first | rfl | (simp only [List.length_set, go_sem]; done)
noncomputable def s_l15Enough (rate : Int) (queries : Int) (bits : Int) : Option (Bool) :=
  (Loop (s_l15Enough_1_s rate queries bits) ((1 : Int), (0 : Int))).bind fun e_ =>
  br (decide ((IntKind.wrap .i64 ((IntKind.wrap .i64 (queries * (IntKind.wrap .i64 (rate + (1 : Int))))) - bits)) ≥ (0 : Int))) (
    br (decide (0 ≤ (IntKind.wrap .u64 (IntKind.wrap .i64 ((IntKind.wrap .i64 (queries * (IntKind.wrap .i64 (rate + (1 : Int))))) - bits))))) (
      some (decide (e_.1 ≤ (shl64 .i64 (1 : Int) (IntKind.wrap .u64 (IntKind.wrap .i64 ((IntKind.wrap .i64 (queries * (IntKind.wrap .i64 (rate + (1 : Int))))) - bits))))))) (
      none)) (
    some false)
theorem s_l15Enough_c {rate : Int} {queries : Int} {bits : Int} {r : Bool} (h : s_l15Enough rate queries bits = some r) : Call tab ow 46 [I rate, I queries, I bits] [] = some (B r, []) := by
  rw [run_s_l15Enough]
  unfold s_l15Enough at h
  simp +decide only [b_s_l15Enough, go_sem, reduceIte, Nat.reduceAdd]
  obtain ⟨e_, h1, h⟩ := bd h
  refine goR_of (s_l15Enough_1_l h1) ?_
  simp +decide only [go_sem, reduceIte, Nat.reduceAdd]
  rcases brc h with ⟨hb, h⟩ | ⟨hb, h⟩
  · refine br_t hb ?_
    obtain ⟨hb, h⟩ := brg h
    refine br_t hb ?_
    obtain rfl := Option.some.inj h
    first | rfl | (simp only [List.length_set, go_sem]; done)
  · refine br_f hb ?_
    obtain rfl := Option.some.inj h
    first | rfl | (simp only [List.length_set, go_sem]; done)
noncomputable def s_l15Bits_1_s (rate2 : Int) (queries2 : Int) : Int → Option ((Int) ⊕ ((Int × Bool)))
  | n =>
    (s_l15Enough rate2 queries2 (IntKind.wrap .i64 (n + (1 : Int)))).bind fun r_ =>
    br r_ (
      some (.inl (IntKind.wrap .i64 (n + (1 : Int))))) (
      some (.inr (n, r_)))
theorem s_l15Bits_1_l {rate2 : Int} {queries2 : Int} {n : Int} {e : (Int × Bool)} (h : Loop (s_l15Bits_1_s rate2 queries2) n = some e) : LoopX tab ow (.close [3004]) b_s_l15Bits_2 ⟨[(0, I rate2), (1, I queries2), (5, I n)], []⟩ = some ((.exit 0, ⟨[(0, I rate2), (1, I queries2), (5, I e.1), (10, B e.2)], []⟩)) := by
  refine loop_runG (S := Int) (eS := fun s => ⟨[(0, I rate2), (1, I queries2), (5, I s)], []⟩) (eE := fun e => (.exit 0, ⟨[(0, I rate2), (1, I queries2), (5, I e.1), (10, B e.2)], []⟩)) (fun e => ?_) (fun n o h => ?_) h
  · simp [alt]
  · skip
    simp only [s_l15Bits_1_s] at h
    show Rn tab ow _ _ ⟨[(0, I rate2), (1, I queries2), (5, I n)], []⟩ = _
    simp +decide only [b_s_l15Bits_2, go_sem, reduceIte, Nat.reduceAdd]
    obtain ⟨r_, h1, h⟩ := bd h
    refine call_aft (s_l15Enough_c h1) ?_
    simp +decide only [go_sem, reduceIte, Nat.reduceAdd]
    rcases brc h with ⟨hb, h⟩ | ⟨hb, h⟩
    · refine br_t hb ?_
      obtain rfl := Option.some.inj h
      first | rfl | (simp only [List.length_set, go_sem]; done)
    · refine br_f hb ?_
      obtain rfl := Option.some.inj h
      first | rfl | (simp only [List.length_set, go_sem]; done)
noncomputable def s_l15Bits (rate : Int) (queries : Int) : Option (Int) :=
  (Loop (s_l15Bits_1_s rate queries) (0 : Int)).bind fun e_ =>
  some e_.1
theorem s_l15Bits_c {rate : Int} {queries : Int} {r : Int} (h : s_l15Bits rate queries = some r) : Call tab ow 29 [I rate, I queries] [] = some (I r, []) := by
  rw [run_s_l15Bits]
  unfold s_l15Bits at h
  simp +decide only [b_s_l15Bits, go_sem, reduceIte, Nat.reduceAdd]
  obtain ⟨e_, h1, h⟩ := bd h
  refine goR_of (s_l15Bits_1_l h1) ?_
  simp +decide only [go_sem, reduceIte, Nat.reduceAdd]
  obtain rfl := Option.some.inj h
  first | rfl | (simp only [List.length_set, go_sem]; done)
noncomputable def s_Select_1_s (bits2 : Int) (rate2 : Int) (grind2 : Int) (c : Int) (c2 : Int) (c3 : Int) : Int → Option ((Int) ⊕ (Int ⊕ (Int × Bool)))
  | q =>
    br (decide (q ≤ (8 : Int))) (
      (s_l15Bits rate2 q).bind fun r_4 =>
      br (decide ((IntKind.wrap .i64 (r_4 + grind2)) ≥ bits2)) (
        some (.inr (.inl q))) (
        some (.inl (IntKind.wrap .i64 (q + (1 : Int)))))) (
      some (.inr (.inr (q, decide (q ≤ (8 : Int))))))
theorem s_Select_1_l {bits2 : Int} {rate2 : Int} {grind2 : Int} {c : Int} {c2 : Int} {c3 : Int} {q : Int} {e : Int ⊕ (Int × Bool)} (h : Loop (s_Select_1_s bits2 rate2 grind2 c c2 c3) q = some e) : LoopX tab ow (.close [7002]) b_s_Select_4 ⟨[(0, I bits2), (1, I rate2), (2, I grind2), (6, .ptr 1000 0 0 1), (8, I q)], [(1000, ⟨3, true, [[I c, I c2, I c3]]⟩)]⟩ = some ((alt (fun e => ((.ret, ⟨[(6, .ptr 1000 0 0 1), (7, I (0 : Int))], [(1000, ⟨3, true, [[I rate2, I e, I grind2]]⟩)]⟩) : AExit × St)) (fun e => (.exit 0, ⟨[(0, I bits2), (1, I rate2), (2, I grind2), (6, .ptr 1000 0 0 1), (8, I e.1), (24, B e.2)], [(1000, ⟨3, true, [[I c, I c2, I c3]]⟩)]⟩))) e) := by
  refine loop_runG (S := Int) (eS := fun s => ⟨[(0, I bits2), (1, I rate2), (2, I grind2), (6, .ptr 1000 0 0 1), (8, I s)], [(1000, ⟨3, true, [[I c, I c2, I c3]]⟩)]⟩) (eE := fun e => (alt (fun e => ((.ret, ⟨[(6, .ptr 1000 0 0 1), (7, I (0 : Int))], [(1000, ⟨3, true, [[I rate2, I e, I grind2]]⟩)]⟩) : AExit × St)) (fun e => (.exit 0, ⟨[(0, I bits2), (1, I rate2), (2, I grind2), (6, .ptr 1000 0 0 1), (8, I e.1), (24, B e.2)], [(1000, ⟨3, true, [[I c, I c2, I c3]]⟩)]⟩))) e) (fun e => ?_) (fun q o h => ?_) h
  · rcases e with e | e <;> simp [alt]
  · skip
    simp only [s_Select_1_s] at h
    show Rn tab ow _ _ ⟨[(0, I bits2), (1, I rate2), (2, I grind2), (6, .ptr 1000 0 0 1), (8, I q)], [(1000, ⟨3, true, [[I c, I c2, I c3]]⟩)]⟩ = _
    simp +decide only [b_s_Select_4, go_sem, reduceIte, Nat.reduceAdd]
    rcases brc h with ⟨hb, h⟩ | ⟨hb, h⟩
    · refine br_t hb ?_
      obtain ⟨r_4, h1, h⟩ := bd h
      refine call_aft (s_l15Bits_c h1) ?_
      simp +decide only [go_sem, reduceIte, Nat.reduceAdd]
      rcases brc h with ⟨hb, h⟩ | ⟨hb, h⟩
      · refine br_t hb ?_
        obtain rfl := Option.some.inj h
        first | rfl | (simp only [List.length_set, go_sem]; done)
      · refine br_f hb ?_
        obtain rfl := Option.some.inj h
        first | rfl | (simp only [List.length_set, go_sem]; done)
    · refine br_f hb ?_
      obtain rfl := Option.some.inj h
      first | rfl | (simp only [List.length_set, go_sem]; done)
noncomputable def s_Select (bits : Int) (rate : Int) (grind : Int) : Option (Setting × Int) :=
  (s_l01In bits (0 : Int) (16 : Int)).bind fun r_ =>
  br (!r_) (
    some ((Setting.mk (0 : Int) (0 : Int) (0 : Int)), (4 : Int))) (
    (s_l01In rate (1 : Int) (3 : Int)).bind fun r_2 =>
    br (!r_2) (
      some ((Setting.mk (0 : Int) (0 : Int) (0 : Int)), (4 : Int))) (
      (s_l01In grind (0 : Int) (12 : Int)).bind fun r_3 =>
      br (!r_3) (
        some ((Setting.mk (0 : Int) (0 : Int) (0 : Int)), (4 : Int))) (
        (Loop (s_Select_1_s bits rate grind (0 : Int) (0 : Int) (0 : Int)) (1 : Int)).bind (alt (fun e_2 =>
          some ((Setting.mk rate e_2 grind), (0 : Int))) (fun e_3 =>
          some ((Setting.mk (0 : Int) (0 : Int) (0 : Int)), (16 : Int)))))))
theorem s_Select_c {bits : Int} {rate : Int} {grind : Int} {r : Setting × Int} (h : s_Select bits rate grind = some r) : Call tab ow 15 [I bits, I rate, I grind] [] = some (.tup [.agg [I r.1.Rate, I r.1.Queries, I r.1.Grind], I r.2], []) := by
  rw [run_s_Select]
  unfold s_Select at h
  simp +decide only [b_s_Select, go_sem, reduceIte, Nat.reduceAdd]
  obtain ⟨r_, h1, h⟩ := bd h
  refine call_aft (s_l01In_c h1) ?_
  simp +decide only [go_sem, reduceIte, Nat.reduceAdd]
  rcases brc h with ⟨hb, h⟩ | ⟨hb, h⟩
  · refine br_t hb ?_
    obtain rfl := Option.some.inj h
    first | rfl | (simp only [List.length_set, go_sem]; done)
  · refine br_f hb ?_
    obtain ⟨r_2, h1, h⟩ := bd h
    refine call_aft (s_l01In_c h1) ?_
    simp +decide only [go_sem, reduceIte, Nat.reduceAdd]
    rcases brc h with ⟨hb, h⟩ | ⟨hb, h⟩
    · refine br_t hb ?_
      obtain rfl := Option.some.inj h
      first | rfl | (simp only [List.length_set, go_sem]; done)
    · refine br_f hb ?_
      obtain ⟨r_3, h1, h⟩ := bd h
      refine call_aft (s_l01In_c h1) ?_
      simp +decide only [go_sem, reduceIte, Nat.reduceAdd]
      rcases brc h with ⟨hb, h⟩ | ⟨hb, h⟩
      · refine br_t hb ?_
        obtain rfl := Option.some.inj h
        first | rfl | (simp only [List.length_set, go_sem]; done)
      · refine br_f hb ?_
        obtain ⟨e_, h1, h⟩ := bd h
        refine goR_of (s_Select_1_l h1) ?_
        rcases e_ with e_2 | e_3
        · simp +decide only [go_sem, reduceIte, Nat.reduceAdd]
          obtain rfl := Option.some.inj h
          first | rfl | (simp only [List.length_set, go_sem]; done)
        · simp +decide only [go_sem, reduceIte, Nat.reduceAdd]
          obtain rfl := Option.some.inj h
          first | rfl | (simp only [List.length_set, go_sem]; done)
noncomputable def i_SettingOK (t : Setting) : Option (Bool) :=
  (i_in t.Rate (1 : Int) (3 : Int)).bind fun r_ =>
  br r_ (
    (i_in t.Queries (1 : Int) (8 : Int)).bind fun r_2 =>
    br r_2 (
      (i_in t.Grind (0 : Int) (12 : Int)).bind fun r_3 =>
      some r_3) (
      some false)) (
    some false)
theorem i_SettingOK_c {t : Setting} {r : Bool} (h : i_SettingOK t = some r) : Call tab ow 30 [.agg [I t.Rate, I t.Queries, I t.Grind]] [] = some (B r, []) := by
  rw [run_i_SettingOK]
  unfold i_SettingOK at h
  simp +decide only [b_i_SettingOK, go_sem, reduceIte, Nat.reduceAdd]
  obtain ⟨r_, h1, h⟩ := bd h
  refine call_aft (i_in_c h1) ?_
  simp +decide only [go_sem, reduceIte, Nat.reduceAdd]
  rcases brc h with ⟨hb, h⟩ | ⟨hb, h⟩
  · refine br_t hb ?_
    obtain ⟨r_2, h1, h⟩ := bd h
    refine call_aft (i_in_c h1) ?_
    simp +decide only [go_sem, reduceIte, Nat.reduceAdd]
    rcases brc h with ⟨hb, h⟩ | ⟨hb, h⟩
    · refine br_t hb ?_
      obtain ⟨r_3, h1, h⟩ := bd h
      refine call_aft (i_in_c h1) ?_
      simp +decide only [go_sem, reduceIte, Nat.reduceAdd]
      obtain rfl := Option.some.inj h
      first | rfl | (simp only [List.length_set, go_sem]; done)
    · refine br_f hb ?_
      obtain rfl := Option.some.inj h
      first | rfl | (simp only [List.length_set, go_sem]; done)
  · refine br_f hb ?_
    obtain rfl := Option.some.inj h
    first | rfl | (simp only [List.length_set, go_sem]; done)
noncomputable def i_QueryBits (t : Setting) : Option (Int × Int) :=
  (i_SettingOK t).bind fun r_ =>
  br (!r_) (
    some ((0 : Int), (1 : Int))) (
    (i_Setting_bitsOf t).bind fun r_2 =>
    some (r_2, (0 : Int)))
theorem i_QueryBits_c {t : Setting} {r : Int × Int} (h : i_QueryBits t = some r) : Call tab ow 12 [.agg [I t.Rate, I t.Queries, I t.Grind]] [] = some (.tup [I r.1, I r.2], []) := by
  rw [run_i_QueryBits]
  unfold i_QueryBits at h
  simp +decide only [b_i_QueryBits, go_sem, reduceIte, Nat.reduceAdd]
  obtain ⟨r_, h1, h⟩ := bd h
  refine call_aft (i_SettingOK_c h1) ?_
  simp +decide only [go_sem, reduceIte, Nat.reduceAdd]
  rcases brc h with ⟨hb, h⟩ | ⟨hb, h⟩
  · refine br_t hb ?_
    obtain rfl := Option.some.inj h
    first | rfl | (simp only [List.length_set, go_sem]; done)
  · refine br_f hb ?_
    obtain ⟨r_2, h1, h⟩ := bd h
    refine call_aft (i_Setting_bitsOf_c h1) ?_
    simp +decide only [go_sem, reduceIte, Nat.reduceAdd]
    obtain rfl := Option.some.inj h
    first | rfl | (simp only [List.length_set, go_sem]; done)
noncomputable def i_Secure (t : Setting) (bits : Int) : Option (Bool × Int) :=
  (i_SettingOK t).bind fun r_ =>
  br (!r_) (
    some (false, (1 : Int))) (
    (i_in bits (0 : Int) (16 : Int)).bind fun r_2 =>
    br (!r_2) (
      some (false, (4 : Int))) (
      (i_Setting_bitsOf t).bind fun r_3 =>
      some (decide (r_3 ≥ bits), (0 : Int))))
theorem i_Secure_c {t : Setting} {bits : Int} {r : Bool × Int} (h : i_Secure t bits = some r) : Call tab ow 14 [.agg [I t.Rate, I t.Queries, I t.Grind], I bits] [] = some (.tup [B r.1, I r.2], []) := by
  rw [run_i_Secure]
  unfold i_Secure at h
  simp +decide only [b_i_Secure, go_sem, reduceIte, Nat.reduceAdd]
  obtain ⟨r_, h1, h⟩ := bd h
  refine call_aft (i_SettingOK_c h1) ?_
  simp +decide only [go_sem, reduceIte, Nat.reduceAdd]
  rcases brc h with ⟨hb, h⟩ | ⟨hb, h⟩
  · refine br_t hb ?_
    obtain rfl := Option.some.inj h
    first | rfl | (simp only [List.length_set, go_sem]; done)
  · refine br_f hb ?_
    obtain ⟨r_2, h1, h⟩ := bd h
    refine call_aft (i_in_c h1) ?_
    simp +decide only [go_sem, reduceIte, Nat.reduceAdd]
    rcases brc h with ⟨hb, h⟩ | ⟨hb, h⟩
    · refine br_t hb ?_
      obtain rfl := Option.some.inj h
      first | rfl | (simp only [List.length_set, go_sem]; done)
    · refine br_f hb ?_
      obtain ⟨r_3, h1, h⟩ := bd h
      refine call_aft (i_Setting_bitsOf_c h1) ?_
      simp +decide only [go_sem, reduceIte, Nat.reduceAdd]
      obtain rfl := Option.some.inj h
      first | rfl | (simp only [List.length_set, go_sem]; done)
noncomputable def w_FnSelect (ListtoArray : (List UInt8)) (a : (List UInt8)) : Option (Bool) :=
  br (decide (((ListtoArray.length : Nat) : Int) > (1048576 : Int))) (
    some true) (
    br (decide (((a.length : Nat) : Int) > (1048576 : Int))) (
      some true) (
      (w_at ListtoArray (0 : Int) (17 : Int)).bind fun r_ =>
      (w_at a (0 : Int) (3 : Int)).bind fun r_2 =>
      (w_at a (1 : Int) (13 : Int)).bind fun r_3 =>
      (i_Select r_ (IntKind.wrap .i64 ((1 : Int) + r_2)) r_3).bind fun r_4 =>
      (s_Select r_ (IntKind.wrap .i64 ((1 : Int) + r_2)) r_3).bind fun r_5 =>
      br (r_4.2 != r_5.2) (
        some false) (
        br (r_4.1.Rate == r_5.1.Rate) (
          br (r_4.1.Queries == r_5.1.Queries) (
            br (r_4.1.Grind == r_5.1.Grind) (
              br (r_4.2 != (0 : Int)) (
                (i_QueryBits (Setting.mk (IntKind.wrap .i64 ((1 : Int) + r_2)) (8 : Int) r_3)).bind fun r_6 =>
                br (r_4.2 == (16 : Int)) (
                  br (r_6.2 == (0 : Int)) (
                    some (decide (r_6.1 < r_))) (
                    some false)) (
                  some false)) (
                (i_QueryBits r_4.1).bind fun r_7 =>
                (i_Secure r_4.1 r_).bind fun r_8 =>
                br (r_7.2 != (0 : Int)) (
                  some false) (
                  br (r_8.2 != (0 : Int)) (
                    some false) (
                    br (!r_8.1) (
                      some false) (
                      br (decide (r_7.1 < r_)) (
                        some false) (
                        br (r_4.1.Rate != (IntKind.wrap .i64 ((1 : Int) + r_2))) (
                          some false) (
                          br (r_4.1.Grind != r_3) (
                            some false) (
                            br (decide (r_4.1.Queries > (1 : Int))) (
                              (i_QueryBits (Setting.mk r_4.1.Rate (IntKind.wrap .i64 (r_4.1.Queries - (1 : Int))) r_4.1.Grind)).bind fun r_9 =>
                              (i_Secure (Setting.mk r_4.1.Rate (IntKind.wrap .i64 (r_4.1.Queries - (1 : Int))) r_4.1.Grind) r_).bind fun r_10 =>
                              br (r_9.2 == (0 : Int)) (
                                br (r_10.2 == (0 : Int)) (
                                  br (!r_10.1) (
                                    br (decide (r_9.1 < r_)) (
                                      some (decide (r_9.1 ≤ r_7.1))) (
                                      some false)) (
                                    some false)) (
                                  some false)) (
                                some false)) (
                              some true))))))))) (
              some false)) (
            some false)) (
          some false))))
theorem w_FnSelect_c {ListtoArray : (List UInt8)} {a : (List UInt8)} {r : Bool} (h : w_FnSelect ListtoArray a = some r) : Call tab ow 6 [sl eU8 ListtoArray, sl eU8 a] [] = some (B r, []) := by
  rw [run_w_FnSelect]
  unfold w_FnSelect at h
  simp +decide only [b_w_FnSelect, go_sem, reduceIte, Nat.reduceAdd]
  rcases brc h with ⟨hb, h⟩ | ⟨hb, h⟩
  · refine br_t hb ?_
    obtain rfl := Option.some.inj h
    first | rfl | (simp only [List.length_set, go_sem]; done)
  · refine br_f hb ?_
    rcases brc h with ⟨hb, h⟩ | ⟨hb, h⟩
    · refine br_t hb ?_
      obtain rfl := Option.some.inj h
      first | rfl | (simp only [List.length_set, go_sem]; done)
    · refine br_f hb ?_
      obtain ⟨r_, h1, h⟩ := bd h
      refine call_aft (w_at_c h1) ?_
      simp +decide only [go_sem, reduceIte, Nat.reduceAdd]
      obtain ⟨r_2, h1, h⟩ := bd h
      refine call_aft (w_at_c h1) ?_
      simp +decide only [go_sem, reduceIte, Nat.reduceAdd]
      obtain ⟨r_3, h1, h⟩ := bd h
      refine call_aft (w_at_c h1) ?_
      simp +decide only [go_sem, reduceIte, Nat.reduceAdd]
      obtain ⟨r_4, h1, h⟩ := bd h
      refine call_aft (i_Select_c h1) ?_
      simp +decide only [go_sem, reduceIte, Nat.reduceAdd]
      obtain ⟨r_5, h1, h⟩ := bd h
      refine call_aft (s_Select_c h1) ?_
      simp +decide only [go_sem, reduceIte, Nat.reduceAdd]
      rcases brc h with ⟨hb, h⟩ | ⟨hb, h⟩
      · refine br_t hb ?_
        obtain rfl := Option.some.inj h
        first | rfl | (simp only [List.length_set, go_sem]; done)
      · refine br_f hb ?_
        rcases brc h with ⟨hb, h⟩ | ⟨hb, h⟩
        · refine br_t hb ?_
          rcases brc h with ⟨hb, h⟩ | ⟨hb, h⟩
          · refine br_t hb ?_
            rcases brc h with ⟨hb, h⟩ | ⟨hb, h⟩
            · refine br_t hb ?_
              rcases brc h with ⟨hb, h⟩ | ⟨hb, h⟩
              · refine br_t hb ?_
                obtain ⟨r_6, h1, h⟩ := bd h
                refine call_aft (i_QueryBits_c h1) ?_
                simp +decide only [go_sem, reduceIte, Nat.reduceAdd]
                rcases brc h with ⟨hb, h⟩ | ⟨hb, h⟩
                · refine br_t hb ?_
                  rcases brc h with ⟨hb, h⟩ | ⟨hb, h⟩
                  · refine br_t hb ?_
                    obtain rfl := Option.some.inj h
                    first | rfl | (simp only [List.length_set, go_sem]; done)
                  · refine br_f hb ?_
                    obtain rfl := Option.some.inj h
                    first | rfl | (simp only [List.length_set, go_sem]; done)
                · refine br_f hb ?_
                  obtain rfl := Option.some.inj h
                  first | rfl | (simp only [List.length_set, go_sem]; done)
              · refine br_f hb ?_
                obtain ⟨r_7, h1, h⟩ := bd h
                refine call_aft (i_QueryBits_c h1) ?_
                simp +decide only [go_sem, reduceIte, Nat.reduceAdd]
                obtain ⟨r_8, h1, h⟩ := bd h
                refine call_aft (i_Secure_c h1) ?_
                simp +decide only [go_sem, reduceIte, Nat.reduceAdd]
                rcases brc h with ⟨hb, h⟩ | ⟨hb, h⟩
                · refine br_t hb ?_
                  obtain rfl := Option.some.inj h
                  first | rfl | (simp only [List.length_set, go_sem]; done)
                · refine br_f hb ?_
                  rcases brc h with ⟨hb, h⟩ | ⟨hb, h⟩
                  · refine br_t hb ?_
                    obtain rfl := Option.some.inj h
                    first | rfl | (simp only [List.length_set, go_sem]; done)
                  · refine br_f hb ?_
                    rcases brc h with ⟨hb, h⟩ | ⟨hb, h⟩
                    · refine br_t hb ?_
                      obtain rfl := Option.some.inj h
                      first | rfl | (simp only [List.length_set, go_sem]; done)
                    · refine br_f hb ?_
                      rcases brc h with ⟨hb, h⟩ | ⟨hb, h⟩
                      · refine br_t hb ?_
                        obtain rfl := Option.some.inj h
                        first | rfl | (simp only [List.length_set, go_sem]; done)
                      · refine br_f hb ?_
                        rcases brc h with ⟨hb, h⟩ | ⟨hb, h⟩
                        · refine br_t hb ?_
                          obtain rfl := Option.some.inj h
                          first | rfl | (simp only [List.length_set, go_sem]; done)
                        · refine br_f hb ?_
                          rcases brc h with ⟨hb, h⟩ | ⟨hb, h⟩
                          · refine br_t hb ?_
                            obtain rfl := Option.some.inj h
                            first | rfl | (simp only [List.length_set, go_sem]; done)
                          · refine br_f hb ?_
                            rcases brc h with ⟨hb, h⟩ | ⟨hb, h⟩
                            · refine br_t hb ?_
                              obtain ⟨r_9, h1, h⟩ := bd h
                              refine call_aft (i_QueryBits_c h1) ?_
                              simp +decide only [go_sem, reduceIte, Nat.reduceAdd]
                              obtain ⟨r_10, h1, h⟩ := bd h
                              refine call_aft (i_Secure_c h1) ?_
                              simp +decide only [go_sem, reduceIte, Nat.reduceAdd]
                              rcases brc h with ⟨hb, h⟩ | ⟨hb, h⟩
                              · refine br_t hb ?_
                                rcases brc h with ⟨hb, h⟩ | ⟨hb, h⟩
                                · refine br_t hb ?_
                                  rcases brc h with ⟨hb, h⟩ | ⟨hb, h⟩
                                  · refine br_t hb ?_
                                    rcases brc h with ⟨hb, h⟩ | ⟨hb, h⟩
                                    · refine br_t hb ?_
                                      obtain rfl := Option.some.inj h
                                      first | rfl | (simp only [List.length_set, go_sem]; done)
                                    · refine br_f hb ?_
                                      obtain rfl := Option.some.inj h
                                      first | rfl | (simp only [List.length_set, go_sem]; done)
                                  · refine br_f hb ?_
                                    obtain rfl := Option.some.inj h
                                    first | rfl | (simp only [List.length_set, go_sem]; done)
                                · refine br_f hb ?_
                                  obtain rfl := Option.some.inj h
                                  first | rfl | (simp only [List.length_set, go_sem]; done)
                              · refine br_f hb ?_
                                obtain rfl := Option.some.inj h
                                first | rfl | (simp only [List.length_set, go_sem]; done)
                            · refine br_f hb ?_
                              obtain rfl := Option.some.inj h
                              first | rfl | (simp only [List.length_set, go_sem]; done)
            · refine br_f hb ?_
              obtain rfl := Option.some.inj h
              first | rfl | (simp only [List.length_set, go_sem]; done)
          · refine br_f hb ?_
            obtain rfl := Option.some.inj h
            first | rfl | (simp only [List.length_set, go_sem]; done)
        · refine br_f hb ?_
          obtain rfl := Option.some.inj h
          first | rfl | (simp only [List.length_set, go_sem]; done)
end Go.AI.Fn
