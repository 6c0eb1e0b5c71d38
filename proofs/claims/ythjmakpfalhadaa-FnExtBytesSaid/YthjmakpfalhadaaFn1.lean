/- Walks through the program, with open values. -/
import Derived.Test.YthjmakpfalhadaaFn0
set_option linter.unusedVariables false
set_option linter.unusedSimpArgs false
set_option maxRecDepth 100000
set_option maxHeartbeats 1000000
namespace Go.AI.Fn
noncomputable def i_Ext_times (a : Ext) (b : Ext) : Option (Ext) :=
  (i_mul a.A b.A).bind fun r_ =>
  (i_mul a.B b.B).bind fun r_2 =>
  (i_mul (3 : Int) r_2).bind fun r_3 =>
  (i_add r_ r_3).bind fun r_4 =>
  (i_mul a.A b.B).bind fun r_5 =>
  (i_mul a.B b.A).bind fun r_6 =>
  (i_add r_5 r_6).bind fun r_7 =>
  some (Ext.mk r_4 r_7)
theorem i_Ext_times_c {a : Ext} {b : Ext} {r : Ext} (h : i_Ext_times a b = some r) : Call tab ow 115 [.agg [I a.A, I a.B], .agg [I b.A, I b.B]] [] = some (.agg [I r.A, I r.B], []) := by
  rw [run_i_Ext_times]
  unfold i_Ext_times at h
  simp +decide only [b_i_Ext_times, go_sem, reduceIte, Nat.reduceAdd]
  obtain ⟨r_, h1, h⟩ := bd h
  refine call_aftD (i_mul_c h1) ?_
  simp +decide only [go_sem, reduceIte, Nat.reduceAdd]
  obtain ⟨r_2, h1, h⟩ := bd h
  refine call_aftD (i_mul_c h1) ?_
  simp +decide only [go_sem, reduceIte, Nat.reduceAdd]
  obtain ⟨r_3, h1, h⟩ := bd h
  refine call_aftD (i_mul_c h1) ?_
  simp +decide only [go_sem, reduceIte, Nat.reduceAdd]
  obtain ⟨r_4, h1, h⟩ := bd h
  refine call_aftD (i_add_c h1) ?_
  simp +decide only [go_sem, reduceIte, Nat.reduceAdd]
  obtain ⟨r_5, h1, h⟩ := bd h
  refine call_aftD (i_mul_c h1) ?_
  simp +decide only [go_sem, reduceIte, Nat.reduceAdd]
  obtain ⟨r_6, h1, h⟩ := bd h
  refine call_aftD (i_mul_c h1) ?_
  simp +decide only [go_sem, reduceIte, Nat.reduceAdd]
  obtain ⟨r_7, h1, h⟩ := bd h
  refine call_aftD (i_add_c h1) ?_
  simp +decide only [go_sem, reduceIte, Nat.reduceAdd]
  obtain rfl := Option.some.inj h
  first | rfl | (simp only [List.length_set, go_sem]; done)
noncomputable def i_Ext_plus (a : Ext) (b : Ext) : Option (Ext) :=
  (i_add a.A b.A).bind fun r_ =>
  (i_add a.B b.B).bind fun r_2 =>
  some (Ext.mk r_ r_2)
theorem i_Ext_plus_c {a : Ext} {b : Ext} {r : Ext} (h : i_Ext_plus a b = some r) : Call tab ow 116 [.agg [I a.A, I a.B], .agg [I b.A, I b.B]] [] = some (.agg [I r.A, I r.B], []) := by
  rw [run_i_Ext_plus]
  unfold i_Ext_plus at h
  simp +decide only [b_i_Ext_plus, go_sem, reduceIte, Nat.reduceAdd]
  obtain ⟨r_, h1, h⟩ := bd h
  refine call_aftD (i_add_c h1) ?_
  simp +decide only [go_sem, reduceIte, Nat.reduceAdd]
  obtain ⟨r_2, h1, h⟩ := bd h
  refine call_aftD (i_add_c h1) ?_
  simp +decide only [go_sem, reduceIte, Nat.reduceAdd]
  obtain rfl := Option.some.inj h
  first | rfl | (simp only [List.length_set, go_sem]; done)
noncomputable def i_dot_1_s (b2 : List Ext) (t : List Ext) (t2 : Int) (c : Int) (c2 : Int) : Int × Int × Int → Option ((Int × Int × Int) ⊕ ((Int × Bool × Int × Int)))
  | (t3, c3, c4) =>
    br (decide (t3 < t2)) (
      (atL t t3).bind fun x =>
      (atL b2 t3).bind fun x2 =>
      (i_Ext_times x x2).bind fun r_ =>
      (i_Ext_plus (Ext.mk c3 c4) r_).bind fun r_2 =>
      some (.inl ((IntKind.wrap .i64 (t3 + (1 : Int))), r_2.A, r_2.B))) (
      some (.inr (t3, decide (t3 < t2), c3, c4)))
theorem i_dot_1_l {b2 : List Ext} {t : List Ext} {t2 : Int} {c : Int} {c2 : Int} {t3 : Int} {c3 : Int} {c4 : Int} {e : (Int × Bool × Int × Int)} (h : Loop (i_dot_1_s b2 t t2 c c2) (t3, c3, c4) = some e) : LoopX tab ow (.close [5003, 6006, 6007]) b_i_dot_3 ⟨[(1, sl eExt b2), (4, .ptr 1000 0 0 1), (5, .ptr 2001 0 0 1), (9, sl eExt t), (10, I t2), (11, I t3)], [(1000, ⟨2, true, [[I c, I c2]]⟩), (2001, ⟨2, true, [[I c3, I c4]]⟩)]⟩ = some ((.exit 0, ⟨[(1, sl eExt b2), (4, .ptr 1000 0 0 1), (5, .ptr 2001 0 0 1), (9, sl eExt t), (10, I t2), (11, I e.1), (12, B e.2.1)], [(1000, ⟨2, true, [[I c, I c2]]⟩), (2001, ⟨2, true, [[I e.2.2.1, I e.2.2.2]]⟩)]⟩)) := by
  refine loop_runG (S := Int × Int × Int) (eS := fun s => ⟨[(1, sl eExt b2), (4, .ptr 1000 0 0 1), (5, .ptr 2001 0 0 1), (9, sl eExt t), (10, I t2), (11, I s.1)], [(1000, ⟨2, true, [[I c, I c2]]⟩), (2001, ⟨2, true, [[I s.2.1, I s.2.2]]⟩)]⟩) (eE := fun e => (.exit 0, ⟨[(1, sl eExt b2), (4, .ptr 1000 0 0 1), (5, .ptr 2001 0 0 1), (9, sl eExt t), (10, I t2), (11, I e.1), (12, B e.2.1)], [(1000, ⟨2, true, [[I c, I c2]]⟩), (2001, ⟨2, true, [[I e.2.2.1, I e.2.2.2]]⟩)]⟩)) (fun e => ?_) (fun s o h => ?_) h
  · simp [alt]
  · obtain ⟨t3, c3, c4⟩ := s
    simp only [i_dot_1_s] at h
    show Rn tab ow _ _ ⟨[(1, sl eExt b2), (4, .ptr 1000 0 0 1), (5, .ptr 2001 0 0 1), (9, sl eExt t), (10, I t2), (11, I t3)], [(1000, ⟨2, true, [[I c, I c2]]⟩), (2001, ⟨2, true, [[I c3, I c4]]⟩)]⟩ = _
    simp +decide only [b_i_dot_3, go_sem, reduceIte, Nat.reduceAdd]
    rcases brc h with ⟨hb, h⟩ | ⟨hb, h⟩
    · refine br_t hb ?_
      obtain ⟨x, h1, h⟩ := bd h
      refine bind_some h1 ?_
      obtain ⟨x2, h1, h⟩ := bd h
      refine bind_some h1 ?_
      obtain ⟨r_, h1, h⟩ := bd h
      refine call_aftD (i_Ext_times_c h1) ?_
      simp +decide only [go_sem, reduceIte, Nat.reduceAdd]
      obtain ⟨r_2, h1, h⟩ := bd h
      refine call_aftD (i_Ext_plus_c h1) ?_
      simp +decide only [go_sem, reduceIte, Nat.reduceAdd]
      obtain rfl := Option.some.inj h
      first | rfl | (simp only [List.length_set, go_sem]; done)
    · refine br_f hb ?_
      obtain rfl := Option.some.inj h
      first | rfl | (simp only [List.length_set, go_sem]; done)
noncomputable def i_dot (a : (List Ext)) (b : (List Ext)) : Option (Ext) :=
  (Loop (i_dot_1_s b a ((a.length : Nat) : Int) (0 : Int) (0 : Int)) ((0 : Int), (0 : Int), (0 : Int))).bind fun e_ =>
  some (Ext.mk e_.2.2.1 e_.2.2.2)
theorem i_dot_c {a : (List Ext)} {b : (List Ext)} {r : Ext} (h : i_dot a b = some r) : Call tab ow 107 [sl eExt a, sl eExt b] [] = some (.agg [I r.A, I r.B], []) := by
  rw [run_i_dot]
  unfold i_dot at h
  simp +decide only [b_i_dot, go_sem, reduceIte, Nat.reduceAdd]
  obtain ⟨e_, h1, h⟩ := bd h
  refine goR_of (i_dot_1_l h1) ?_
  simp +decide only [go_sem, reduceIte, Nat.reduceAdd]
  obtain rfl := Option.some.inj h
  first | rfl | (simp only [List.length_set, go_sem]; done)
noncomputable def i_ExtDot (a : (List Ext)) (b : (List Ext)) : Option (Ext × Int) :=
  (i_areLists a b).bind fun r_ =>
  br (r_ != (0 : Int)) (
    some ((Ext.mk (0 : Int) (0 : Int)), r_)) (
    br (((a.length : Nat) : Int) != ((b.length : Nat) : Int)) (
      some ((Ext.mk (0 : Int) (0 : Int)), (8 : Int))) (
      (i_dot a b).bind fun r_2 =>
      some (r_2, (0 : Int))))
theorem i_ExtDot_c {a : (List Ext)} {b : (List Ext)} {r : Ext × Int} (h : i_ExtDot a b = some r) : Call tab ow 32 [sl eExt a, sl eExt b] [] = some (.tup [.agg [I r.1.A, I r.1.B], I r.2], []) := by
  rw [run_i_ExtDot]
  unfold i_ExtDot at h
  simp +decide only [b_i_ExtDot, go_sem, reduceIte, Nat.reduceAdd]
  obtain ⟨r_, h1, h⟩ := bd h
  refine call_aft (i_areLists_c h1) ?_
  simp +decide only [go_sem, reduceIte, Nat.reduceAdd]
  rcases brc h with ⟨hb, h⟩ | ⟨hb, h⟩
  · refine br_t hb ?_
    obtain rfl := Option.some.inj h
    first | rfl | (simp only [List.length_set, go_sem]; done)
  · refine br_f hb ?_
    rcases brc h with ⟨hb, h⟩ | ⟨hb, h⟩
    · refine br_t hb ?_
      obtain rfl := Option.some.inj h
      first | rfl | (simp only [List.length_set, go_sem]; done)
    · refine br_f hb ?_
      obtain ⟨r_2, h1, h⟩ := bd h
      refine call_aft (i_dot_c h1) ?_
      simp +decide only [go_sem, reduceIte, Nat.reduceAdd]
      obtain rfl := Option.some.inj h
      first | rfl | (simp only [List.length_set, go_sem]; done)
noncomputable def s_l01Mul (a : Int) (b : Int) : Option (Int) :=
  some ((IntKind.wrap .i64 (a * b)).tmod (2130706433 : Int))
theorem s_l01Mul_c {a : Int} {b : Int} {r : Int} (h : s_l01Mul a b = some r) : Call tab ow 220 [I a, I b] [] = some (I r, []) := by
  rw [run_s_l01Mul]
  unfold s_l01Mul at h
  simp +decide only [b_s_l01Mul, go_sem, reduceIte, Nat.reduceAdd]
  obtain rfl := Option.some.inj h
  first | rfl | (simp only [List.length_set, go_sem]; done)
noncomputable def s_l01Add (a : Int) (b : Int) : Option (Int) :=
  some ((IntKind.wrap .i64 (a + b)).tmod (2130706433 : Int))
theorem s_l01Add_c {a : Int} {b : Int} {r : Int} (h : s_l01Add a b = some r) : Call tab ow 219 [I a, I b] [] = some (I r, []) := by
  rw [run_s_l01Add]
  unfold s_l01Add at h
  simp +decide only [b_s_l01Add, go_sem, reduceIte, Nat.reduceAdd]
  obtain rfl := Option.some.inj h
  first | rfl | (simp only [List.length_set, go_sem]; done)
noncomputable def s_l02Mul (a : Ext) (b : Ext) : Option (Ext) :=
  (s_l01Mul a.A b.A).bind fun r_ =>
  (s_l01Mul a.B b.B).bind fun r_2 =>
  (s_l01Add r_ ((IntKind.wrap .i64 ((3 : Int) * r_2)).tmod (2130706433 : Int))).bind fun r_3 =>
  (s_l01Mul a.A b.B).bind fun r_4 =>
  (s_l01Mul a.B b.A).bind fun r_5 =>
  (s_l01Add r_4 r_5).bind fun r_6 =>
  some (Ext.mk r_3 r_6)
theorem s_l02Mul_c {a : Ext} {b : Ext} {r : Ext} (h : s_l02Mul a b = some r) : Call tab ow 125 [.agg [I a.A, I a.B], .agg [I b.A, I b.B]] [] = some (.agg [I r.A, I r.B], []) := by
  rw [run_s_l02Mul]
  unfold s_l02Mul at h
  simp +decide only [b_s_l02Mul, go_sem, reduceIte, Nat.reduceAdd]
  obtain ⟨r_, h1, h⟩ := bd h
  refine call_aftD (s_l01Mul_c h1) ?_
  simp +decide only [go_sem, reduceIte, Nat.reduceAdd]
  obtain ⟨r_2, h1, h⟩ := bd h
  refine call_aftD (s_l01Mul_c h1) ?_
  simp +decide only [go_sem, reduceIte, Nat.reduceAdd]
  obtain ⟨r_3, h1, h⟩ := bd h
  refine call_aftD (s_l01Add_c h1) ?_
  simp +decide only [go_sem, reduceIte, Nat.reduceAdd]
  obtain ⟨r_4, h1, h⟩ := bd h
  refine call_aftD (s_l01Mul_c h1) ?_
  simp +decide only [go_sem, reduceIte, Nat.reduceAdd]
  obtain ⟨r_5, h1, h⟩ := bd h
  refine call_aftD (s_l01Mul_c h1) ?_
  simp +decide only [go_sem, reduceIte, Nat.reduceAdd]
  obtain ⟨r_6, h1, h⟩ := bd h
  refine call_aftD (s_l01Add_c h1) ?_
  simp +decide only [go_sem, reduceIte, Nat.reduceAdd]
  obtain rfl := Option.some.inj h
  first | rfl | (simp only [List.length_set, go_sem]; done)
noncomputable def s_l02Add (a : Ext) (b : Ext) : Option (Ext) :=
  (s_l01Add a.A b.A).bind fun r_ =>
  (s_l01Add a.B b.B).bind fun r_2 =>
  some (Ext.mk r_ r_2)
theorem s_l02Add_c {a : Ext} {b : Ext} {r : Ext} (h : s_l02Add a b = some r) : Call tab ow 124 [.agg [I a.A, I a.B], .agg [I b.A, I b.B]] [] = some (.agg [I r.A, I r.B], []) := by
  rw [run_s_l02Add]
  unfold s_l02Add at h
  simp +decide only [b_s_l02Add, go_sem, reduceIte, Nat.reduceAdd]
  obtain ⟨r_, h1, h⟩ := bd h
  refine call_aftD (s_l01Add_c h1) ?_
  simp +decide only [go_sem, reduceIte, Nat.reduceAdd]
  obtain ⟨r_2, h1, h⟩ := bd h
  refine call_aftD (s_l01Add_c h1) ?_
  simp +decide only [go_sem, reduceIte, Nat.reduceAdd]
  obtain rfl := Option.some.inj h
  first | rfl | (simp only [List.length_set, go_sem]; done)
noncomputable def s_ExtDot_1_s (a2 : List Ext) (b2 : List Ext) (c : Int) (c2 : Int) : Int × Int × Int → Option ((Int × Int × Int) ⊕ ((Int × Bool × Int × Int)))
  | (i, c3, c4) =>
    br (decide (i < ((a2.length : Nat) : Int))) (
      (atL a2 i).bind fun x =>
      (atL b2 i).bind fun x2 =>
      (s_l02Mul x x2).bind fun r_3 =>
      (s_l02Add (Ext.mk c3 c4) r_3).bind fun r_4 =>
      some (.inl ((IntKind.wrap .i64 (i + (1 : Int))), r_4.A, r_4.B))) (
      some (.inr (i, decide (i < ((a2.length : Nat) : Int)), c3, c4)))
theorem s_ExtDot_1_l {a2 : List Ext} {b2 : List Ext} {c : Int} {c2 : Int} {i : Int} {c3 : Int} {c4 : Int} {e : (Int × Bool × Int × Int)} (h : Loop (s_ExtDot_1_s a2 b2 c c2) (i, c3, c4) = some e) : LoopX tab ow (.close [12009, 12010]) b_s_ExtDot_9 ⟨[(0, sl eExt a2), (1, sl eExt b2), (4, .ptr 1000 0 0 1), (6, .ptr 8001 0 0 1), (7, I i)], [(1000, ⟨2, true, [[I c, I c2]]⟩), (8001, ⟨2, true, [[I c3, I c4]]⟩)]⟩ = some ((.exit 0, ⟨[(0, sl eExt a2), (1, sl eExt b2), (4, .ptr 1000 0 0 1), (6, .ptr 8001 0 0 1), (7, I e.1), (36, B e.2.1)], [(1000, ⟨2, true, [[I c, I c2]]⟩), (8001, ⟨2, true, [[I e.2.2.1, I e.2.2.2]]⟩)]⟩)) := by
  refine loop_runG (S := Int × Int × Int) (eS := fun s => ⟨[(0, sl eExt a2), (1, sl eExt b2), (4, .ptr 1000 0 0 1), (6, .ptr 8001 0 0 1), (7, I s.1)], [(1000, ⟨2, true, [[I c, I c2]]⟩), (8001, ⟨2, true, [[I s.2.1, I s.2.2]]⟩)]⟩) (eE := fun e => (.exit 0, ⟨[(0, sl eExt a2), (1, sl eExt b2), (4, .ptr 1000 0 0 1), (6, .ptr 8001 0 0 1), (7, I e.1), (36, B e.2.1)], [(1000, ⟨2, true, [[I c, I c2]]⟩), (8001, ⟨2, true, [[I e.2.2.1, I e.2.2.2]]⟩)]⟩)) (fun e => ?_) (fun s o h => ?_) h
  · simp [alt]
  · obtain ⟨i, c3, c4⟩ := s
    simp only [s_ExtDot_1_s] at h
    show Rn tab ow _ _ ⟨[(0, sl eExt a2), (1, sl eExt b2), (4, .ptr 1000 0 0 1), (6, .ptr 8001 0 0 1), (7, I i)], [(1000, ⟨2, true, [[I c, I c2]]⟩), (8001, ⟨2, true, [[I c3, I c4]]⟩)]⟩ = _
    simp +decide only [b_s_ExtDot_9, go_sem, reduceIte, Nat.reduceAdd]
    rcases brc h with ⟨hb, h⟩ | ⟨hb, h⟩
    · refine br_t hb ?_
      obtain ⟨x, h1, h⟩ := bd h
      refine bind_some h1 ?_
      obtain ⟨x2, h1, h⟩ := bd h
      refine bind_some h1 ?_
      obtain ⟨r_3, h1, h⟩ := bd h
      refine call_aftD (s_l02Mul_c h1) ?_
      simp +decide only [go_sem, reduceIte, Nat.reduceAdd]
      obtain ⟨r_4, h1, h⟩ := bd h
      refine call_aftD (s_l02Add_c h1) ?_
      simp +decide only [go_sem, reduceIte, Nat.reduceAdd]
      obtain rfl := Option.some.inj h
      first | rfl | (simp only [List.length_set, go_sem]; done)
    · refine br_f hb ?_
      obtain rfl := Option.some.inj h
      first | rfl | (simp only [List.length_set, go_sem]; done)
noncomputable def s_ExtDot (a : (List Ext)) (b : (List Ext)) : Option (Ext × Int) :=
  br (decide (((a.length : Nat) : Int) > (4096 : Int))) (
    some ((Ext.mk (0 : Int) (0 : Int)), (2 : Int))) (
    br (decide (((b.length : Nat) : Int) > (4096 : Int))) (
      some ((Ext.mk (0 : Int) (0 : Int)), (2 : Int))) (
      (s_l02List a).bind fun r_ =>
      br (!r_) (
        some ((Ext.mk (0 : Int) (0 : Int)), (1 : Int))) (
        (s_l02List b).bind fun r_2 =>
        br (!r_2) (
          some ((Ext.mk (0 : Int) (0 : Int)), (1 : Int))) (
          br (((a.length : Nat) : Int) != ((b.length : Nat) : Int)) (
            some ((Ext.mk (0 : Int) (0 : Int)), (8 : Int))) (
            (Loop (s_ExtDot_1_s a b (0 : Int) (0 : Int)) ((0 : Int), (0 : Int), (0 : Int))).bind fun e_ =>
            some ((Ext.mk e_.2.2.1 e_.2.2.2), (0 : Int)))))))
theorem s_ExtDot_c {a : (List Ext)} {b : (List Ext)} {r : Ext × Int} (h : s_ExtDot a b = some r) : Call tab ow 33 [sl eExt a, sl eExt b] [] = some (.tup [.agg [I r.1.A, I r.1.B], I r.2], []) := by
  rw [run_s_ExtDot]
  unfold s_ExtDot at h
  simp +decide only [b_s_ExtDot, go_sem, reduceIte, Nat.reduceAdd]
  rcases brc h with ⟨hb, h⟩ | ⟨hb, h⟩
  · refine br_t hb ?_
    obtain rfl := Option.some.inj h
    first | rfl | (simp only [List.length_set, go_sem]; done)
  · refine br_f hb ?_
    rcases brc h with ⟨hb, h⟩ | ⟨hb, h⟩
    · refine br_t hb ?_
      obtain rfl := Option.some.inj h
      first | rfl | (simp only [List.length_set, go_sem]; done)
    · refine br_f hb ?_
      obtain ⟨r_, h1, h⟩ := bd h
      refine call_aft (s_l02List_c h1) ?_
      simp +decide only [go_sem, reduceIte, Nat.reduceAdd]
      rcases brc h with ⟨hb, h⟩ | ⟨hb, h⟩
      · refine br_t hb ?_
        obtain rfl := Option.some.inj h
        first | rfl | (simp only [List.length_set, go_sem]; done)
      · refine br_f hb ?_
        obtain ⟨r_2, h1, h⟩ := bd h
        refine call_aft (s_l02List_c h1) ?_
        simp +decide only [go_sem, reduceIte, Nat.reduceAdd]
        rcases brc h with ⟨hb, h⟩ | ⟨hb, h⟩
        · refine br_t hb ?_
          obtain rfl := Option.some.inj h
          first | rfl | (simp only [List.length_set, go_sem]; done)
        · refine br_f hb ?_
          rcases brc h with ⟨hb, h⟩ | ⟨hb, h⟩
          · refine br_t hb ?_
            obtain rfl := Option.some.inj h
            first | rfl | (simp only [List.length_set, go_sem]; done)
          · refine br_f hb ?_
            obtain ⟨e_, h1, h⟩ := bd h
            refine goR_of (s_ExtDot_1_l h1) ?_
            simp +decide only [go_sem, reduceIte, Nat.reduceAdd]
            obtain rfl := Option.some.inj h
            first | rfl | (simp only [List.length_set, go_sem]; done)
noncomputable def i_extTwo (a : Ext) (b : Ext) : Option (Ext × Int) :=
  (i_ExtOK a).bind fun r_ =>
  br (!r_) (
    some ((Ext.mk (0 : Int) (0 : Int)), (1 : Int))) (
    (i_ExtOK b).bind fun r_2 =>
    br (!r_2) (
      some ((Ext.mk (0 : Int) (0 : Int)), (1 : Int))) (
      (i_Ext_times a b).bind fun r_3 =>
      some (r_3, (0 : Int))))
theorem i_extTwo_c {a : Ext} {b : Ext} {r : Ext × Int} (h : i_extTwo a b = some r) : Call tab ow 114 [.agg [I a.A, I a.B], .agg [I b.A, I b.B], .fn 115 []] [] = some (.tup [.agg [I r.1.A, I r.1.B], I r.2], []) := by
  rw [run_i_extTwo]
  unfold i_extTwo at h
  simp +decide only [b_i_extTwo, go_sem, reduceIte, Nat.reduceAdd]
  obtain ⟨r_, h1, h⟩ := bd h
  refine call_aft (i_ExtOK_c h1) ?_
  simp +decide only [go_sem, reduceIte, Nat.reduceAdd]
  rcases brc h with ⟨hb, h⟩ | ⟨hb, h⟩
  · refine br_t hb ?_
    obtain rfl := Option.some.inj h
    first | rfl | (simp only [List.length_set, go_sem]; done)
  · refine br_f hb ?_
    obtain ⟨r_2, h1, h⟩ := bd h
    refine call_aft (i_ExtOK_c h1) ?_
    simp +decide only [go_sem, reduceIte, Nat.reduceAdd]
    rcases brc h with ⟨hb, h⟩ | ⟨hb, h⟩
    · refine br_t hb ?_
      obtain rfl := Option.some.inj h
      first | rfl | (simp only [List.length_set, go_sem]; done)
    · refine br_f hb ?_
      obtain ⟨r_3, h1, h⟩ := bd h
      refine call_aft (i_Ext_times_c h1) ?_
      simp +decide only [go_sem, reduceIte, Nat.reduceAdd]
      obtain rfl := Option.some.inj h
      first | rfl | (simp only [List.length_set, go_sem]; done)
noncomputable def i_ExtMul (a : Ext) (b : Ext) : Option (Ext × Int) :=
  (i_extTwo a b).bind fun r_ =>
  some (r_.1, r_.2)
theorem i_ExtMul_c {a : Ext} {b : Ext} {r : Ext × Int} (h : i_ExtMul a b = some r) : Call tab ow 25 [.agg [I a.A, I a.B], .agg [I b.A, I b.B]] [] = some (.tup [.agg [I r.1.A, I r.1.B], I r.2], []) := by
  rw [run_i_ExtMul]
  unfold i_ExtMul at h
  simp +decide only [b_i_ExtMul, go_sem, reduceIte, Nat.reduceAdd]
  obtain ⟨r_, h1, h⟩ := bd h
  refine call_aft (i_extTwo_c h1) ?_
  simp +decide only [go_sem, reduceIte, Nat.reduceAdd]
  obtain rfl := Option.some.inj h
  first | rfl | (simp only [List.length_set, go_sem]; done)
noncomputable def i_extTwo_v2 (a : Ext) (b : Ext) : Option (Ext × Int) :=
  (i_ExtOK a).bind fun r_ =>
  br (!r_) (
    some ((Ext.mk (0 : Int) (0 : Int)), (1 : Int))) (
    (i_ExtOK b).bind fun r_2 =>
    br (!r_2) (
      some ((Ext.mk (0 : Int) (0 : Int)), (1 : Int))) (
      (i_Ext_plus a b).bind fun r_3 =>
      some (r_3, (0 : Int))))
theorem i_extTwo_v2_c {a : Ext} {b : Ext} {r : Ext × Int} (h : i_extTwo_v2 a b = some r) : Call tab ow 114 [.agg [I a.A, I a.B], .agg [I b.A, I b.B], .fn 116 []] [] = some (.tup [.agg [I r.1.A, I r.1.B], I r.2], []) := by
  rw [run_i_extTwo]
  unfold i_extTwo_v2 at h
  simp +decide only [b_i_extTwo, go_sem, reduceIte, Nat.reduceAdd]
  obtain ⟨r_, h1, h⟩ := bd h
  refine call_aft (i_ExtOK_c h1) ?_
  simp +decide only [go_sem, reduceIte, Nat.reduceAdd]
  rcases brc h with ⟨hb, h⟩ | ⟨hb, h⟩
  · refine br_t hb ?_
    obtain rfl := Option.some.inj h
    first | rfl | (simp only [List.length_set, go_sem]; done)
  · refine br_f hb ?_
    obtain ⟨r_2, h1, h⟩ := bd h
    refine call_aft (i_ExtOK_c h1) ?_
    simp +decide only [go_sem, reduceIte, Nat.reduceAdd]
    rcases brc h with ⟨hb, h⟩ | ⟨hb, h⟩
    · refine br_t hb ?_
      obtain rfl := Option.some.inj h
      first | rfl | (simp only [List.length_set, go_sem]; done)
    · refine br_f hb ?_
      obtain ⟨r_3, h1, h⟩ := bd h
      refine call_aft (i_Ext_plus_c h1) ?_
      simp +decide only [go_sem, reduceIte, Nat.reduceAdd]
      obtain rfl := Option.some.inj h
      first | rfl | (simp only [List.length_set, go_sem]; done)
noncomputable def i_ExtAdd (a : Ext) (b : Ext) : Option (Ext × Int) :=
  (i_extTwo_v2 a b).bind fun r_ =>
  some (r_.1, r_.2)
theorem i_ExtAdd_c {a : Ext} {b : Ext} {r : Ext × Int} (h : i_ExtAdd a b = some r) : Call tab ow 26 [.agg [I a.A, I a.B], .agg [I b.A, I b.B]] [] = some (.tup [.agg [I r.1.A, I r.1.B], I r.2], []) := by
  rw [run_i_ExtAdd]
  unfold i_ExtAdd at h
  simp +decide only [b_i_ExtAdd, go_sem, reduceIte, Nat.reduceAdd]
  obtain ⟨r_, h1, h⟩ := bd h
  refine call_aft (i_extTwo_v2_c h1) ?_
  simp +decide only [go_sem, reduceIte, Nat.reduceAdd]
  obtain rfl := Option.some.inj h
  first | rfl | (simp only [List.length_set, go_sem]; done)
noncomputable def s_l02Four_1_s (t2 : List UInt8) : Int × Int → Option ((Int × Int) ⊕ ((Int × Int × Bool)))
  | (n, i) =>
    br (decide (i < (4 : Int))) (
      (atL t2 i).bind fun c =>
      some (.inl ((IntKind.wrap .i64 ((IntKind.wrap .i64 (n * (256 : Int))) + (IntKind.wrap .i64 (c.toNat : Int)))), (IntKind.wrap .i64 (i + (1 : Int)))))) (
      some (.inr (n, i, decide (i < (4 : Int)))))
theorem s_l02Four_1_l {t2 : List UInt8} {n : Int} {i : Int} {e : (Int × Int × Bool)} (h : Loop (s_l02Four_1_s t2) (n, i) = some e) : LoopX tab ow (.close []) b_s_l02Four_3 ⟨[(0, S t2), (3, I n), (4, I i)], []⟩ = some ((.exit 0, ⟨[(0, S t2), (3, I e.1), (4, I e.2.1), (6, B e.2.2)], []⟩)) := by
  refine loop_runG (S := Int × Int) (eS := fun s => ⟨[(0, S t2), (3, I s.1), (4, I s.2)], []⟩) (eE := fun e => (.exit 0, ⟨[(0, S t2), (3, I e.1), (4, I e.2.1), (6, B e.2.2)], []⟩)) (fun e => ?_) (fun s o h => ?_) h
  · simp [alt]
  · obtain ⟨n, i⟩ := s
    simp only [s_l02Four_1_s] at h
    show Rn tab ow _ _ ⟨[(0, S t2), (3, I n), (4, I i)], []⟩ = _
    simp +decide only [b_s_l02Four_3, go_sem, reduceIte, Nat.reduceAdd]
    rcases brc h with ⟨hb, h⟩ | ⟨hb, h⟩
    · refine br_t hb ?_
      obtain ⟨c, h1, h⟩ := bd h
      refine bind_some h1 ?_
      obtain rfl := Option.some.inj h
      first | rfl | (simp only [List.length_set, go_sem]; done)
    · refine br_f hb ?_
      obtain rfl := Option.some.inj h
      first | rfl | (simp only [List.length_set, go_sem]; done)
noncomputable def s_l02Four (t : (List UInt8)) : Option (Int) :=
  (Loop (s_l02Four_1_s t) ((0 : Int), (0 : Int))).bind fun e_ =>
  some e_.1
theorem s_l02Four_c {t : (List UInt8)} {r : Int} (h : s_l02Four t = some r) : Call tab ow 221 [S t] [] = some (I r, []) := by
  rw [run_s_l02Four]
  unfold s_l02Four at h
  simp +decide only [b_s_l02Four, go_sem, reduceIte, Nat.reduceAdd]
  obtain ⟨e_, h1, h⟩ := bd h
  refine goR_of (s_l02Four_1_l h1) ?_
  simp +decide only [go_sem, reduceIte, Nat.reduceAdd]
  obtain rfl := Option.some.inj h
  first | rfl | (simp only [List.length_set, go_sem]; done)
section
theorem s_l02Read_k0 : mkR 2000 [] = rws eExt [] := rfl
attribute [local go_sem] s_l02Read_k0
theorem s_l02Read_k1 : mkR 8015 [] = rws eExt [] := rfl
attribute [local go_sem] s_l02Read_k1
theorem s_l02Read_k2 : mkR 10000 [] = rws eExt [] := rfl
attribute [local go_sem] s_l02Read_k2
noncomputable def s_l02Read_1_s (t2 : List UInt8) : (List Ext) × Int → Option (((List Ext) × Int) ⊕ (((List Ext) × Int × Bool)))
  | (l, i) =>
    br (decide (i < ((t2.length : Nat) : Int))) (
      (subL t2 i (IntKind.wrap .i64 (i + (4 : Int)))).bind fun y =>
      (s_l02Four y).bind fun r_ =>
      (subL t2 (IntKind.wrap .i64 (i + (4 : Int))) (IntKind.wrap .i64 (i + (8 : Int)))).bind fun y2 =>
      (s_l02Four y2).bind fun r_2 =>
      br (fits ((l ++ ([(Ext.mk r_ r_2)] : List Ext)).length) 16) (
        some (.inl ((l ++ ([(Ext.mk r_ r_2)] : List Ext)), (IntKind.wrap .i64 (i + (8 : Int)))))) (
        none)) (
      some (.inr (l, i, decide (i < ((t2.length : Nat) : Int)))))
theorem s_l02Read_1_l {t2 : List UInt8} {l : List Ext} {i : Int} {e : ((List Ext) × Int × Bool)} (h : Loop (s_l02Read_1_s t2) (l, i) = some e) : LoopX tab ow (.close [8006, 8013, 8015, 8016]) b_s_l02Read_5 ⟨[(0, S t2), (4, .sl 2000 0 l.length), (5, I i)], [(2000, ⟨2, false, rws eExt l⟩)]⟩ = some ((.exit 0, ⟨[(0, S t2), (4, .sl 2000 0 e.1.length), (5, I e.2.1), (15, B e.2.2)], [(2000, ⟨2, false, rws eExt e.1⟩)]⟩)) := by
  refine loop_runG (S := (List Ext) × Int) (eS := fun s => ⟨[(0, S t2), (4, .sl 2000 0 s.1.length), (5, I s.2)], [(2000, ⟨2, false, rws eExt s.1⟩)]⟩) (eE := fun e => (.exit 0, ⟨[(0, S t2), (4, .sl 2000 0 e.1.length), (5, I e.2.1), (15, B e.2.2)], [(2000, ⟨2, false, rws eExt e.1⟩)]⟩)) (fun e => ?_) (fun s o h => ?_) h
  · simp [alt]
  · obtain ⟨l, i⟩ := s
    simp only [s_l02Read_1_s] at h
    show Rn tab ow _ _ ⟨[(0, S t2), (4, .sl 2000 0 l.length), (5, I i)], [(2000, ⟨2, false, rws eExt l⟩)]⟩ = _
    simp +decide only [b_s_l02Read_5, go_sem, reduceIte, Nat.reduceAdd]
    rcases brc h with ⟨hb, h⟩ | ⟨hb, h⟩
    · refine br_t hb ?_
      obtain ⟨y, h1, h⟩ := bd h
      refine bind_some h1 ?_
      obtain ⟨r_, h1, h⟩ := bd h
      refine call_aftD (s_l02Four_c h1) ?_
      simp +decide only [go_sem, reduceIte, Nat.reduceAdd]
      obtain ⟨y2, h1, h⟩ := bd h
      refine bind_some h1 ?_
      obtain ⟨r_2, h1, h⟩ := bd h
      refine call_aftD (s_l02Four_c h1) ?_
      simp +decide only [go_sem, reduceIte, Nat.reduceAdd]
      obtain ⟨hb, h⟩ := brg h
      refine br_t hb ?_
      obtain rfl := Option.some.inj h
      first | rfl | (simp only [List.length_set, go_sem]; done)
    · refine br_f hb ?_
      obtain rfl := Option.some.inj h
      first | rfl | (simp only [List.length_set, go_sem]; done)
noncomputable def s_l02Read (t : (List UInt8)) : Option ((List Ext) × Bool) :=
  br ((((t.length : Nat) : Int).tmod (8 : Int)) != (0 : Int)) (
    some (([] : List Ext), false)) (
    (Loop (s_l02Read_1_s t) (([] : List Ext), (0 : Int))).bind fun e_ =>
    (s_l02List e_.1).bind fun r_3 =>
    br (!r_3) (
      some (([] : List Ext), false)) (
      some (e_.1, true)))
theorem s_l02Read_c {t : (List UInt8)} {r : (List Ext) × Bool} (h : s_l02Read t = some r) : Call tab ow 126 [S t] [] = some (.tup [sl eExt r.1, B r.2], []) := by
  rw [run_s_l02Read]
  unfold s_l02Read at h
  simp +decide only [b_s_l02Read, go_sem, reduceIte, Nat.reduceAdd]
  rcases brc h with ⟨hb, h⟩ | ⟨hb, h⟩
  · refine br_t hb ?_
    obtain rfl := Option.some.inj h
    first | rfl | (simp only [List.length_set, go_sem]; done)
  · refine br_f hb ?_
    obtain ⟨e_, h1, h⟩ := bd h
    refine goR_of (s_l02Read_1_l h1) ?_
    simp +decide only [go_sem, reduceIte, Nat.reduceAdd]
    obtain ⟨r_3, h1, h⟩ := bd h
    refine call_aft (s_l02List_c h1) ?_
    simp +decide only [go_sem, reduceIte, Nat.reduceAdd]
    rcases brc h with ⟨hb, h⟩ | ⟨hb, h⟩
    · refine br_t hb ?_
      obtain rfl := Option.some.inj h
      first | rfl | (simp only [List.length_set, go_sem]; done)
    · refine br_f hb ?_
      obtain rfl := Option.some.inj h
      first | rfl | (simp only [List.length_set, go_sem]; done)
end
section
theorem s_ReadExts_k0 : mkR 3000 [] = rws eExt [] := rfl
attribute [local go_sem] s_ReadExts_k0
theorem s_ReadExts_k1 : mkR 6000 [] = rws eExt [] := rfl
attribute [local go_sem] s_ReadExts_k1
theorem s_ReadExts_k2 : mkR 8000 [] = rws eExt [] := rfl
attribute [local go_sem] s_ReadExts_k2
noncomputable def s_ReadExts (b : (List UInt8)) : Option ((List Ext) × Int) :=
  br (decide (((b.length : Nat) : Int) > (65536 : Int))) (
    some (([] : List Ext), (2 : Int))) (
    (s_l02Read b).bind fun r_ =>
    br (!r_.2) (
      some (([] : List Ext), (3 : Int))) (
      br (decide (((r_.1.length : Nat) : Int) > (4096 : Int))) (
        some (([] : List Ext), (6 : Int))) (
        some (r_.1, (0 : Int)))))
theorem s_ReadExts_c {b : (List UInt8)} {r : (List Ext) × Int} (h : s_ReadExts b = some r) : Call tab ow 34 [sl eU8 b] [] = some (.tup [sl eExt r.1, I r.2], []) := by
  rw [run_s_ReadExts]
  unfold s_ReadExts at h
  simp +decide only [b_s_ReadExts, go_sem, reduceIte, Nat.reduceAdd]
  rcases brc h with ⟨hb, h⟩ | ⟨hb, h⟩
  · refine br_t hb ?_
    obtain rfl := Option.some.inj h
    first | rfl | (simp only [List.length_set, go_sem]; done)
  · refine br_f hb ?_
    obtain ⟨r_, h1, h⟩ := bd h
    refine call_aft (s_l02Read_c h1) ?_
    simp +decide only [go_sem, reduceIte, Nat.reduceAdd]
    rcases brc h with ⟨hb, h⟩ | ⟨hb, h⟩
    · refine br_t hb ?_
      obtain rfl := Option.some.inj h
      first | rfl | (simp only [List.length_set, go_sem]; done)
    · refine br_f hb ?_
      rcases brc h with ⟨hb, h⟩ | ⟨hb, h⟩
      · refine br_t hb ?_
        obtain rfl := Option.some.inj h
        first | rfl | (simp only [List.length_set, go_sem]; done)
      · refine br_f hb ?_
        obtain rfl := Option.some.inj h
        first | rfl | (simp only [List.length_set, go_sem]; done)
end
noncomputable def w_FnExtBytes_1_s (t : List UInt8) (t2 : Int) (t3 : List Ext) (t4 : List Ext) (t5 : Int) (c : Int) (c2 : Int) (c3 : Int) (c4 : Int) : Int × Int × Int → Option ((Int × Int × Int) ⊕ ((Int × Int × Int × Int × Int × Int) ⊕ (Int × Bool × Int × Int)))
  | (t6, c5, c6) =>
    br (decide (t6 < t2)) (
      (atL t3 t6).bind fun x =>
      (atL t4 t6).bind fun x2 =>
      (i_ExtMul x x2).bind fun r_10 =>
      (i_ExtAdd (Ext.mk c5 c6) r_10.1).bind fun r_11 =>
      br (r_10.2 != (0 : Int)) (
        some (.inr (.inl (c5, c6, r_10.1.A, r_10.1.B, r_11.1.A, r_11.1.B)))) (
        br (r_11.2 != (0 : Int)) (
          some (.inr (.inl (c5, c6, r_10.1.A, r_10.1.B, r_11.1.A, r_11.1.B)))) (
          some (.inl ((IntKind.wrap .i64 (t6 + (1 : Int))), r_11.1.A, r_11.1.B))))) (
      some (.inr (.inr (t6, decide (t6 < t2), c5, c6))))
theorem w_FnExtBytes_1_l {t : List UInt8} {t2 : Int} {t3 : List Ext} {t4 : List Ext} {t5 : Int} {c : Int} {c2 : Int} {c3 : Int} {c4 : Int} {t6 : Int} {c5 : Int} {c6 : Int} {e : (Int × Int × Int × Int × Int × Int) ⊕ (Int × Bool × Int × Int)} (h : Loop (w_FnExtBytes_1_s t t2 t3 t4 t5 c c2 c3 c4) (t6, c5, c6) = some e) : LoopX tab ow (.close [18008, 18012, 19002, 19006]) b_w_FnExtBytes_15 ⟨[(1, sl eU8 t), (5, I t2), (6, sl eExt t3), (13, sl eExt t4), (14, .ptr 12006 0 0 1), (15, I t5), (16, .ptr 13006 0 0 1), (18, .ptr 14001 0 0 1), (19, I t6)], [(12006, ⟨2, true, [[I c, I c2]]⟩), (13006, ⟨2, true, [[I c3, I c4]]⟩), (14001, ⟨2, true, [[I c5, I c6]]⟩)]⟩ = some ((alt (fun e => ((.ret, ⟨[(4, B false)], [(12006, ⟨2, true, [[I c, I c2]]⟩), (13006, ⟨2, true, [[I c3, I c4]]⟩), (14001, ⟨2, true, [[I e.1, I e.2.1]]⟩), (18012, ⟨2, true, [[I e.2.2.1, I e.2.2.2.1]]⟩), (19006, ⟨2, true, [[I e.2.2.2.2.1, I e.2.2.2.2.2]]⟩)]⟩) : AExit × St)) (fun e => (.exit 0, ⟨[(1, sl eU8 t), (5, I t2), (6, sl eExt t3), (13, sl eExt t4), (14, .ptr 12006 0 0 1), (15, I t5), (16, .ptr 13006 0 0 1), (18, .ptr 14001 0 0 1), (19, I e.1), (102, B e.2.1)], [(12006, ⟨2, true, [[I c, I c2]]⟩), (13006, ⟨2, true, [[I c3, I c4]]⟩), (14001, ⟨2, true, [[I e.2.2.1, I e.2.2.2]]⟩)]⟩))) e) := by
  refine loop_runG (S := Int × Int × Int) (eS := fun s => ⟨[(1, sl eU8 t), (5, I t2), (6, sl eExt t3), (13, sl eExt t4), (14, .ptr 12006 0 0 1), (15, I t5), (16, .ptr 13006 0 0 1), (18, .ptr 14001 0 0 1), (19, I s.1)], [(12006, ⟨2, true, [[I c, I c2]]⟩), (13006, ⟨2, true, [[I c3, I c4]]⟩), (14001, ⟨2, true, [[I s.2.1, I s.2.2]]⟩)]⟩) (eE := fun e => (alt (fun e => ((.ret, ⟨[(4, B false)], [(12006, ⟨2, true, [[I c, I c2]]⟩), (13006, ⟨2, true, [[I c3, I c4]]⟩), (14001, ⟨2, true, [[I e.1, I e.2.1]]⟩), (18012, ⟨2, true, [[I e.2.2.1, I e.2.2.2.1]]⟩), (19006, ⟨2, true, [[I e.2.2.2.2.1, I e.2.2.2.2.2]]⟩)]⟩) : AExit × St)) (fun e => (.exit 0, ⟨[(1, sl eU8 t), (5, I t2), (6, sl eExt t3), (13, sl eExt t4), (14, .ptr 12006 0 0 1), (15, I t5), (16, .ptr 13006 0 0 1), (18, .ptr 14001 0 0 1), (19, I e.1), (102, B e.2.1)], [(12006, ⟨2, true, [[I c, I c2]]⟩), (13006, ⟨2, true, [[I c3, I c4]]⟩), (14001, ⟨2, true, [[I e.2.2.1, I e.2.2.2]]⟩)]⟩))) e) (fun e => ?_) (fun s o h => ?_) h
  · rcases e with e | e <;> simp [alt]
  · obtain ⟨t6, c5, c6⟩ := s
    simp only [w_FnExtBytes_1_s] at h
    show Rn tab ow _ _ ⟨[(1, sl eU8 t), (5, I t2), (6, sl eExt t3), (13, sl eExt t4), (14, .ptr 12006 0 0 1), (15, I t5), (16, .ptr 13006 0 0 1), (18, .ptr 14001 0 0 1), (19, I t6)], [(12006, ⟨2, true, [[I c, I c2]]⟩), (13006, ⟨2, true, [[I c3, I c4]]⟩), (14001, ⟨2, true, [[I c5, I c6]]⟩)]⟩ = _
    simp +decide only [b_w_FnExtBytes_15, go_sem, reduceIte, Nat.reduceAdd]
    rcases brc h with ⟨hb, h⟩ | ⟨hb, h⟩
    · refine br_t hb ?_
      obtain ⟨x, h1, h⟩ := bd h
      refine bind_some h1 ?_
      obtain ⟨x2, h1, h⟩ := bd h
      refine bind_some h1 ?_
      obtain ⟨r_10, h1, h⟩ := bd h
      refine call_aftD (i_ExtMul_c h1) ?_
      simp +decide only [go_sem, reduceIte, Nat.reduceAdd]
      obtain ⟨r_11, h1, h⟩ := bd h
      refine call_aft (i_ExtAdd_c h1) ?_
      simp +decide only [go_sem, reduceIte, Nat.reduceAdd]
      rcases brc h with ⟨hb, h⟩ | ⟨hb, h⟩
      · refine br_t hb ?_
        obtain rfl := Option.some.inj h
        first | rfl | (simp only [List.length_set, go_sem]; done)
      · refine br_f hb ?_
        rcases brc h with ⟨hb, h⟩ | ⟨hb, h⟩
        · refine br_t hb ?_
          obtain rfl := Option.some.inj h
          first | rfl | (simp only [List.length_set, go_sem]; done)
        · refine br_f hb ?_
          obtain rfl := Option.some.inj h
          first | rfl | (simp only [List.length_set, go_sem]; done)
    · refine br_f hb ?_
      obtain rfl := Option.some.inj h
      first | rfl | (simp only [List.length_set, go_sem]; done)
noncomputable def w_FnExtBytes (ListtoArray : (List UInt8)) (a : (List UInt8)) : Option (Bool) :=
  br (decide (((ListtoArray.length : Nat) : Int) > (1048576 : Int))) (
    some true) (
    br (decide (((a.length : Nat) : Int) > (1048576 : Int))) (
      some true) (
      (w_at a (0 : Int) (6 : Int)).bind fun r_ =>
      (s_ExtsOf ListtoArray r_).bind fun r_2 =>
      (i_ExtBytes r_2).bind fun r_3 =>
      (s_ExtBytes r_2).bind fun r_4 =>
      (i_ReadExts r_3.1).bind fun r_5 =>
      br (r_3.2 != (0 : Int)) (
        some false) (
        br (r_3.1 != r_4.1) (
          some false) (
          br (((r_3.1.length : Nat) : Int) != (IntKind.wrap .i64 ((8 : Int) * r_))) (
            some false) (
            br (r_5.2 != (0 : Int)) (
              some false) (
              (w_sameExts r_5.1 r_2).bind fun r_6 =>
              br (!r_6) (
                some false) (
                (s_ExtsOf a r_).bind fun r_7 =>
                (i_ExtDot r_2 r_7).bind fun r_8 =>
                (s_ExtDot r_2 r_7).bind fun r_9 =>
                (Loop (w_FnExtBytes_1_s a r_ r_2 r_7 r_8.2 r_8.1.A r_8.1.B r_9.1.A r_9.1.B) ((0 : Int), (0 : Int), (0 : Int))).bind (alt (fun e_2 =>
                  some false) (fun e_3 =>
                  (i_ReadExts a).bind fun r_12 =>
                  (s_ReadExts a).bind fun r_13 =>
                  br (r_8.2 != (0 : Int)) (
                    some false) (
                    br (r_8.1.A == r_9.1.A) (
                      br (r_8.1.B == r_9.1.B) (
                        br (r_8.1.A == e_3.2.2.1) (
                          br (r_8.1.B == e_3.2.2.2) (
                            br (r_12.2 != r_13.2) (
                              some false) (
                              br (r_12.2 != (0 : Int)) (
                                some true) (
                                (i_ExtBytes r_12.1).bind fun r_14 =>
                                br (r_14.2 == (0 : Int)) (
                                  some (r_14.1 == a)) (
                                  some false)))) (
                            some false)) (
                          some false)) (
                        some false)) (
                      some false)))))))))))
theorem w_FnExtBytes_c {ListtoArray : (List UInt8)} {a : (List UInt8)} {r : Bool} (h : w_FnExtBytes ListtoArray a = some r) : Call tab ow 5 [sl eU8 ListtoArray, sl eU8 a] [] = some (B r, []) := by
  rw [run_w_FnExtBytes]
  unfold w_FnExtBytes at h
  simp +decide only [b_w_FnExtBytes, go_sem, reduceIte, Nat.reduceAdd]
  rcases brc h with ⟨hb, h⟩ | ⟨hb, h⟩
  · refine br_t hb ?_
    obtain rfl := Option.some.inj h
    first | rfl | (simp only [List.length_set, go_sem]; done)
  · refine br_f hb ?_
    rcases brc h with ⟨hb, h⟩ | ⟨hb, h⟩
    · refine br_t hb ?_
      obtain rfl := Option.some.inj h
      first | rfl | (simp only [List.length_set, go_sem]; done)
    · refine br_f hb ?_
      obtain ⟨r_, h1, h⟩ := bd h
      refine call_aft (w_at_c h1) ?_
      simp +decide only [go_sem, reduceIte, Nat.reduceAdd]
      obtain ⟨r_2, h1, h⟩ := bd h
      refine call_aft (s_ExtsOf_c h1) ?_
      simp +decide only [go_sem, reduceIte, Nat.reduceAdd]
      obtain ⟨r_3, h1, h⟩ := bd h
      refine call_aft (i_ExtBytes_c h1) ?_
      simp +decide only [go_sem, reduceIte, Nat.reduceAdd]
      obtain ⟨r_4, h1, h⟩ := bd h
      refine call_aft (s_ExtBytes_c h1) ?_
      simp +decide only [go_sem, reduceIte, Nat.reduceAdd]
      obtain ⟨r_5, h1, h⟩ := bd h
      refine call_aft (i_ReadExts_c h1) ?_
      simp +decide only [go_sem, reduceIte, Nat.reduceAdd]
      rcases brc h with ⟨hb, h⟩ | ⟨hb, h⟩
      · refine br_t hb ?_
        obtain rfl := Option.some.inj h
        first | rfl | (simp only [List.length_set, go_sem]; done)
      · refine br_f hb ?_
        rcases brc h with ⟨hb, h⟩ | ⟨hb, h⟩
        · refine br_t hb ?_
          obtain rfl := Option.some.inj h
          first | rfl | (simp only [List.length_set, go_sem]; done)
        · refine br_f hb ?_
          rcases brc h with ⟨hb, h⟩ | ⟨hb, h⟩
          · refine br_t hb ?_
            obtain rfl := Option.some.inj h
            first | rfl | (simp only [List.length_set, go_sem]; done)
          · refine br_f hb ?_
            rcases brc h with ⟨hb, h⟩ | ⟨hb, h⟩
            · refine br_t hb ?_
              obtain rfl := Option.some.inj h
              first | rfl | (simp only [List.length_set, go_sem]; done)
            · refine br_f hb ?_
              obtain ⟨r_6, h1, h⟩ := bd h
              refine call_aft (w_sameExts_c h1) ?_
              simp +decide only [go_sem, reduceIte, Nat.reduceAdd]
              rcases brc h with ⟨hb, h⟩ | ⟨hb, h⟩
              · refine br_t hb ?_
                obtain rfl := Option.some.inj h
                first | rfl | (simp only [List.length_set, go_sem]; done)
              · refine br_f hb ?_
                obtain ⟨r_7, h1, h⟩ := bd h
                refine call_aft (s_ExtsOf_c h1) ?_
                simp +decide only [go_sem, reduceIte, Nat.reduceAdd]
                obtain ⟨r_8, h1, h⟩ := bd h
                refine call_aft (i_ExtDot_c h1) ?_
                simp +decide only [go_sem, reduceIte, Nat.reduceAdd]
                obtain ⟨r_9, h1, h⟩ := bd h
                refine call_aft (s_ExtDot_c h1) ?_
                simp +decide only [go_sem, reduceIte, Nat.reduceAdd]
                obtain ⟨e_, h1, h⟩ := bd h
                refine goR_of (w_FnExtBytes_1_l h1) ?_
                rcases e_ with e_2 | e_3
                · simp +decide only [go_sem, reduceIte, Nat.reduceAdd]
                  obtain rfl := Option.some.inj h
                  first | rfl | (simp only [List.length_set, go_sem]; done)
                · simp +decide only [go_sem, reduceIte, Nat.reduceAdd]
                  obtain ⟨r_12, h1, h⟩ := bd h
                  refine call_aft (i_ReadExts_c h1) ?_
                  simp +decide only [go_sem, reduceIte, Nat.reduceAdd]
                  obtain ⟨r_13, h1, h⟩ := bd h
                  refine call_aft (s_ReadExts_c h1) ?_
                  simp +decide only [go_sem, reduceIte, Nat.reduceAdd]
                  rcases brc h with ⟨hb, h⟩ | ⟨hb, h⟩
                  · refine br_t hb ?_
                    obtain rfl := Option.some.inj h
                    first | rfl | (simp only [List.length_set, go_sem]; done)
                  · refine br_f hb ?_
                    rcases brc h with ⟨hb, h⟩ | ⟨hb, h⟩
                    · refine br_t hb ?_
                      rcases brc h with ⟨hb, h⟩ | ⟨hb, h⟩
                      · refine br_t hb ?_
                        rcases brc h with ⟨hb, h⟩ | ⟨hb, h⟩
                        · refine br_t hb ?_
                          rcases brc h with ⟨hb, h⟩ | ⟨hb, h⟩
                          · refine br_t hb ?_
                            rcases brc h with ⟨hb, h⟩ | ⟨hb, h⟩
                            · refine br_t hb ?_
                              obtain rfl := Option.some.inj h
                              first | rfl | (simp only [List.length_set, go_sem]; done)
                            · refine br_f hb ?_
                              rcases brc h with ⟨hb, h⟩ | ⟨hb, h⟩
                              · refine br_t hb ?_
                                obtain rfl := Option.some.inj h
                                first | rfl | (simp only [List.length_set, go_sem]; done)
                              · refine br_f hb ?_
                                obtain ⟨r_14, h1, h⟩ := bd h
                                refine call_aft (i_ExtBytes_c h1) ?_
                                simp +decide only [go_sem, reduceIte, Nat.reduceAdd]
                                rcases brc h with ⟨hb, h⟩ | ⟨hb, h⟩
                                · refine br_t hb ?_
                                  obtain rfl := Option.some.inj h
                                  first | rfl | (simp only [List.length_set, go_sem]; done)
                                · refine br_f hb ?_
                                  obtain rfl := Option.some.inj h
                                  first | rfl | (simp only [List.length_set, go_sem]; done)
                          · refine br_f hb ?_
                            obtain rfl := Option.some.inj h
                            first | rfl | (simp only [List.length_set, go_sem]; done)
                        · refine br_f hb ?_
                          obtain rfl := Option.some.inj h
                          first | rfl | (simp only [List.length_set, go_sem]; done)
                      · refine br_f hb ?_
                        obtain rfl := Option.some.inj h
                        first | rfl | (simp only [List.length_set, go_sem]; done)
                    · refine br_f hb ?_
                      obtain rfl := Option.some.inj h
                      first | rfl | (simp only [List.length_set, go_sem]; done)
end Go.AI.Fn
