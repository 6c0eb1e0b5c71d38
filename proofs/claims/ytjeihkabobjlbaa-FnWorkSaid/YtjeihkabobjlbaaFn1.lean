/- Walks through the program, with open values. -/
import Derived.Test.YtjeihkabobjlbaaFn0
set_option linter.unusedVariables false
set_option linter.unusedSimpArgs false
set_option maxRecDepth 100000
set_option maxHeartbeats 1000000
namespace Go.AI.Fn
section
theorem i_System_digestText_k0 : mkR 2000 [] = rws eU8 [] := rfl
attribute [local go_sem] i_System_digestText_k0
theorem i_System_digestText_k1 : mkR 2011 [] = rws eU8 [] := rfl
attribute [local go_sem] i_System_digestText_k1
theorem i_System_digestText_k2 : mkR 10007 [] = rws eU8 [] := rfl
attribute [local go_sem] i_System_digestText_k2
noncomputable def i_System_digestText_1_s (l2 : List UInt8) (t : List Entry) (t2 : List Entry) (t3 : List Entry) (t4 : Int) (t5 : List Entry) (t6 : Int) (c : Int) (c2 : Int) (c3 : Int) (c4 : List Entry) (c5 : List Entry) (c6 : List Entry) : (List UInt8) × Int → Option (((List UInt8) × Int) ⊕ (((List UInt8) × Int × Bool)))
  | (l, t7) =>
    br (decide (t7 < t6)) (
      (atL t5 t7).bind fun x =>
      br (fits ((l ++ ([(UInt8.ofInt x.Row), (UInt8.ofInt x.Col)] : List UInt8)).length) 1) (
        (i_four x.Value (l ++ ([(UInt8.ofInt x.Row), (UInt8.ofInt x.Col)] : List UInt8))).bind fun r_3 =>
        some (.inl (r_3, (IntKind.wrap .i64 (t7 + (1 : Int)))))) (
        none)) (
      some (.inr (l, t7, decide (t7 < t6))))
theorem i_System_digestText_1_l {l2 : List UInt8} {t : List Entry} {t2 : List Entry} {t3 : List Entry} {t4 : Int} {t5 : List Entry} {t6 : Int} {c : Int} {c2 : Int} {c3 : Int} {c4 : List Entry} {c5 : List Entry} {c6 : List Entry} {l : List UInt8} {t7 : Int} {e : ((List UInt8) × Int × Bool)} (h : Loop (i_System_digestText_1_s l2 t t2 t3 t4 t5 t6 c c2 c3 c4 c5 c6) (l, t7) = some e) : LoopX tab ow (.close [9002, 10007, 10008, 10011]) b_i_System_digestText_7 ⟨[(3, .sl 2000 0 l.length), (22, .agg [sl eEntry t, sl eEntry t2, sl eEntry t3]), (23, I t4), (30, sl eEntry t5), (31, I t6), (32, I t7)], [(1000, ⟨6, true, [[I c, I c2, I c3, sl eEntry c4, sl eEntry c5, sl eEntry c6]]⟩), (2000, ⟨1, false, rws eU8 l⟩), (2011, ⟨1, false, rws eU8 l2⟩)]⟩ = some ((.exit 2, ⟨[(3, .sl 2000 0 e.1.length), (22, .agg [sl eEntry t, sl eEntry t2, sl eEntry t3]), (23, I t4), (30, sl eEntry t5), (31, I t6), (32, I e.2.1), (33, B e.2.2)], [(1000, ⟨6, true, [[I c, I c2, I c3, sl eEntry c4, sl eEntry c5, sl eEntry c6]]⟩), (2000, ⟨1, false, rws eU8 e.1⟩), (2011, ⟨1, false, rws eU8 l2⟩)]⟩)) := by
  refine loop_runG (S := (List UInt8) × Int) (eS := fun s => ⟨[(3, .sl 2000 0 s.1.length), (22, .agg [sl eEntry t, sl eEntry t2, sl eEntry t3]), (23, I t4), (30, sl eEntry t5), (31, I t6), (32, I s.2)], [(1000, ⟨6, true, [[I c, I c2, I c3, sl eEntry c4, sl eEntry c5, sl eEntry c6]]⟩), (2000, ⟨1, false, rws eU8 s.1⟩), (2011, ⟨1, false, rws eU8 l2⟩)]⟩) (eE := fun e => (.exit 2, ⟨[(3, .sl 2000 0 e.1.length), (22, .agg [sl eEntry t, sl eEntry t2, sl eEntry t3]), (23, I t4), (30, sl eEntry t5), (31, I t6), (32, I e.2.1), (33, B e.2.2)], [(1000, ⟨6, true, [[I c, I c2, I c3, sl eEntry c4, sl eEntry c5, sl eEntry c6]]⟩), (2000, ⟨1, false, rws eU8 e.1⟩), (2011, ⟨1, false, rws eU8 l2⟩)]⟩)) (fun e => ?_) (fun s o h => ?_) h
  · simp [alt]
  · obtain ⟨l, t7⟩ := s
    simp only [i_System_digestText_1_s] at h
    show Rn tab ow _ _ ⟨[(3, .sl 2000 0 l.length), (22, .agg [sl eEntry t, sl eEntry t2, sl eEntry t3]), (23, I t4), (30, sl eEntry t5), (31, I t6), (32, I t7)], [(1000, ⟨6, true, [[I c, I c2, I c3, sl eEntry c4, sl eEntry c5, sl eEntry c6]]⟩), (2000, ⟨1, false, rws eU8 l⟩), (2011, ⟨1, false, rws eU8 l2⟩)]⟩ = _
    simp +decide only [b_i_System_digestText_7, go_sem, reduceIte, Nat.reduceAdd, Int.reduceAdd, Int.reduceMul, Int.reduceSub]
    rcases brc h with ⟨hb, h⟩ | ⟨hb, h⟩
    · refine br_t hb ?_
      obtain ⟨x, h1, h⟩ := bd h
      refine bind_some h1 ?_
      obtain ⟨hb, h⟩ := brg h
      refine br_t hb ?_
      obtain ⟨r_3, h1, h⟩ := bd h
      refine call_aftD (i_four_c h1) ?_
      simp +decide only [go_sem, reduceIte, Nat.reduceAdd, Int.reduceAdd, Int.reduceMul, Int.reduceSub]
      obtain rfl := Option.some.inj h
      first | rfl | (simp only [List.length_set, go_sem]; done)
    · refine br_f hb ?_
      obtain rfl := Option.some.inj h
      first | rfl | (simp only [List.length_set, go_sem]; done)
noncomputable def i_System_digestText_2_s (l4 : List UInt8) (t8 : List Entry) (t9 : List Entry) (t10 : List Entry) (t11 : Int) (t12 : List Entry) (t13 : Int) (c7 : Int) (c8 : Int) (c9 : Int) (c10 : List Entry) (c11 : List Entry) (c12 : List Entry) : (List UInt8) × Int → Option (((List UInt8) × Int) ⊕ (((List UInt8) × Int × Bool)))
  | (l3, t14) =>
    br (decide (t14 < t13)) (
      (atL t12 t14).bind fun x2 =>
      br (fits ((l3 ++ ([(UInt8.ofInt x2.Row), (UInt8.ofInt x2.Col)] : List UInt8)).length) 1) (
        (i_four x2.Value (l3 ++ ([(UInt8.ofInt x2.Row), (UInt8.ofInt x2.Col)] : List UInt8))).bind fun r_5 =>
        some (.inl (r_5, (IntKind.wrap .i64 (t14 + (1 : Int)))))) (
        none)) (
      some (.inr (l3, t14, decide (t14 < t13))))
theorem i_System_digestText_2_l {l4 : List UInt8} {t8 : List Entry} {t9 : List Entry} {t10 : List Entry} {t11 : Int} {t12 : List Entry} {t13 : Int} {c7 : Int} {c8 : Int} {c9 : Int} {c10 : List Entry} {c11 : List Entry} {c12 : List Entry} {l3 : List UInt8} {t14 : Int} {e : ((List UInt8) × Int × Bool)} (h : Loop (i_System_digestText_2_s l4 t8 t9 t10 t11 t12 t13 c7 c8 c9 c10 c11 c12) (l3, t14) = some e) : LoopX tab ow (.close [9002, 10007, 10008, 10011]) b_i_System_digestText_7 ⟨[(3, .sl 2000 0 l3.length), (22, .agg [sl eEntry t8, sl eEntry t9, sl eEntry t10]), (23, I t11), (30, sl eEntry t12), (31, I t13), (32, I t14)], [(1000, ⟨6, true, [[I c7, I c8, I c9, sl eEntry c10, sl eEntry c11, sl eEntry c12]]⟩), (2000, ⟨1, false, rws eU8 l3⟩), (2011, ⟨1, false, rws eU8 l4⟩)]⟩ = some ((.exit 2, ⟨[(3, .sl 2000 0 e.1.length), (22, .agg [sl eEntry t8, sl eEntry t9, sl eEntry t10]), (23, I t11), (30, sl eEntry t12), (31, I t13), (32, I e.2.1), (33, B e.2.2)], [(1000, ⟨6, true, [[I c7, I c8, I c9, sl eEntry c10, sl eEntry c11, sl eEntry c12]]⟩), (2000, ⟨1, false, rws eU8 e.1⟩), (2011, ⟨1, false, rws eU8 l4⟩)]⟩)) := by
  refine loop_runG (S := (List UInt8) × Int) (eS := fun s => ⟨[(3, .sl 2000 0 s.1.length), (22, .agg [sl eEntry t8, sl eEntry t9, sl eEntry t10]), (23, I t11), (30, sl eEntry t12), (31, I t13), (32, I s.2)], [(1000, ⟨6, true, [[I c7, I c8, I c9, sl eEntry c10, sl eEntry c11, sl eEntry c12]]⟩), (2000, ⟨1, false, rws eU8 s.1⟩), (2011, ⟨1, false, rws eU8 l4⟩)]⟩) (eE := fun e => (.exit 2, ⟨[(3, .sl 2000 0 e.1.length), (22, .agg [sl eEntry t8, sl eEntry t9, sl eEntry t10]), (23, I t11), (30, sl eEntry t12), (31, I t13), (32, I e.2.1), (33, B e.2.2)], [(1000, ⟨6, true, [[I c7, I c8, I c9, sl eEntry c10, sl eEntry c11, sl eEntry c12]]⟩), (2000, ⟨1, false, rws eU8 e.1⟩), (2011, ⟨1, false, rws eU8 l4⟩)]⟩)) (fun e => ?_) (fun s o h => ?_) h
  · simp [alt]
  · obtain ⟨l3, t14⟩ := s
    simp only [i_System_digestText_2_s] at h
    show Rn tab ow _ _ ⟨[(3, .sl 2000 0 l3.length), (22, .agg [sl eEntry t8, sl eEntry t9, sl eEntry t10]), (23, I t11), (30, sl eEntry t12), (31, I t13), (32, I t14)], [(1000, ⟨6, true, [[I c7, I c8, I c9, sl eEntry c10, sl eEntry c11, sl eEntry c12]]⟩), (2000, ⟨1, false, rws eU8 l3⟩), (2011, ⟨1, false, rws eU8 l4⟩)]⟩ = _
    simp +decide only [b_i_System_digestText_7, go_sem, reduceIte, Nat.reduceAdd, Int.reduceAdd, Int.reduceMul, Int.reduceSub]
    rcases brc h with ⟨hb, h⟩ | ⟨hb, h⟩
    · refine br_t hb ?_
      obtain ⟨x2, h1, h⟩ := bd h
      refine bind_some h1 ?_
      obtain ⟨hb, h⟩ := brg h
      refine br_t hb ?_
      obtain ⟨r_5, h1, h⟩ := bd h
      refine call_aftD (i_four_c h1) ?_
      simp +decide only [go_sem, reduceIte, Nat.reduceAdd, Int.reduceAdd, Int.reduceMul, Int.reduceSub]
      obtain rfl := Option.some.inj h
      first | rfl | (simp only [List.length_set, go_sem]; done)
    · refine br_f hb ?_
      obtain rfl := Option.some.inj h
      first | rfl | (simp only [List.length_set, go_sem]; done)
noncomputable def i_System_digestText_3_s (l6 : List UInt8) (t15 : List Entry) (t16 : List Entry) (t17 : List Entry) (t18 : Int) (t19 : List Entry) (t20 : Int) (c13 : Int) (c14 : Int) (c15 : Int) (c16 : List Entry) (c17 : List Entry) (c18 : List Entry) : (List UInt8) × Int → Option (((List UInt8) × Int) ⊕ (((List UInt8) × Int × Bool)))
  | (l5, t21) =>
    br (decide (t21 < t20)) (
      (atL t19 t21).bind fun x3 =>
      br (fits ((l5 ++ ([(UInt8.ofInt x3.Row), (UInt8.ofInt x3.Col)] : List UInt8)).length) 1) (
        (i_four x3.Value (l5 ++ ([(UInt8.ofInt x3.Row), (UInt8.ofInt x3.Col)] : List UInt8))).bind fun r_7 =>
        some (.inl (r_7, (IntKind.wrap .i64 (t21 + (1 : Int)))))) (
        none)) (
      some (.inr (l5, t21, decide (t21 < t20))))
theorem i_System_digestText_3_l {l6 : List UInt8} {t15 : List Entry} {t16 : List Entry} {t17 : List Entry} {t18 : Int} {t19 : List Entry} {t20 : Int} {c13 : Int} {c14 : Int} {c15 : Int} {c16 : List Entry} {c17 : List Entry} {c18 : List Entry} {l5 : List UInt8} {t21 : Int} {e : ((List UInt8) × Int × Bool)} (h : Loop (i_System_digestText_3_s l6 t15 t16 t17 t18 t19 t20 c13 c14 c15 c16 c17 c18) (l5, t21) = some e) : LoopX tab ow (.close [9002, 10007, 10008, 10011]) b_i_System_digestText_7 ⟨[(3, .sl 2000 0 l5.length), (22, .agg [sl eEntry t15, sl eEntry t16, sl eEntry t17]), (23, I t18), (30, sl eEntry t19), (31, I t20), (32, I t21)], [(1000, ⟨6, true, [[I c13, I c14, I c15, sl eEntry c16, sl eEntry c17, sl eEntry c18]]⟩), (2000, ⟨1, false, rws eU8 l5⟩), (2011, ⟨1, false, rws eU8 l6⟩)]⟩ = some ((.exit 2, ⟨[(3, .sl 2000 0 e.1.length), (22, .agg [sl eEntry t15, sl eEntry t16, sl eEntry t17]), (23, I t18), (30, sl eEntry t19), (31, I t20), (32, I e.2.1), (33, B e.2.2)], [(1000, ⟨6, true, [[I c13, I c14, I c15, sl eEntry c16, sl eEntry c17, sl eEntry c18]]⟩), (2000, ⟨1, false, rws eU8 e.1⟩), (2011, ⟨1, false, rws eU8 l6⟩)]⟩)) := by
  refine loop_runG (S := (List UInt8) × Int) (eS := fun s => ⟨[(3, .sl 2000 0 s.1.length), (22, .agg [sl eEntry t15, sl eEntry t16, sl eEntry t17]), (23, I t18), (30, sl eEntry t19), (31, I t20), (32, I s.2)], [(1000, ⟨6, true, [[I c13, I c14, I c15, sl eEntry c16, sl eEntry c17, sl eEntry c18]]⟩), (2000, ⟨1, false, rws eU8 s.1⟩), (2011, ⟨1, false, rws eU8 l6⟩)]⟩) (eE := fun e => (.exit 2, ⟨[(3, .sl 2000 0 e.1.length), (22, .agg [sl eEntry t15, sl eEntry t16, sl eEntry t17]), (23, I t18), (30, sl eEntry t19), (31, I t20), (32, I e.2.1), (33, B e.2.2)], [(1000, ⟨6, true, [[I c13, I c14, I c15, sl eEntry c16, sl eEntry c17, sl eEntry c18]]⟩), (2000, ⟨1, false, rws eU8 e.1⟩), (2011, ⟨1, false, rws eU8 l6⟩)]⟩)) (fun e => ?_) (fun s o h => ?_) h
  · simp [alt]
  · obtain ⟨l5, t21⟩ := s
    simp only [i_System_digestText_3_s] at h
    show Rn tab ow _ _ ⟨[(3, .sl 2000 0 l5.length), (22, .agg [sl eEntry t15, sl eEntry t16, sl eEntry t17]), (23, I t18), (30, sl eEntry t19), (31, I t20), (32, I t21)], [(1000, ⟨6, true, [[I c13, I c14, I c15, sl eEntry c16, sl eEntry c17, sl eEntry c18]]⟩), (2000, ⟨1, false, rws eU8 l5⟩), (2011, ⟨1, false, rws eU8 l6⟩)]⟩ = _
    simp +decide only [b_i_System_digestText_7, go_sem, reduceIte, Nat.reduceAdd, Int.reduceAdd, Int.reduceMul, Int.reduceSub]
    rcases brc h with ⟨hb, h⟩ | ⟨hb, h⟩
    · refine br_t hb ?_
      obtain ⟨x3, h1, h⟩ := bd h
      refine bind_some h1 ?_
      obtain ⟨hb, h⟩ := brg h
      refine br_t hb ?_
      obtain ⟨r_7, h1, h⟩ := bd h
      refine call_aftD (i_four_c h1) ?_
      simp +decide only [go_sem, reduceIte, Nat.reduceAdd, Int.reduceAdd, Int.reduceMul, Int.reduceSub]
      obtain rfl := Option.some.inj h
      first | rfl | (simp only [List.length_set, go_sem]; done)
    · refine br_f hb ?_
      obtain rfl := Option.some.inj h
      first | rfl | (simp only [List.length_set, go_sem]; done)
noncomputable def i_System_digestText (s : System) : Option ((List UInt8)) :=
  br (fits ((([(115 : UInt8), (121 : UInt8), (115 : UInt8), (116 : UInt8), (101 : UInt8), (109 : UInt8)] : List UInt8) ++ ([(UInt8.ofInt s.Rows), (UInt8.ofInt s.Cols), (UInt8.ofInt s.Publics)] : List UInt8)).length) 1) (
    (i_System_matrices s).bind fun r_ =>
    (i_four ((r_.1.length : Nat) : Int) (([(115 : UInt8), (121 : UInt8), (115 : UInt8), (116 : UInt8), (101 : UInt8), (109 : UInt8)] : List UInt8) ++ ([(UInt8.ofInt s.Rows), (UInt8.ofInt s.Cols), (UInt8.ofInt s.Publics)] : List UInt8))).bind fun r_2 =>
    (Loop (i_System_digestText_1_s ([(UInt8.ofInt s.Rows), (UInt8.ofInt s.Cols), (UInt8.ofInt s.Publics)] : List UInt8) r_.1 r_.2.1 r_.2.2 (0 : Int) r_.1 ((r_.1.length : Nat) : Int) s.Rows s.Cols s.Publics s.A s.B s.C) (r_2, (0 : Int))).bind fun e_ =>
    (i_four ((r_.2.1.length : Nat) : Int) e_.1).bind fun r_4 =>
    (Loop (i_System_digestText_2_s ([(UInt8.ofInt s.Rows), (UInt8.ofInt s.Cols), (UInt8.ofInt s.Publics)] : List UInt8) r_.1 r_.2.1 r_.2.2 (1 : Int) r_.2.1 ((r_.2.1.length : Nat) : Int) s.Rows s.Cols s.Publics s.A s.B s.C) (r_4, (0 : Int))).bind fun e_2 =>
    (i_four ((r_.2.2.length : Nat) : Int) e_2.1).bind fun r_6 =>
    (Loop (i_System_digestText_3_s ([(UInt8.ofInt s.Rows), (UInt8.ofInt s.Cols), (UInt8.ofInt s.Publics)] : List UInt8) r_.1 r_.2.1 r_.2.2 (2 : Int) r_.2.2 ((r_.2.2.length : Nat) : Int) s.Rows s.Cols s.Publics s.A s.B s.C) (r_6, (0 : Int))).bind fun e_3 =>
    some e_3.1) (
    none)
theorem i_System_digestText_c {s : System} {r : (List UInt8)} (h : i_System_digestText s = some r) : Call tab ow 55 [.agg [I s.Rows, I s.Cols, I s.Publics, sl eEntry s.A, sl eEntry s.B, sl eEntry s.C]] [] = some (sl eU8 r, []) := by
  rw [run_i_System_digestText]
  unfold i_System_digestText at h
  simp +decide only [b_i_System_digestText, go_sem, reduceIte, Nat.reduceAdd, Int.reduceAdd, Int.reduceMul, Int.reduceSub]
  obtain ⟨hb, h⟩ := brg h
  refine br_t hb ?_
  obtain ⟨r_, h1, h⟩ := bd h
  refine call_aft (i_System_matrices_c h1) ?_
  simp +decide only [go_sem, reduceIte, Nat.reduceAdd, Int.reduceAdd, Int.reduceMul, Int.reduceSub]
  refine unroll_of ?_
  simp +decide only [b_i_System_digestText_3, go_sem, reduceIte, Nat.reduceAdd, Int.reduceAdd, Int.reduceMul, Int.reduceSub]
  obtain ⟨r_2, h1, h⟩ := bd h
  refine call_aft (i_four_c h1) ?_
  simp +decide only [go_sem, reduceIte, Nat.reduceAdd, Int.reduceAdd, Int.reduceMul, Int.reduceSub]
  obtain ⟨e_, h1, h⟩ := bd h
  refine goR_of (i_System_digestText_1_l h1) ?_
  simp +decide only [go_sem, reduceIte, Nat.reduceAdd, Int.reduceAdd, Int.reduceMul, Int.reduceSub]
  refine unroll_of ?_
  simp +decide only [b_i_System_digestText_3, go_sem, reduceIte, Nat.reduceAdd, Int.reduceAdd, Int.reduceMul, Int.reduceSub]
  obtain ⟨r_4, h1, h⟩ := bd h
  refine call_aft (i_four_c h1) ?_
  simp +decide only [go_sem, reduceIte, Nat.reduceAdd, Int.reduceAdd, Int.reduceMul, Int.reduceSub]
  obtain ⟨e_2, h1, h⟩ := bd h
  refine goR_of (i_System_digestText_2_l h1) ?_
  simp +decide only [go_sem, reduceIte, Nat.reduceAdd, Int.reduceAdd, Int.reduceMul, Int.reduceSub]
  refine unroll_of ?_
  simp +decide only [b_i_System_digestText_3, go_sem, reduceIte, Nat.reduceAdd, Int.reduceAdd, Int.reduceMul, Int.reduceSub]
  obtain ⟨r_6, h1, h⟩ := bd h
  refine call_aft (i_four_c h1) ?_
  simp +decide only [go_sem, reduceIte, Nat.reduceAdd, Int.reduceAdd, Int.reduceMul, Int.reduceSub]
  obtain ⟨e_3, h1, h⟩ := bd h
  refine goR_of (i_System_digestText_3_l h1) ?_
  simp +decide only [go_sem, reduceIte, Nat.reduceAdd, Int.reduceAdd, Int.reduceMul, Int.reduceSub]
  refine unroll_of ?_
  simp +decide only [b_i_System_digestText_3, go_sem, reduceIte, Nat.reduceAdd, Int.reduceAdd, Int.reduceMul, Int.reduceSub]
  obtain rfl := Option.some.inj h
  first | rfl | (simp only [List.length_set, go_sem]; done)
end
noncomputable def i_callsFor (n : Int) : Option (Int) :=
  some (IntKind.wrap .i64 ((IntKind.wrap .i64 (n.tdiv (136 : Int))) + (1 : Int)))
theorem i_callsFor_c {n : Int} {r : Int} (h : i_callsFor n = some r) : Call tab ow 53 [I n] [] = some (I r, []) := by
  rw [run_i_callsFor]
  unfold i_callsFor at h
  simp +decide only [b_i_callsFor, go_sem, reduceIte, Nat.reduceAdd]
  obtain rfl := Option.some.inj h
  first | rfl | (simp only [List.length_set, go_sem]; done)
noncomputable def i_workOf_1 (n : Int) : Option (Int) :=
  (i_callsFor (IntKind.wrap .i64 ((42 : Int) + n))).bind fun r_ =>
  some r_
theorem i_workOf_1_c {n : Int} {r : Int} (h : i_workOf_1 n = some r) : Call tab ow 52 [I n] [] = some (I r, []) := by
  rw [run_i_workOf_1]
  unfold i_workOf_1 at h
  simp +decide only [b_i_workOf_1, go_sem, reduceIte, Nat.reduceAdd]
  obtain ⟨r_, h1, h⟩ := bd h
  refine call_aft (i_callsFor_c h1) ?_
  simp +decide only [go_sem, reduceIte, Nat.reduceAdd]
  obtain rfl := Option.some.inj h
  first | rfl | (simp only [List.length_set, go_sem]; done)
noncomputable def i_workOf_2 (n : Int) : Option (Int) :=
  (i_callsFor (40 : Int)).bind fun r_ =>
  some (IntKind.wrap .i64 (n * r_))
theorem i_workOf_2_c {n : Int} {r : Int} (h : i_workOf_2 n = some r) : Call tab ow 54 [I n] [] = some (I r, []) := by
  rw [run_i_workOf_2]
  unfold i_workOf_2 at h
  simp +decide only [b_i_workOf_2, go_sem, reduceIte, Nat.reduceAdd]
  obtain ⟨r_, h1, h⟩ := bd h
  refine call_aft (i_callsFor_c h1) ?_
  simp +decide only [go_sem, reduceIte, Nat.reduceAdd]
  obtain rfl := Option.some.inj h
  first | rfl | (simp only [List.length_set, go_sem]; done)
noncomputable def i_workOf_1_s (t : Int) (t3 : Int) (c : Int) (c2 : Int) (c3 : Int) (c4 : List Entry) (c5 : List Entry) (c6 : List Entry) (c7 : Int) (c8 : Int) (c9 : Int) : Int × Int → Option ((Int × Int) ⊕ ((Int × Int × Bool)))
  | (t2, t4) =>
    br (decide (t4 < t3)) (
      (i_callsFor (17 : Int)).bind fun r_20 =>
      (i_callsFor (65 : Int)).bind fun r_21 =>
      some (.inl ((IntKind.wrap .i64 (t2 + (IntKind.wrap .i64 (c8 * (IntKind.wrap .i64 (r_20 + (IntKind.wrap .i64 ((IntKind.wrap .i64 ((IntKind.wrap .i64 ((IntKind.wrap .i64 (t + c7)) - (1 : Int))) - t4)) * r_21)))))))), (IntKind.wrap .i64 (t4 + (1 : Int)))))) (
      some (.inr (t2, t4, decide (t4 < t3))))
theorem i_workOf_1_l {t : Int} {t3 : Int} {c : Int} {c2 : Int} {c3 : Int} {c4 : List Entry} {c5 : List Entry} {c6 : List Entry} {c7 : Int} {c8 : Int} {c9 : Int} {t2 : Int} {t4 : Int} {e : (Int × Int × Bool)} (h : Loop (i_workOf_1_s t t3 c c2 c3 c4 c5 c6 c7 c8 c9) (t2, t4) = some e) : LoopX tab ow (.close [13003, 13011]) b_i_workOf_10 ⟨[(3, .ptr 1001 0 0 1), (7, I t), (8, I t2), (95, I t3), (96, I t4)], [(1000, ⟨6, true, [[I c, I c2, I c3, sl eEntry c4, sl eEntry c5, sl eEntry c6]]⟩), (1001, ⟨3, true, [[I c7, I c8, I c9]]⟩)]⟩ = some ((.exit 0, ⟨[(3, .ptr 1001 0 0 1), (7, I t), (8, I e.1), (95, I t3), (96, I e.2.1), (97, B e.2.2)], [(1000, ⟨6, true, [[I c, I c2, I c3, sl eEntry c4, sl eEntry c5, sl eEntry c6]]⟩), (1001, ⟨3, true, [[I c7, I c8, I c9]]⟩)]⟩)) := by
  refine loop_runG (S := Int × Int) (eS := fun s => ⟨[(3, .ptr 1001 0 0 1), (7, I t), (8, I s.1), (95, I t3), (96, I s.2)], [(1000, ⟨6, true, [[I c, I c2, I c3, sl eEntry c4, sl eEntry c5, sl eEntry c6]]⟩), (1001, ⟨3, true, [[I c7, I c8, I c9]]⟩)]⟩) (eE := fun e => (.exit 0, ⟨[(3, .ptr 1001 0 0 1), (7, I t), (8, I e.1), (95, I t3), (96, I e.2.1), (97, B e.2.2)], [(1000, ⟨6, true, [[I c, I c2, I c3, sl eEntry c4, sl eEntry c5, sl eEntry c6]]⟩), (1001, ⟨3, true, [[I c7, I c8, I c9]]⟩)]⟩)) (fun e => ?_) (fun s o h => ?_) h
  · simp [alt]
  · obtain ⟨t2, t4⟩ := s
    simp only [i_workOf_1_s] at h
    show Rn tab ow _ _ ⟨[(3, .ptr 1001 0 0 1), (7, I t), (8, I t2), (95, I t3), (96, I t4)], [(1000, ⟨6, true, [[I c, I c2, I c3, sl eEntry c4, sl eEntry c5, sl eEntry c6]]⟩), (1001, ⟨3, true, [[I c7, I c8, I c9]]⟩)]⟩ = _
    simp +decide only [b_i_workOf_10, go_sem, reduceIte, Nat.reduceAdd]
    rcases brc h with ⟨hb, h⟩ | ⟨hb, h⟩
    · refine br_t hb ?_
      obtain ⟨r_20, h1, h⟩ := bd h
      refine call_aftD (i_callsFor_c h1) ?_
      simp +decide only [go_sem, reduceIte, Nat.reduceAdd]
      obtain ⟨r_21, h1, h⟩ := bd h
      refine call_aftD (i_callsFor_c h1) ?_
      simp +decide only [go_sem, reduceIte, Nat.reduceAdd]
      obtain rfl := Option.some.inj h
      first | rfl | (simp only [List.length_set, go_sem]; done)
    · refine br_f hb ?_
      obtain rfl := Option.some.inj h
      first | rfl | (simp only [List.length_set, go_sem]; done)
noncomputable def i_workOf (ListtoArray : System) (a : Setting) : Option (Int) :=
  (i_System_digestText ListtoArray).bind fun r_ =>
  (i_callsFor ((r_.length : Nat) : Int)).bind fun r_2 =>
  (i_workOf_1 (IntKind.wrap .i64 ((35 : Int) + (IntKind.wrap .i64 ((4 : Int) * ListtoArray.Publics))))).bind fun r_3 =>
  (i_workOf_1 (32 : Int)).bind fun r_4 =>
  (i_workOf_2 ListtoArray.Rows).bind fun r_5 =>
  (i_workOf_1 (32 : Int)).bind fun r_6 =>
  (i_workOf_2 ListtoArray.Rows).bind fun r_7 =>
  (i_workOf_1 (24 : Int)).bind fun r_8 =>
  (i_workOf_2 (3 : Int)).bind fun r_9 =>
  (i_workOf_1 (24 : Int)).bind fun r_10 =>
  (i_workOf_2 ListtoArray.Cols).bind fun r_11 =>
  (i_workOf_1 (8 : Int)).bind fun r_12 =>
  (i_workOf_1 (24 : Int)).bind fun r_13 =>
  (i_workOf_2 (IntKind.wrap .i64 (ListtoArray.Cols - (1 : Int)))).bind fun r_14 =>
  (i_workOf_1 (32 : Int)).bind fun r_15 =>
  (i_workOf_1 (8 : Int)).bind fun r_16 =>
  (i_callsFor (41 : Int)).bind fun r_17 =>
  (i_workOf_1 (4 : Int)).bind fun r_18 =>
  (i_workOf_2 a.Queries).bind fun r_19 =>
  (Loop (i_workOf_1_s (IntKind.wrap .i64 (ListtoArray.Cols - (1 : Int))) (IntKind.wrap .i64 (ListtoArray.Cols - (1 : Int))) ListtoArray.Rows ListtoArray.Cols ListtoArray.Publics ListtoArray.A ListtoArray.B ListtoArray.C a.Rate a.Queries a.Grind) ((IntKind.wrap .i64 ((IntKind.wrap .i64 ((IntKind.wrap .i64 ((IntKind.wrap .i64 ((IntKind.wrap .i64 ((IntKind.wrap .i64 ((IntKind.wrap .i64 (r_2 + r_3)) + r_4)) + r_5)) + (IntKind.wrap .i64 ((IntKind.wrap .i64 ((IntKind.wrap .i64 ((IntKind.wrap .i64 (ListtoArray.Rows * r_6)) + r_7)) + r_8)) + r_9)))) + (IntKind.wrap .i64 ((IntKind.wrap .i64 ((IntKind.wrap .i64 (ListtoArray.Cols * r_10)) + r_11)) + r_12)))) + (IntKind.wrap .i64 ((IntKind.wrap .i64 ((IntKind.wrap .i64 ((IntKind.wrap .i64 ((IntKind.wrap .i64 (ListtoArray.Cols - (1 : Int))) * r_13)) + r_14)) + (IntKind.wrap .i64 ((IntKind.wrap .i64 ((IntKind.wrap .i64 (ListtoArray.Cols - (1 : Int))) - (1 : Int))) * r_15)))) + r_16)))) + (IntKind.wrap .i64 ((IntKind.wrap .i64 (r_17 + r_18)) + r_19)))), (0 : Int))).bind fun e_ =>
  some e_.1
theorem i_workOf_c {ListtoArray : System} {a : Setting} {r : Int} (h : i_workOf ListtoArray a = some r) : Call tab ow 38 [.agg [I ListtoArray.Rows, I ListtoArray.Cols, I ListtoArray.Publics, sl eEntry ListtoArray.A, sl eEntry ListtoArray.B, sl eEntry ListtoArray.C], .agg [I a.Rate, I a.Queries, I a.Grind]] [] = some (I r, []) := by
  rw [run_i_workOf]
  unfold i_workOf at h
  simp +decide only [b_i_workOf, go_sem, reduceIte, Nat.reduceAdd]
  obtain ⟨r_, h1, h⟩ := bd h
  refine call_aftD (i_System_digestText_c h1) ?_
  simp +decide only [go_sem, reduceIte, Nat.reduceAdd]
  obtain ⟨r_2, h1, h⟩ := bd h
  refine call_aftD (i_callsFor_c h1) ?_
  simp +decide only [go_sem, reduceIte, Nat.reduceAdd]
  obtain ⟨r_3, h1, h⟩ := bd h
  refine call_aftD (i_workOf_1_c h1) ?_
  simp +decide only [go_sem, reduceIte, Nat.reduceAdd]
  obtain ⟨r_4, h1, h⟩ := bd h
  refine call_aftD (i_workOf_1_c h1) ?_
  simp +decide only [go_sem, reduceIte, Nat.reduceAdd]
  obtain ⟨r_5, h1, h⟩ := bd h
  refine call_aftD (i_workOf_2_c h1) ?_
  simp +decide only [go_sem, reduceIte, Nat.reduceAdd]
  obtain ⟨r_6, h1, h⟩ := bd h
  refine call_aftD (i_workOf_1_c h1) ?_
  simp +decide only [go_sem, reduceIte, Nat.reduceAdd]
  obtain ⟨r_7, h1, h⟩ := bd h
  refine call_aftD (i_workOf_2_c h1) ?_
  simp +decide only [go_sem, reduceIte, Nat.reduceAdd]
  obtain ⟨r_8, h1, h⟩ := bd h
  refine call_aftD (i_workOf_1_c h1) ?_
  simp +decide only [go_sem, reduceIte, Nat.reduceAdd]
  obtain ⟨r_9, h1, h⟩ := bd h
  refine call_aftD (i_workOf_2_c h1) ?_
  simp +decide only [go_sem, reduceIte, Nat.reduceAdd]
  obtain ⟨r_10, h1, h⟩ := bd h
  refine call_aftD (i_workOf_1_c h1) ?_
  simp +decide only [go_sem, reduceIte, Nat.reduceAdd]
  obtain ⟨r_11, h1, h⟩ := bd h
  refine call_aftD (i_workOf_2_c h1) ?_
  simp +decide only [go_sem, reduceIte, Nat.reduceAdd]
  obtain ⟨r_12, h1, h⟩ := bd h
  refine call_aftD (i_workOf_1_c h1) ?_
  simp +decide only [go_sem, reduceIte, Nat.reduceAdd]
  obtain ⟨r_13, h1, h⟩ := bd h
  refine call_aft (i_workOf_1_c h1) ?_
  simp +decide only [go_sem, reduceIte, Nat.reduceAdd]
  obtain ⟨r_14, h1, h⟩ := bd h
  refine call_aft (i_workOf_2_c h1) ?_
  simp +decide only [go_sem, reduceIte, Nat.reduceAdd]
  obtain ⟨r_15, h1, h⟩ := bd h
  refine call_aft (i_workOf_1_c h1) ?_
  simp +decide only [go_sem, reduceIte, Nat.reduceAdd]
  obtain ⟨r_16, h1, h⟩ := bd h
  refine call_aft (i_workOf_1_c h1) ?_
  simp +decide only [go_sem, reduceIte, Nat.reduceAdd]
  obtain ⟨r_17, h1, h⟩ := bd h
  refine call_aftD (i_callsFor_c h1) ?_
  simp +decide only [go_sem, reduceIte, Nat.reduceAdd]
  obtain ⟨r_18, h1, h⟩ := bd h
  refine call_aftD (i_workOf_1_c h1) ?_
  simp +decide only [go_sem, reduceIte, Nat.reduceAdd]
  obtain ⟨r_19, h1, h⟩ := bd h
  refine call_aftD (i_workOf_2_c h1) ?_
  simp +decide only [go_sem, reduceIte, Nat.reduceAdd]
  obtain ⟨e_, h1, h⟩ := bd h
  refine goR_of (i_workOf_1_l h1) ?_
  simp +decide only [go_sem, reduceIte, Nat.reduceAdd]
  obtain rfl := Option.some.inj h
  first | rfl | (simp only [List.length_set, go_sem]; done)
noncomputable def i_WorkOf (s : System) (t : Setting) : Option (Int × Int) :=
  (i_SystemOK s).bind fun r_ =>
  br (!r_) (
    some ((0 : Int), (1 : Int))) (
    (i_SettingOK t).bind fun r_2 =>
    br (!r_2) (
      some ((0 : Int), (1 : Int))) (
      (i_workOf s t).bind fun r_3 =>
      some (r_3, (0 : Int))))
theorem i_WorkOf_c {s : System} {t : Setting} {r : Int × Int} (h : i_WorkOf s t = some r) : Call tab ow 21 [.agg [I s.Rows, I s.Cols, I s.Publics, sl eEntry s.A, sl eEntry s.B, sl eEntry s.C], .agg [I t.Rate, I t.Queries, I t.Grind]] [] = some (.tup [I r.1, I r.2], []) := by
  rw [run_i_WorkOf]
  unfold i_WorkOf at h
  simp +decide only [b_i_WorkOf, go_sem, reduceIte, Nat.reduceAdd]
  obtain ⟨r_, h1, h⟩ := bd h
  refine call_aft (i_SystemOK_c h1) ?_
  simp +decide only [go_sem, reduceIte, Nat.reduceAdd]
  rcases brc h with ⟨hb, h⟩ | ⟨hb, h⟩
  · refine br_t hb ?_
    obtain rfl := Option.some.inj h
    first | rfl | (simp only [List.length_set, go_sem]; done)
  · refine br_f hb ?_
    obtain ⟨r_2, h1, h⟩ := bd h
    refine call_aft (i_SettingOK_c h1) ?_
    simp +decide only [go_sem, reduceIte, Nat.reduceAdd]
    rcases brc h with ⟨hb, h⟩ | ⟨hb, h⟩
    · refine br_t hb ?_
      obtain rfl := Option.some.inj h
      first | rfl | (simp only [List.length_set, go_sem]; done)
    · refine br_f hb ?_
      obtain ⟨r_3, h1, h⟩ := bd h
      refine call_aft (i_workOf_c h1) ?_
      simp +decide only [go_sem, reduceIte, Nat.reduceAdd]
      obtain rfl := Option.some.inj h
      first | rfl | (simp only [List.length_set, go_sem]; done)
noncomputable def s_l01In (n : Int) (low : Int) (high : Int) : Option (Bool) :=
  br (decide (low ≤ n)) (
    some (decide (n ≤ high))) (
    some false)
theorem s_l01In_c {n : Int} {low : Int} {high : Int} {r : Bool} (h : s_l01In n low high = some r) : Call tab ow 32 [I n, I low, I high] [] = some (B r, []) := by
  rw [run_s_l01In]
  unfold s_l01In at h
  simp +decide only [b_s_l01In, go_sem, reduceIte, Nat.reduceAdd]
  rcases brc h with ⟨hb, h⟩ | ⟨hb, h⟩
  · refine br_t hb ?_
    obtain rfl := Option.some.inj h
    first | rfl | (simp only [List.length_set, go_sem]; done)
  · refine br_f hb ?_
    obtain rfl := Option.some.inj h
    first | rfl | (simp only [List.length_set, go_sem]; done)
noncomputable def s_l10List_1_s (ListtoArray2 : List Entry) (t : Int) (t2 : Int) : Int → Option ((Int) ⊕ ((Int × Int × Int) ⊕ (Int × Bool)))
  | t3 =>
    br (decide (t3 < ((ListtoArray2.length : Nat) : Int))) (
      (atL ListtoArray2 t3).bind fun x =>
      br (decide (0 ≤ (IntKind.wrap .u64 t))) (
        (s_l01In x.Row (0 : Int) (IntKind.wrap .i64 ((shl64 .i64 (1 : Int) (IntKind.wrap .u64 t)) - (1 : Int)))).bind fun r_ =>
        br (!r_) (
          some (.inr (.inl (x.Row, x.Col, x.Value)))) (
          br (decide (0 ≤ (IntKind.wrap .u64 t2))) (
            (s_l01In x.Col (0 : Int) (IntKind.wrap .i64 ((shl64 .i64 (1 : Int) (IntKind.wrap .u64 t2)) - (1 : Int)))).bind fun r_2 =>
            br (!r_2) (
              some (.inr (.inl (x.Row, x.Col, x.Value)))) (
              (s_l01In x.Value (1 : Int) (2130706432 : Int)).bind fun r_3 =>
              br (!r_3) (
                some (.inr (.inl (x.Row, x.Col, x.Value)))) (
                br (decide (t3 > (0 : Int))) (
                  (atL ListtoArray2 (IntKind.wrap .i64 (t3 - (1 : Int)))).bind fun x2 =>
                  br (decide (x2.Row > x.Row)) (
                    some (.inr (.inl (x.Row, x.Col, x.Value)))) (
                    (atL ListtoArray2 (IntKind.wrap .i64 (t3 - (1 : Int)))).bind fun x3 =>
                    br (x3.Row == x.Row) (
                      (atL ListtoArray2 (IntKind.wrap .i64 (t3 - (1 : Int)))).bind fun x4 =>
                      br (decide (x4.Col ≥ x.Col)) (
                        some (.inr (.inl (x.Row, x.Col, x.Value)))) (
                        some (.inl (IntKind.wrap .i64 (t3 + (1 : Int)))))) (
                      some (.inl (IntKind.wrap .i64 (t3 + (1 : Int))))))) (
                  some (.inl (IntKind.wrap .i64 (t3 + (1 : Int)))))))) (
            none))) (
        none)) (
      some (.inr (.inr (t3, decide (t3 < ((ListtoArray2.length : Nat) : Int))))))
theorem s_l10List_1_l {ListtoArray2 : List Entry} {t : Int} {t2 : Int} {t3 : Int} {e : (Int × Int × Int) ⊕ (Int × Bool)} (h : Loop (s_l10List_1_s ListtoArray2 t t2) t3 = some e) : LoopX tab ow (.close [7004, 8006, 8015, 8021]) b_s_l10List_4 ⟨[(0, sl eEntry ListtoArray2), (1, I t), (2, I t2), (7, I t3)], []⟩ = some ((alt (fun e => ((.ret, ⟨[(6, B false)], [(7004, ⟨3, true, [[I e.1, I e.2.1, I e.2.2]]⟩)]⟩) : AExit × St)) (fun e => (.exit 0, ⟨[(0, sl eEntry ListtoArray2), (1, I t), (2, I t2), (7, I e.1), (15, B e.2)], []⟩))) e) := by
  refine loop_runG (S := Int) (eS := fun s => ⟨[(0, sl eEntry ListtoArray2), (1, I t), (2, I t2), (7, I s)], []⟩) (eE := fun e => (alt (fun e => ((.ret, ⟨[(6, B false)], [(7004, ⟨3, true, [[I e.1, I e.2.1, I e.2.2]]⟩)]⟩) : AExit × St)) (fun e => (.exit 0, ⟨[(0, sl eEntry ListtoArray2), (1, I t), (2, I t2), (7, I e.1), (15, B e.2)], []⟩))) e) (fun e => ?_) (fun t3 o h => ?_) h
  · rcases e with e | e <;> simp [alt]
  · skip
    simp only [s_l10List_1_s] at h
    show Rn tab ow _ _ ⟨[(0, sl eEntry ListtoArray2), (1, I t), (2, I t2), (7, I t3)], []⟩ = _
    simp +decide only [b_s_l10List_4, go_sem, reduceIte, Nat.reduceAdd]
    rcases brc h with ⟨hb, h⟩ | ⟨hb, h⟩
    · refine br_t hb ?_
      obtain ⟨x, h1, h⟩ := bd h
      refine bind_some h1 ?_
      obtain ⟨hb, h⟩ := brg h
      refine br_t hb ?_
      obtain ⟨r_, h1, h⟩ := bd h
      refine call_aft (s_l01In_c h1) ?_
      simp +decide only [go_sem, reduceIte, Nat.reduceAdd]
      rcases brc h with ⟨hb, h⟩ | ⟨hb, h⟩
      · refine br_t hb ?_
        obtain rfl := Option.some.inj h
        first | rfl | (simp only [List.length_set, go_sem]; done)
      · refine br_f hb ?_
        obtain ⟨hb, h⟩ := brg h
        refine br_t hb ?_
        obtain ⟨r_2, h1, h⟩ := bd h
        refine call_aft (s_l01In_c h1) ?_
        simp +decide only [go_sem, reduceIte, Nat.reduceAdd]
        rcases brc h with ⟨hb, h⟩ | ⟨hb, h⟩
        · refine br_t hb ?_
          obtain rfl := Option.some.inj h
          first | rfl | (simp only [List.length_set, go_sem]; done)
        · refine br_f hb ?_
          obtain ⟨r_3, h1, h⟩ := bd h
          refine call_aft (s_l01In_c h1) ?_
          simp +decide only [go_sem, reduceIte, Nat.reduceAdd]
          rcases brc h with ⟨hb, h⟩ | ⟨hb, h⟩
          · refine br_t hb ?_
            obtain rfl := Option.some.inj h
            first | rfl | (simp only [List.length_set, go_sem]; done)
          · refine br_f hb ?_
            rcases brc h with ⟨hb, h⟩ | ⟨hb, h⟩
            · refine br_t hb ?_
              obtain ⟨x2, h1, h⟩ := bd h
              refine bind_some h1 ?_
              rcases brc h with ⟨hb, h⟩ | ⟨hb, h⟩
              · refine br_t hb ?_
                obtain rfl := Option.some.inj h
                first | rfl | (simp only [List.length_set, go_sem]; done)
              · refine br_f hb ?_
                obtain ⟨x3, h1, h⟩ := bd h
                refine bind_some h1 ?_
                rcases brc h with ⟨hb, h⟩ | ⟨hb, h⟩
                · refine br_t hb ?_
                  obtain ⟨x4, h1, h⟩ := bd h
                  refine bind_some h1 ?_
                  rcases brc h with ⟨hb, h⟩ | ⟨hb, h⟩
                  · refine br_t hb ?_
                    obtain rfl := Option.some.inj h
                    first | rfl | (simp only [List.length_set, go_sem]; done)
                  · refine br_f hb ?_
                    obtain rfl := Option.some.inj h
                    first | rfl | (simp only [List.length_set, go_sem]; done)
                · refine br_f hb ?_
                  obtain rfl := Option.some.inj h
                  first | rfl | (simp only [List.length_set, go_sem]; done)
            · refine br_f hb ?_
              obtain rfl := Option.some.inj h
              first | rfl | (simp only [List.length_set, go_sem]; done)
    · refine br_f hb ?_
      obtain rfl := Option.some.inj h
      first | rfl | (simp only [List.length_set, go_sem]; done)
noncomputable def s_l10List (ListtoArray : (List Entry)) (a : Int) (a2 : Int) : Option (Bool) :=
  br (decide (((ListtoArray.length : Nat) : Int) > (200 : Int))) (
    some false) (
    (Loop (s_l10List_1_s ListtoArray a a2) (0 : Int)).bind (alt (fun e_2 =>
      some false) (fun e_3 =>
      some true)))
theorem s_l10List_c {ListtoArray : (List Entry)} {a : Int} {a2 : Int} {r : Bool} (h : s_l10List ListtoArray a a2 = some r) : Call tab ow 56 [sl eEntry ListtoArray, I a, I a2] [] = some (B r, []) := by
  rw [run_s_l10List]
  unfold s_l10List at h
  simp +decide only [b_s_l10List, go_sem, reduceIte, Nat.reduceAdd]
  rcases brc h with ⟨hb, h⟩ | ⟨hb, h⟩
  · refine br_t hb ?_
    obtain rfl := Option.some.inj h
    first | rfl | (simp only [List.length_set, go_sem]; done)
  · refine br_f hb ?_
    obtain ⟨e_, h1, h⟩ := bd h
    refine goR_of (s_l10List_1_l h1) ?_
    rcases e_ with e_2 | e_3
    · simp +decide only [go_sem, reduceIte, Nat.reduceAdd]
      obtain rfl := Option.some.inj h
      first | rfl | (simp only [List.length_set, go_sem]; done)
    · simp +decide only [go_sem, reduceIte, Nat.reduceAdd]
      obtain rfl := Option.some.inj h
      first | rfl | (simp only [List.length_set, go_sem]; done)
noncomputable def s_SystemOK (s : System) : Option (Bool) :=
  (s_l01In s.Rows (1 : Int) (5 : Int)).bind fun r_ =>
  br r_ (
    (s_l01In s.Cols (2 : Int) (5 : Int)).bind fun r_2 =>
    br r_2 (
      br (decide (0 ≤ (IntKind.wrap .u64 (IntKind.wrap .i64 (s.Cols - (1 : Int)))))) (
        (s_l01In s.Publics (0 : Int) (IntKind.wrap .i64 ((shl64 .i64 (1 : Int) (IntKind.wrap .u64 (IntKind.wrap .i64 (s.Cols - (1 : Int))))) - (1 : Int)))).bind fun r_3 =>
        br r_3 (
          (s_l10List s.A s.Rows s.Cols).bind fun r_4 =>
          br r_4 (
            (s_l10List s.B s.Rows s.Cols).bind fun r_5 =>
            br r_5 (
              (s_l10List s.C s.Rows s.Cols).bind fun r_6 =>
              some r_6) (
              some false)) (
            some false)) (
          some false)) (
        none)) (
      some false)) (
    some false)
theorem s_SystemOK_c {s : System} {r : Bool} (h : s_SystemOK s = some r) : Call tab ow 39 [.agg [I s.Rows, I s.Cols, I s.Publics, sl eEntry s.A, sl eEntry s.B, sl eEntry s.C]] [] = some (B r, []) := by
  rw [run_s_SystemOK]
  unfold s_SystemOK at h
  simp +decide only [b_s_SystemOK, go_sem, reduceIte, Nat.reduceAdd]
  obtain ⟨r_, h1, h⟩ := bd h
  refine call_aft (s_l01In_c h1) ?_
  simp +decide only [go_sem, reduceIte, Nat.reduceAdd]
  rcases brc h with ⟨hb, h⟩ | ⟨hb, h⟩
  · refine br_t hb ?_
    obtain ⟨r_2, h1, h⟩ := bd h
    refine call_aft (s_l01In_c h1) ?_
    simp +decide only [go_sem, reduceIte, Nat.reduceAdd]
    rcases brc h with ⟨hb, h⟩ | ⟨hb, h⟩
    · refine br_t hb ?_
      obtain ⟨hb, h⟩ := brg h
      refine br_t hb ?_
      obtain ⟨r_3, h1, h⟩ := bd h
      refine call_aft (s_l01In_c h1) ?_
      simp +decide only [go_sem, reduceIte, Nat.reduceAdd]
      rcases brc h with ⟨hb, h⟩ | ⟨hb, h⟩
      · refine br_t hb ?_
        obtain ⟨r_4, h1, h⟩ := bd h
        refine call_aft (s_l10List_c h1) ?_
        simp +decide only [go_sem, reduceIte, Nat.reduceAdd]
        rcases brc h with ⟨hb, h⟩ | ⟨hb, h⟩
        · refine br_t hb ?_
          obtain ⟨r_5, h1, h⟩ := bd h
          refine call_aft (s_l10List_c h1) ?_
          simp +decide only [go_sem, reduceIte, Nat.reduceAdd]
          rcases brc h with ⟨hb, h⟩ | ⟨hb, h⟩
          · refine br_t hb ?_
            obtain ⟨r_6, h1, h⟩ := bd h
            refine call_aft (s_l10List_c h1) ?_
            simp +decide only [go_sem, reduceIte, Nat.reduceAdd]
            obtain rfl := Option.some.inj h
            first | rfl | (simp only [List.length_set, go_sem]; done)
          · refine br_f hb ?_
            obtain rfl := Option.some.inj h
            first | rfl | (simp only [List.length_set, go_sem]; done)
        · refine br_f hb ?_
          obtain rfl := Option.some.inj h
          first | rfl | (simp only [List.length_set, go_sem]; done)
      · refine br_f hb ?_
        obtain rfl := Option.some.inj h
        first | rfl | (simp only [List.length_set, go_sem]; done)
    · refine br_f hb ?_
      obtain rfl := Option.some.inj h
      first | rfl | (simp only [List.length_set, go_sem]; done)
  · refine br_f hb ?_
    obtain rfl := Option.some.inj h
    first | rfl | (simp only [List.length_set, go_sem]; done)
noncomputable def s_SettingOK (t : Setting) : Option (Bool) :=
  (s_l01In t.Rate (1 : Int) (3 : Int)).bind fun r_ =>
  br r_ (
    (s_l01In t.Queries (1 : Int) (8 : Int)).bind fun r_2 =>
    br r_2 (
      (s_l01In t.Grind (0 : Int) (12 : Int)).bind fun r_3 =>
      some r_3) (
      some false)) (
    some false)
theorem s_SettingOK_c {t : Setting} {r : Bool} (h : s_SettingOK t = some r) : Call tab ow 28 [.agg [I t.Rate, I t.Queries, I t.Grind]] [] = some (B r, []) := by
  rw [run_s_SettingOK]
  unfold s_SettingOK at h
  simp +decide only [b_s_SettingOK, go_sem, reduceIte, Nat.reduceAdd]
  obtain ⟨r_, h1, h⟩ := bd h
  refine call_aft (s_l01In_c h1) ?_
  simp +decide only [go_sem, reduceIte, Nat.reduceAdd]
  rcases brc h with ⟨hb, h⟩ | ⟨hb, h⟩
  · refine br_t hb ?_
    obtain ⟨r_2, h1, h⟩ := bd h
    refine call_aft (s_l01In_c h1) ?_
    simp +decide only [go_sem, reduceIte, Nat.reduceAdd]
    rcases brc h with ⟨hb, h⟩ | ⟨hb, h⟩
    · refine br_t hb ?_
      obtain ⟨r_3, h1, h⟩ := bd h
      refine call_aft (s_l01In_c h1) ?_
      simp +decide only [go_sem, reduceIte, Nat.reduceAdd]
      obtain rfl := Option.some.inj h
      first | rfl | (simp only [List.length_set, go_sem]; done)
    · refine br_f hb ?_
      obtain rfl := Option.some.inj h
      first | rfl | (simp only [List.length_set, go_sem]; done)
  · refine br_f hb ?_
    obtain rfl := Option.some.inj h
    first | rfl | (simp only [List.length_set, go_sem]; done)
noncomputable def s_l15Calls (n : Int) : Option (Int) :=
  some (IntKind.wrap .i64 ((IntKind.wrap .i64 (n.tdiv (136 : Int))) + (1 : Int)))
theorem s_l15Calls_c {n : Int} {r : Int} (h : s_l15Calls n = some r) : Call tab ow 40 [I n] [] = some (I r, []) := by
  rw [run_s_l15Calls]
  unfold s_l15Calls at h
  simp +decide only [b_s_l15Calls, go_sem, reduceIte, Nat.reduceAdd]
  obtain rfl := Option.some.inj h
  first | rfl | (simp only [List.length_set, go_sem]; done)
noncomputable def s_WorkOf_1_s (t : Int) (c : Int) (c2 : Int) (c3 : Int) (c4 : List Entry) (c5 : List Entry) (c6 : List Entry) (c7 : Int) (c8 : Int) (c9 : Int) : Int × Int → Option ((Int × Int) ⊕ ((Int × Int × Bool)))
  | (t2, t3) =>
    br (decide (t3 < t)) (
      (s_l15Calls (17 : Int)).bind fun r_21 =>
      (s_l15Calls (65 : Int)).bind fun r_22 =>
      some (.inl ((IntKind.wrap .i64 (t2 + (IntKind.wrap .i64 (c8 * (IntKind.wrap .i64 (r_21 + (IntKind.wrap .i64 ((IntKind.wrap .i64 ((IntKind.wrap .i64 ((IntKind.wrap .i64 (t + c7)) - (1 : Int))) - t3)) * r_22)))))))), (IntKind.wrap .i64 (t3 + (1 : Int)))))) (
      some (.inr (t2, t3, decide (t3 < t))))
theorem s_WorkOf_1_l {t : Int} {c : Int} {c2 : Int} {c3 : Int} {c4 : List Entry} {c5 : List Entry} {c6 : List Entry} {c7 : Int} {c8 : Int} {c9 : Int} {t2 : Int} {t3 : Int} {e : (Int × Int × Bool)} (h : Loop (s_WorkOf_1_s t c c2 c3 c4 c5 c6 c7 c8 c9) (t2, t3) = some e) : LoopX tab ow (.close [14003, 14011]) b_s_WorkOf_11 ⟨[(3, .ptr 1001 0 0 1), (7, I t), (8, I t2), (9, I t3)], [(1000, ⟨6, true, [[I c, I c2, I c3, sl eEntry c4, sl eEntry c5, sl eEntry c6]]⟩), (1001, ⟨3, true, [[I c7, I c8, I c9]]⟩)]⟩ = some ((.exit 0, ⟨[(3, .ptr 1001 0 0 1), (7, I t), (8, I e.1), (9, I e.2.1), (98, B e.2.2)], [(1000, ⟨6, true, [[I c, I c2, I c3, sl eEntry c4, sl eEntry c5, sl eEntry c6]]⟩), (1001, ⟨3, true, [[I c7, I c8, I c9]]⟩)]⟩)) := by
  refine loop_runG (S := Int × Int) (eS := fun s => ⟨[(3, .ptr 1001 0 0 1), (7, I t), (8, I s.1), (9, I s.2)], [(1000, ⟨6, true, [[I c, I c2, I c3, sl eEntry c4, sl eEntry c5, sl eEntry c6]]⟩), (1001, ⟨3, true, [[I c7, I c8, I c9]]⟩)]⟩) (eE := fun e => (.exit 0, ⟨[(3, .ptr 1001 0 0 1), (7, I t), (8, I e.1), (9, I e.2.1), (98, B e.2.2)], [(1000, ⟨6, true, [[I c, I c2, I c3, sl eEntry c4, sl eEntry c5, sl eEntry c6]]⟩), (1001, ⟨3, true, [[I c7, I c8, I c9]]⟩)]⟩)) (fun e => ?_) (fun s o h => ?_) h
  · simp [alt]
  · obtain ⟨t2, t3⟩ := s
    simp only [s_WorkOf_1_s] at h
    show Rn tab ow _ _ ⟨[(3, .ptr 1001 0 0 1), (7, I t), (8, I t2), (9, I t3)], [(1000, ⟨6, true, [[I c, I c2, I c3, sl eEntry c4, sl eEntry c5, sl eEntry c6]]⟩), (1001, ⟨3, true, [[I c7, I c8, I c9]]⟩)]⟩ = _
    simp +decide only [b_s_WorkOf_11, go_sem, reduceIte, Nat.reduceAdd]
    rcases brc h with ⟨hb, h⟩ | ⟨hb, h⟩
    · refine br_t hb ?_
      obtain ⟨r_21, h1, h⟩ := bd h
      refine call_aftD (s_l15Calls_c h1) ?_
      simp +decide only [go_sem, reduceIte, Nat.reduceAdd]
      obtain ⟨r_22, h1, h⟩ := bd h
      refine call_aftD (s_l15Calls_c h1) ?_
      simp +decide only [go_sem, reduceIte, Nat.reduceAdd]
      obtain rfl := Option.some.inj h
      first | rfl | (simp only [List.length_set, go_sem]; done)
    · refine br_f hb ?_
      obtain rfl := Option.some.inj h
      first | rfl | (simp only [List.length_set, go_sem]; done)
noncomputable def s_WorkOf (ListtoArray : System) (a : Setting) : Option (Int × Int) :=
  (s_SystemOK ListtoArray).bind fun r_ =>
  br (!r_) (
    some ((0 : Int), (1 : Int))) (
    (s_SettingOK a).bind fun r_2 =>
    br (!r_2) (
      some ((0 : Int), (1 : Int))) (
      (s_l15Calls (IntKind.wrap .i64 ((21 : Int) + (IntKind.wrap .i64 ((6 : Int) * (IntKind.wrap .i64 ((IntKind.wrap .i64 (((ListtoArray.A.length : Nat) : Int) + ((ListtoArray.B.length : Nat) : Int))) + ((ListtoArray.C.length : Nat) : Int)))))))).bind fun r_3 =>
      (s_l15Calls (IntKind.wrap .i64 ((77 : Int) + (IntKind.wrap .i64 ((4 : Int) * ListtoArray.Publics))))).bind fun r_4 =>
      (s_l15Calls (74 : Int)).bind fun r_5 =>
      (s_l15Calls (40 : Int)).bind fun r_6 =>
      (s_l15Calls (74 : Int)).bind fun r_7 =>
      (s_l15Calls (40 : Int)).bind fun r_8 =>
      (s_l15Calls (66 : Int)).bind fun r_9 =>
      (s_l15Calls (40 : Int)).bind fun r_10 =>
      (s_l15Calls (66 : Int)).bind fun r_11 =>
      (s_l15Calls (40 : Int)).bind fun r_12 =>
      (s_l15Calls (50 : Int)).bind fun r_13 =>
      (s_l15Calls (66 : Int)).bind fun r_14 =>
      (s_l15Calls (40 : Int)).bind fun r_15 =>
      (s_l15Calls (74 : Int)).bind fun r_16 =>
      (s_l15Calls (50 : Int)).bind fun r_17 =>
      (s_l15Calls (41 : Int)).bind fun r_18 =>
      (s_l15Calls (46 : Int)).bind fun r_19 =>
      (s_l15Calls (40 : Int)).bind fun r_20 =>
      (Loop (s_WorkOf_1_s (IntKind.wrap .i64 (ListtoArray.Cols - (1 : Int))) ListtoArray.Rows ListtoArray.Cols ListtoArray.Publics ListtoArray.A ListtoArray.B ListtoArray.C a.Rate a.Queries a.Grind) ((IntKind.wrap .i64 ((IntKind.wrap .i64 ((IntKind.wrap .i64 ((IntKind.wrap .i64 ((IntKind.wrap .i64 ((IntKind.wrap .i64 (r_3 + r_4)) + r_5)) + (IntKind.wrap .i64 ((IntKind.wrap .i64 (ListtoArray.Rows * r_6)) + (IntKind.wrap .i64 (ListtoArray.Rows * (IntKind.wrap .i64 (r_7 + r_8)))))))) + (IntKind.wrap .i64 ((IntKind.wrap .i64 ((IntKind.wrap .i64 (r_9 + (IntKind.wrap .i64 ((3 : Int) * r_10)))) + (IntKind.wrap .i64 (ListtoArray.Cols * (IntKind.wrap .i64 (r_11 + r_12)))))) + r_13)))) + (IntKind.wrap .i64 ((IntKind.wrap .i64 ((IntKind.wrap .i64 ((IntKind.wrap .i64 (ListtoArray.Cols - (1 : Int))) * (IntKind.wrap .i64 (r_14 + r_15)))) + (IntKind.wrap .i64 ((IntKind.wrap .i64 ((IntKind.wrap .i64 (ListtoArray.Cols - (1 : Int))) - (1 : Int))) * r_16)))) + r_17)))) + (IntKind.wrap .i64 ((IntKind.wrap .i64 (r_18 + r_19)) + (IntKind.wrap .i64 (a.Queries * r_20)))))), (0 : Int))).bind fun e_ =>
      some (e_.1, (0 : Int))))
theorem s_WorkOf_c {ListtoArray : System} {a : Setting} {r : Int × Int} (h : s_WorkOf ListtoArray a = some r) : Call tab ow 22 [.agg [I ListtoArray.Rows, I ListtoArray.Cols, I ListtoArray.Publics, sl eEntry ListtoArray.A, sl eEntry ListtoArray.B, sl eEntry ListtoArray.C], .agg [I a.Rate, I a.Queries, I a.Grind]] [] = some (.tup [I r.1, I r.2], []) := by
  rw [run_s_WorkOf]
  unfold s_WorkOf at h
  simp +decide only [b_s_WorkOf, go_sem, reduceIte, Nat.reduceAdd]
  obtain ⟨r_, h1, h⟩ := bd h
  refine call_aft (s_SystemOK_c h1) ?_
  simp +decide only [go_sem, reduceIte, Nat.reduceAdd]
  rcases brc h with ⟨hb, h⟩ | ⟨hb, h⟩
  · refine br_t hb ?_
    obtain rfl := Option.some.inj h
    first | rfl | (simp only [List.length_set, go_sem]; done)
  · refine br_f hb ?_
    obtain ⟨r_2, h1, h⟩ := bd h
    refine call_aft (s_SettingOK_c h1) ?_
    simp +decide only [go_sem, reduceIte, Nat.reduceAdd]
    rcases brc h with ⟨hb, h⟩ | ⟨hb, h⟩
    · refine br_t hb ?_
      obtain rfl := Option.some.inj h
      first | rfl | (simp only [List.length_set, go_sem]; done)
    · refine br_f hb ?_
      obtain ⟨r_3, h1, h⟩ := bd h
      refine call_aftD (s_l15Calls_c h1) ?_
      simp +decide only [go_sem, reduceIte, Nat.reduceAdd]
      obtain ⟨r_4, h1, h⟩ := bd h
      refine call_aftD (s_l15Calls_c h1) ?_
      simp +decide only [go_sem, reduceIte, Nat.reduceAdd]
      obtain ⟨r_5, h1, h⟩ := bd h
      refine call_aftD (s_l15Calls_c h1) ?_
      simp +decide only [go_sem, reduceIte, Nat.reduceAdd]
      obtain ⟨r_6, h1, h⟩ := bd h
      refine call_aftD (s_l15Calls_c h1) ?_
      simp +decide only [go_sem, reduceIte, Nat.reduceAdd]
      obtain ⟨r_7, h1, h⟩ := bd h
      refine call_aftD (s_l15Calls_c h1) ?_
      simp +decide only [go_sem, reduceIte, Nat.reduceAdd]
      obtain ⟨r_8, h1, h⟩ := bd h
      refine call_aftD (s_l15Calls_c h1) ?_
      simp +decide only [go_sem, reduceIte, Nat.reduceAdd]
      obtain ⟨r_9, h1, h⟩ := bd h
      refine call_aftD (s_l15Calls_c h1) ?_
      simp +decide only [go_sem, reduceIte, Nat.reduceAdd]
      obtain ⟨r_10, h1, h⟩ := bd h
      refine call_aftD (s_l15Calls_c h1) ?_
      simp +decide only [go_sem, reduceIte, Nat.reduceAdd]
      obtain ⟨r_11, h1, h⟩ := bd h
      refine call_aftD (s_l15Calls_c h1) ?_
      simp +decide only [go_sem, reduceIte, Nat.reduceAdd]
      obtain ⟨r_12, h1, h⟩ := bd h
      refine call_aftD (s_l15Calls_c h1) ?_
      simp +decide only [go_sem, reduceIte, Nat.reduceAdd]
      obtain ⟨r_13, h1, h⟩ := bd h
      refine call_aftD (s_l15Calls_c h1) ?_
      simp +decide only [go_sem, reduceIte, Nat.reduceAdd]
      obtain ⟨r_14, h1, h⟩ := bd h
      refine call_aft (s_l15Calls_c h1) ?_
      simp +decide only [go_sem, reduceIte, Nat.reduceAdd]
      obtain ⟨r_15, h1, h⟩ := bd h
      refine call_aft (s_l15Calls_c h1) ?_
      simp +decide only [go_sem, reduceIte, Nat.reduceAdd]
      obtain ⟨r_16, h1, h⟩ := bd h
      refine call_aft (s_l15Calls_c h1) ?_
      simp +decide only [go_sem, reduceIte, Nat.reduceAdd]
      obtain ⟨r_17, h1, h⟩ := bd h
      refine call_aft (s_l15Calls_c h1) ?_
      simp +decide only [go_sem, reduceIte, Nat.reduceAdd]
      obtain ⟨r_18, h1, h⟩ := bd h
      refine call_aftD (s_l15Calls_c h1) ?_
      simp +decide only [go_sem, reduceIte, Nat.reduceAdd]
      obtain ⟨r_19, h1, h⟩ := bd h
      refine call_aftD (s_l15Calls_c h1) ?_
      simp +decide only [go_sem, reduceIte, Nat.reduceAdd]
      obtain ⟨r_20, h1, h⟩ := bd h
      refine call_aftD (s_l15Calls_c h1) ?_
      simp +decide only [go_sem, reduceIte, Nat.reduceAdd]
      obtain ⟨e_, h1, h⟩ := bd h
      refine goR_of (s_WorkOf_1_l h1) ?_
      simp +decide only [go_sem, reduceIte, Nat.reduceAdd]
      obtain rfl := Option.some.inj h
      first | rfl | (simp only [List.length_set, go_sem]; done)
noncomputable def w_FnWork (ListtoArray : (List UInt8)) (a : (List UInt8)) : Option (Bool) :=
  br (decide (((ListtoArray.length : Nat) : Int) > (1048576 : Int))) (
    some true) (
    br (decide (((a.length : Nat) : Int) > (1048576 : Int))) (
      some true) (
      (s_SystemDrawn ListtoArray).bind fun r_ =>
      (s_SettingOf a).bind fun r_2 =>
      (i_WorkOf r_ r_2).bind fun r_3 =>
      (s_WorkOf r_ r_2).bind fun r_4 =>
      (i_WorkOf r_ (Setting.mk r_2.Rate (IntKind.wrap .i64 (r_2.Queries + (1 : Int))) r_2.Grind)).bind fun r_5 =>
      br (r_3.2 == (0 : Int)) (
        br (r_3.1 == r_4.1) (
          br (r_5.2 == (0 : Int)) (
            some (decide (r_5.1 > r_3.1))) (
            some false)) (
          some false)) (
        some false)))
theorem w_FnWork_c {ListtoArray : (List UInt8)} {a : (List UInt8)} {r : Bool} (h : w_FnWork ListtoArray a = some r) : Call tab ow 7 [sl eU8 ListtoArray, sl eU8 a] [] = some (B r, []) := by
  rw [run_w_FnWork]
  unfold w_FnWork at h
  simp +decide only [b_w_FnWork, go_sem, reduceIte, Nat.reduceAdd]
  rcases brc h with ⟨hb, h⟩ | ⟨hb, h⟩
  · refine br_t hb ?_
    obtain rfl := Option.some.inj h
    first | rfl | (simp only [List.length_set, go_sem]; done)
  · refine br_f hb ?_
    rcases brc h with ⟨hb, h⟩ | ⟨hb, h⟩
    · refine br_t hb ?_
      obtain rfl := Option.some.inj h
      first | rfl | (simp only [List.length_set, go_sem]; done)
    · refine br_f hb ?_
      obtain ⟨r_, h1, h⟩ := bd h
      refine call_aft (s_SystemDrawn_c h1) ?_
      simp +decide only [go_sem, reduceIte, Nat.reduceAdd]
      obtain ⟨r_2, h1, h⟩ := bd h
      refine call_aft (s_SettingOf_c h1) ?_
      simp +decide only [go_sem, reduceIte, Nat.reduceAdd]
      obtain ⟨r_3, h1, h⟩ := bd h
      refine call_aft (i_WorkOf_c h1) ?_
      simp +decide only [go_sem, reduceIte, Nat.reduceAdd]
      obtain ⟨r_4, h1, h⟩ := bd h
      refine call_aft (s_WorkOf_c h1) ?_
      simp +decide only [go_sem, reduceIte, Nat.reduceAdd]
      obtain ⟨r_5, h1, h⟩ := bd h
      refine call_aft (i_WorkOf_c h1) ?_
      simp +decide only [go_sem, reduceIte, Nat.reduceAdd]
      rcases brc h with ⟨hb, h⟩ | ⟨hb, h⟩
      · refine br_t hb ?_
        rcases brc h with ⟨hb, h⟩ | ⟨hb, h⟩
        · refine br_t hb ?_
          rcases brc h with ⟨hb, h⟩ | ⟨hb, h⟩
          · refine br_t hb ?_
            obtain rfl := Option.some.inj h
            first | rfl | (simp only [List.length_set, go_sem]; done)
          · refine br_f hb ?_
            obtain rfl := Option.some.inj h
            first | rfl | (simp only [List.length_set, go_sem]; done)
        · refine br_f hb ?_
          obtain rfl := Option.some.inj h
          first | rfl | (simp only [List.length_set, go_sem]; done)
      · refine br_f hb ?_
        obtain rfl := Option.some.inj h
        first | rfl | (simp only [List.length_set, go_sem]; done)
noncomputable def w_szEntryS (a : (List Entry)) (left : Int) : Option (Int) :=
  br (decide ((IntKind.wrap .i64 (left - ((a.length : Nat) : Int))) < (0 : Int))) (
    some (-1 : Int)) (
    some (IntKind.wrap .i64 (left - ((a.length : Nat) : Int))))
theorem w_szEntryS_c {a : (List Entry)} {left : Int} {r : Int} (h : w_szEntryS a left = some r) : Call tab ow 41 [sl eEntry a, I left] [] = some (I r, []) := by
  rw [run_w_szEntryS]
  unfold w_szEntryS at h
  simp +decide only [b_w_szEntryS, go_sem, reduceIte, Nat.reduceAdd]
  rcases brc h with ⟨hb, h⟩ | ⟨hb, h⟩
  · refine br_t hb ?_
    obtain rfl := Option.some.inj h
    first | rfl | (simp only [List.length_set, go_sem]; done)
  · refine br_f hb ?_
    obtain rfl := Option.some.inj h
    first | rfl | (simp only [List.length_set, go_sem]; done)
noncomputable def w_szSystem (a : System) (left : Int) : Option (Int) :=
  (w_szEntryS a.A left).bind fun r_ =>
  br (decide (r_ < (0 : Int))) (
    some (-1 : Int)) (
    (w_szEntryS a.B r_).bind fun r_2 =>
    br (decide (r_2 < (0 : Int))) (
      some (-1 : Int)) (
      (w_szEntryS a.C r_2).bind fun r_3 =>
      br (decide (r_3 < (0 : Int))) (
        some (-1 : Int)) (
        some r_3)))
theorem w_szSystem_c {a : System} {left : Int} {r : Int} (h : w_szSystem a left = some r) : Call tab ow 23 [.agg [I a.Rows, I a.Cols, I a.Publics, sl eEntry a.A, sl eEntry a.B, sl eEntry a.C], I left] [] = some (I r, []) := by
  rw [run_w_szSystem]
  unfold w_szSystem at h
  simp +decide only [b_w_szSystem, go_sem, reduceIte, Nat.reduceAdd]
  obtain ⟨r_, h1, h⟩ := bd h
  refine call_aft (w_szEntryS_c h1) ?_
  simp +decide only [go_sem, reduceIte, Nat.reduceAdd]
  rcases brc h with ⟨hb, h⟩ | ⟨hb, h⟩
  · refine br_t hb ?_
    obtain rfl := Option.some.inj h
    first | rfl | (simp only [List.length_set, go_sem]; done)
  · refine br_f hb ?_
    obtain ⟨r_2, h1, h⟩ := bd h
    refine call_aft (w_szEntryS_c h1) ?_
    simp +decide only [go_sem, reduceIte, Nat.reduceAdd]
    rcases brc h with ⟨hb, h⟩ | ⟨hb, h⟩
    · refine br_t hb ?_
      obtain rfl := Option.some.inj h
      first | rfl | (simp only [List.length_set, go_sem]; done)
    · refine br_f hb ?_
      obtain ⟨r_3, h1, h⟩ := bd h
      refine call_aft (w_szEntryS_c h1) ?_
      simp +decide only [go_sem, reduceIte, Nat.reduceAdd]
      rcases brc h with ⟨hb, h⟩ | ⟨hb, h⟩
      · refine br_t hb ?_
        obtain rfl := Option.some.inj h
        first | rfl | (simp only [List.length_set, go_sem]; done)
      · refine br_f hb ?_
        obtain rfl := Option.some.inj h
        first | rfl | (simp only [List.length_set, go_sem]; done)
noncomputable def w_toEntry (a : Entry) : Option (Entry) :=
  some a
theorem w_toEntry_c {a : Entry} {r : Entry} (h : w_toEntry a = some r) : Call tab ow 58 [.agg [I a.Row, I a.Col, I a.Value]] [] = some (.agg [I r.Row, I r.Col, I r.Value], []) := by
  rw [run_w_toEntry]
  unfold w_toEntry at h
  simp +decide only [b_w_toEntry, go_sem, reduceIte, Nat.reduceAdd]
  obtain rfl := Option.some.inj h
  first | rfl | (simp only [List.length_set, go_sem]; done)
section
theorem w_toEntryS_k0 : ∀ k, repR 2002 k [I (0 : Int), I (0 : Int), I (0 : Int)] = rws eEntry (List.replicate k (Entry.mk (0 : Int) (0 : Int) (0 : Int))) := fun _ => repT eEntry (Entry.mk (0 : Int) (0 : Int) (0 : Int)) _ _
attribute [local go_sem] w_toEntryS_k0
noncomputable def w_toEntryS_1_s (a2 : List Entry) : (List Entry) × Int → Option (((List Entry) × Int) ⊕ (((List Entry) × Int × Bool)))
  | (l, i) =>
    br (decide (i < ((a2.length : Nat) : Int))) (
      (atL a2 i).bind fun x =>
      (w_toEntry x).bind fun r_ =>
      br (decide (0 ≤ i)) (
        br (decide (i.toNat < l.length)) (
          (l[i.toNat]?).bind fun x2 =>
          some (.inl ((l.set i.toNat r_), (IntKind.wrap .i64 (i + (1 : Int)))))) (
          none)) (
        none)) (
      some (.inr (l, i, decide (i < ((a2.length : Nat) : Int)))))
theorem w_toEntryS_1_l {a2 : List Entry} {l : List Entry} {i : Int} {e : ((List Entry) × Int × Bool)} (h : Loop (w_toEntryS_1_s a2) (l, i) = some e) : LoopX tab ow (.close [6006]) b_w_toEntryS_3 ⟨[(0, sl eEntry a2), (3, .sl 2002 0 l.length), (4, I i)], [(2002, ⟨3, false, rws eEntry l⟩)]⟩ = some ((.exit 0, ⟨[(0, sl eEntry a2), (3, .sl 2002 0 e.1.length), (4, I e.2.1), (11, B e.2.2)], [(2002, ⟨3, false, rws eEntry e.1⟩)]⟩)) := by
  refine loop_runG (S := (List Entry) × Int) (eS := fun s => ⟨[(0, sl eEntry a2), (3, .sl 2002 0 s.1.length), (4, I s.2)], [(2002, ⟨3, false, rws eEntry s.1⟩)]⟩) (eE := fun e => (.exit 0, ⟨[(0, sl eEntry a2), (3, .sl 2002 0 e.1.length), (4, I e.2.1), (11, B e.2.2)], [(2002, ⟨3, false, rws eEntry e.1⟩)]⟩)) (fun e => ?_) (fun s o h => ?_) h
  · simp [alt]
  · obtain ⟨l, i⟩ := s
    simp only [w_toEntryS_1_s] at h
    show Rn tab ow _ _ ⟨[(0, sl eEntry a2), (3, .sl 2002 0 l.length), (4, I i)], [(2002, ⟨3, false, rws eEntry l⟩)]⟩ = _
    simp +decide only [b_w_toEntryS_3, go_sem, reduceIte, Nat.reduceAdd]
    rcases brc h with ⟨hb, h⟩ | ⟨hb, h⟩
    · refine br_t hb ?_
      obtain ⟨x, h1, h⟩ := bd h
      refine bind_some h1 ?_
      obtain ⟨r_, h1, h⟩ := bd h
      refine call_aft (w_toEntry_c h1) ?_
      simp +decide only [go_sem, reduceIte, Nat.reduceAdd]
      obtain ⟨hb, h⟩ := brg h
      refine br_t hb ?_
      obtain ⟨hb, h⟩ := brg h
      refine br_t hb ?_
      obtain ⟨x2, h1, h⟩ := bd h
      refine bind_some h1 ?_
      obtain rfl := Option.some.inj h
      first | rfl | (simp only [List.length_set, go_sem]; done)
    · refine br_f hb ?_
      obtain rfl := Option.some.inj h
      first | rfl | (simp only [List.length_set, go_sem]; done)
noncomputable def w_toEntryS (a : (List Entry)) : Option ((List Entry)) :=
  br (mkOK ((a.length : Nat) : Int) ((a.length : Nat) : Int) 24) (
    (Loop (w_toEntryS_1_s a) ((List.replicate (((a.length : Nat) : Int).toNat) (Entry.mk (0 : Int) (0 : Int) (0 : Int))), (0 : Int))).bind fun e_ =>
    some e_.1) (
    none)
theorem w_toEntryS_c {a : (List Entry)} {r : (List Entry)} (h : w_toEntryS a = some r) : Call tab ow 43 [sl eEntry a] [] = some (sl eEntry r, []) := by
  rw [run_w_toEntryS]
  unfold w_toEntryS at h
  simp +decide only [b_w_toEntryS, go_sem, reduceIte, Nat.reduceAdd]
  obtain ⟨hb, h⟩ := brg h
  refine br_t hb ?_
  obtain ⟨e_, h1, h⟩ := bd h
  refine goR_of (w_toEntryS_1_l h1) ?_
  simp +decide only [go_sem, reduceIte, Nat.reduceAdd]
  obtain rfl := Option.some.inj h
  first | rfl | (simp only [List.length_set, go_sem]; done)
end
end Go.AI.Fn
