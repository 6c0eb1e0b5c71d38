/- Walks through the program, with open values. -/
import Derived.Test.YtmhgflhndmcdmaaGreatFx0
import Derived.Test.YtmhgflhndmcdmaaGreatTb2
set_option linter.unusedVariables false
set_option linter.unusedSimpArgs false
set_option maxRecDepth 100000
set_option maxHeartbeats 1000000
namespace Go.AI.Fn
section
theorem i_byteReader_opening_k0 : mkR 5004 [] = rws eS [] := rfl
attribute [local go_sem] i_byteReader_opening_k0
theorem i_byteReader_opening_k1 : mkR 15000 [] = rws eS [] := rfl
attribute [local go_sem] i_byteReader_opening_k1
theorem i_byteReader_opening_k2 : mkR 18003 [] = rws eS [] := rfl
attribute [local go_sem] i_byteReader_opening_k2
theorem i_byteReader_opening_k3 : mkR 20003 [] = rws (eL eS) [] := rfl
attribute [local go_sem] i_byteReader_opening_k3
theorem i_byteReader_opening_k4 : mkR 22003 [] = rws eQuery [] := rfl
attribute [local go_sem] i_byteReader_opening_k4
noncomputable def i_byteReader_opening_1_s (t : Int) (t2 : Int) (c2 : Int) (c3 : Int) (c4 : Int) (c5 : Int) (c6 : Int) (c7 : Int) (c8 : List (List Ext)) (c9 : Int) (c10 : Int) (c11 : Int) : (List (List UInt8)) × Int × (List UInt8) → Option (((List (List UInt8)) × Int × (List UInt8)) ⊕ (((List (List UInt8)) × Int × Bool × (List UInt8))))
  | (l, t3, c) =>
    br (decide (t3 < t2)) (
      (i_byteReader_hash (byteReader.mk c)).bind fun r_2 =>
      br (fits ((l ++ ([r_2.1] : List (List UInt8))).length) 16) (
        some (.inl ((l ++ ([r_2.1] : List (List UInt8))), (IntKind.wrap .i64 (t3 + (1 : Int))), r_2.2.b))) (
        none)) (
      some (.inr (l, t3, decide (t3 < t2), c)))
@[reducible] def i_byteReader_opening_1_S (t : Int) (t2 : Int) (c2 : Int) (c3 : Int) (c4 : Int) (c5 : Int) (c6 : Int) (c7 : Int) (c8 : List (List Ext)) (c9 : Int) (c10 : Int) (c11 : Int) (s : (List (List UInt8)) × Int × (List UInt8)) : St := ⟨[(0, .ptr 0 0 0 1), (1, I t), (5, .ptr 1000 0 0 1), (6, .ptr 1001 0 0 1), (7, .ptr 2004 0 0 1), (16, I t2), (17, I s.2.1)], [(0, ⟨1, true, [[sl eU8 s.2.2]]⟩), (1000, ⟨3, true, [[I c2, I c3, I c4]]⟩), (1001, ⟨6, true, [[.lit (.slice none 0 0), .lit (.slice none 0 0), I c5, I c6, I c7, .lit (.slice none 0 0)]]⟩), (2004, ⟨6, true, [[sl (eL eExt) c8, .sl 4900 0 s.1.length, I c9, I c10, I c11, .lit (.slice none 0 0)]]⟩), (4900, ⟨1, false, rws eS s.1⟩)]⟩
@[reducible] def i_byteReader_opening_1_E (t : Int) (t2 : Int) (c2 : Int) (c3 : Int) (c4 : Int) (c5 : Int) (c6 : Int) (c7 : Int) (c8 : List (List Ext)) (c9 : Int) (c10 : Int) (c11 : Int) : ((List (List UInt8)) × Int × Bool × (List UInt8)) → AExit × St := fun e => (.exit 0, ⟨[(0, .ptr 0 0 0 1), (1, I t), (5, .ptr 1000 0 0 1), (6, .ptr 1001 0 0 1), (7, .ptr 2004 0 0 1), (16, I t2), (17, I e.2.1), (18, B e.2.2.1)], [(0, ⟨1, true, [[sl eU8 e.2.2.2]]⟩), (1000, ⟨3, true, [[I c2, I c3, I c4]]⟩), (1001, ⟨6, true, [[.lit (.slice none 0 0), .lit (.slice none 0 0), I c5, I c6, I c7, .lit (.slice none 0 0)]]⟩), (2004, ⟨6, true, [[sl (eL eExt) c8, .sl 4900 0 e.1.length, I c9, I c10, I c11, .lit (.slice none 0 0)]]⟩), (4900, ⟨1, false, rws eS e.1⟩)]⟩)
theorem i_byteReader_opening_1_l {t t2 c2 c3 c4 c5 c6 c7 c8 c9 c10 c11 s e} (h : Loop (i_byteReader_opening_1_s t t2 c2 c3 c4 c5 c6 c7 c8 c9 c10 c11) s = some e) : LoopX tab ow (.both (.close [5003,5004,5005]) (.nilCell 2004 1 4900 1)) b_i_byteReader_opening_3 (i_byteReader_opening_1_S t t2 c2 c3 c4 c5 c6 c7 c8 c9 c10 c11 s) = some (i_byteReader_opening_1_E t t2 c2 c3 c4 c5 c6 c7 c8 c9 c10 c11 e) := by
  refine lrG (fun s o h => ?_) h
  obtain ⟨_, _, _⟩ := s
  simp only [i_byteReader_opening_1_s] at h
  simp +decide only [i_byteReader_opening_1_S, i_byteReader_opening_1_E, b_i_byteReader_opening_3, go_sem, reduceIte, Nat.reduceAdd]
  have d1 := @i_byteReader_hash_c
  all_goals exact go
noncomputable def i_byteReader_opening_4_s (l7 : List (List UInt8)) (l8 : List Query) (l9 : List (List (List UInt8))) (t12 : Int) (t13 : Int) (t14 : Int) (t15 : Int) (t16 : Int) (t17 : Int) (c36 : Int) (c37 : Int) (c38 : Int) (c39 : Int) (c40 : Int) (c41 : Int) (c42 : List (List Ext)) (c43 : Int) (c44 : Int) (c45 : Int) (c46 : List Ext) : (List (List UInt8)) × Int × (List UInt8) → Option (((List (List UInt8)) × Int × (List UInt8)) ⊕ (((List (List UInt8)) × Int × Bool × (List UInt8))))
  | (l10, t18, c35) =>
    br (decide (t18 < t17)) (
      (i_byteReader_hash (byteReader.mk c35)).bind fun r_7 =>
      br (fits ((l10 ++ ([r_7.1] : List (List UInt8))).length) 16) (
        some (.inl ((l10 ++ ([r_7.1] : List (List UInt8))), (IntKind.wrap .i64 (t18 + (1 : Int))), r_7.2.b))) (
        none)) (
      some (.inr (l10, t18, decide (t18 < t17), c35)))
@[reducible] def i_byteReader_opening_4_S (l7 : List (List UInt8)) (l8 : List Query) (l9 : List (List (List UInt8))) (t12 : Int) (t13 : Int) (t14 : Int) (t15 : Int) (t16 : Int) (t17 : Int) (c36 : Int) (c37 : Int) (c38 : Int) (c39 : Int) (c40 : Int) (c41 : Int) (c42 : List (List Ext)) (c43 : Int) (c44 : Int) (c45 : Int) (c46 : List Ext) (s : (List (List UInt8)) × Int × (List UInt8)) : St := ⟨[(0, .ptr 0 0 0 1), (1, I t12), (5, .ptr 1000 0 0 1), (6, .ptr 1001 0 0 1), (7, .ptr 2004 0 0 1), (8, .ptr 11005 0 0 1), (10, .sl 15000 0 s.1.length), (37, I t13), (38, I t14), (45, I t15), (46, I t16), (56, I t17), (57, I s.2.1)], [(0, ⟨1, true, [[sl eU8 s.2.2]]⟩), (1000, ⟨3, true, [[I c36, I c37, I c38]]⟩), (1001, ⟨6, true, [[.lit (.slice none 0 0), .lit (.slice none 0 0), I c39, I c40, I c41, .lit (.slice none 0 0)]]⟩), (2004, ⟨6, true, [[sl (eL eExt) c42, .sl 4900 0 l7.length, I c43, I c44, I c45, .sl 10900 0 l8.length]]⟩), (4900, ⟨1, false, rws eS l7⟩), (10900, ⟨2, false, rws eQuery l8⟩), (11005, ⟨2, true, [[sl eExt c46, .sl 13900 0 l9.length]]⟩), (13900, ⟨1, false, rws (eL eS) l9⟩), (15000, ⟨1, false, rws eS s.1⟩)]⟩
@[reducible] def i_byteReader_opening_4_E (l7 : List (List UInt8)) (l8 : List Query) (l9 : List (List (List UInt8))) (t12 : Int) (t13 : Int) (t14 : Int) (t15 : Int) (t16 : Int) (t17 : Int) (c36 : Int) (c37 : Int) (c38 : Int) (c39 : Int) (c40 : Int) (c41 : Int) (c42 : List (List Ext)) (c43 : Int) (c44 : Int) (c45 : Int) (c46 : List Ext) : ((List (List UInt8)) × Int × Bool × (List UInt8)) → AExit × St := fun e => (.exit 6, ⟨[(0, .ptr 0 0 0 1), (1, I t12), (5, .ptr 1000 0 0 1), (6, .ptr 1001 0 0 1), (7, .ptr 2004 0 0 1), (8, .ptr 11005 0 0 1), (10, .sl 15000 0 e.1.length), (37, I t13), (38, I t14), (45, I t15), (46, I t16), (56, I t17), (57, I e.2.1), (58, B e.2.2.1)], [(0, ⟨1, true, [[sl eU8 e.2.2.2]]⟩), (1000, ⟨3, true, [[I c36, I c37, I c38]]⟩), (1001, ⟨6, true, [[.lit (.slice none 0 0), .lit (.slice none 0 0), I c39, I c40, I c41, .lit (.slice none 0 0)]]⟩), (2004, ⟨6, true, [[sl (eL eExt) c42, .sl 4900 0 l7.length, I c43, I c44, I c45, .sl 10900 0 l8.length]]⟩), (4900, ⟨1, false, rws eS l7⟩), (10900, ⟨2, false, rws eQuery l8⟩), (11005, ⟨2, true, [[sl eExt c46, .sl 13900 0 l9.length]]⟩), (13900, ⟨1, false, rws (eL eS) l9⟩), (15000, ⟨1, false, rws eS e.1⟩)]⟩)
theorem i_byteReader_opening_4_l {l7 l8 l9 t12 t13 t14 t15 t16 t17 c36 c37 c38 c39 c40 c41 c42 c43 c44 c45 c46 s e} (h : Loop (i_byteReader_opening_4_s l7 l8 l9 t12 t13 t14 t15 t16 t17 c36 c37 c38 c39 c40 c41 c42 c43 c44 c45 c46) s = some e) : LoopX tab ow (.close [18002,18003,18004]) b_i_byteReader_opening_16 (i_byteReader_opening_4_S l7 l8 l9 t12 t13 t14 t15 t16 t17 c36 c37 c38 c39 c40 c41 c42 c43 c44 c45 c46 s) = some (i_byteReader_opening_4_E l7 l8 l9 t12 t13 t14 t15 t16 t17 c36 c37 c38 c39 c40 c41 c42 c43 c44 c45 c46 e) := by
  refine lrG (fun s o h => ?_) h
  obtain ⟨_, _, _⟩ := s
  simp only [i_byteReader_opening_4_s] at h
  simp +decide only [i_byteReader_opening_4_S, i_byteReader_opening_4_E, b_i_byteReader_opening_16, go_sem, reduceIte, Nat.reduceAdd]
  have d1 := @i_byteReader_hash_c
  all_goals exact go
noncomputable def i_byteReader_opening_3_s (l4 : List (List UInt8)) (l5 : List Query) (t7 : Int) (t8 : Int) (t9 : Int) (t10 : Int) (c24 : Int) (c25 : Int) (c26 : Int) (c27 : Int) (c28 : Int) (c29 : Int) (c30 : List (List Ext)) (c31 : Int) (c32 : Int) (c33 : Int) (c34 : List Ext) : (List (List (List UInt8))) × Int × (List UInt8) → Option (((List (List (List UInt8))) × Int × (List UInt8)) ⊕ (((List (List (List UInt8))) × Int × Bool × (List UInt8))))
  | (l6, t11, c23) =>
    br (decide (t11 < t10)) (
      (Loop (i_byteReader_opening_4_s l4 l5 l6 t7 t8 t9 t10 t11 (IntKind.wrap .i64 ((IntKind.wrap .i64 ((IntKind.wrap .i64 (t7 + c24)) - (1 : Int))) - t11)) c24 c25 c26 c27 c28 c29 c30 c31 c32 c33 c34) (([] : List (List UInt8)), (0 : Int), c23)).bind fun e_2 =>
      br (fits ((l6 ++ ([e_2.1] : List (List (List UInt8)))).length) 24) (
        some (.inl ((l6 ++ ([e_2.1] : List (List (List UInt8)))), (IntKind.wrap .i64 (t11 + (1 : Int))), e_2.2.2.2))) (
        none)) (
      some (.inr (l6, t11, decide (t11 < t10), c23)))
@[reducible] def i_byteReader_opening_3_S (l4 : List (List UInt8)) (l5 : List Query) (t7 : Int) (t8 : Int) (t9 : Int) (t10 : Int) (c24 : Int) (c25 : Int) (c26 : Int) (c27 : Int) (c28 : Int) (c29 : Int) (c30 : List (List Ext)) (c31 : Int) (c32 : Int) (c33 : Int) (c34 : List Ext) (s : (List (List (List UInt8))) × Int × (List UInt8)) : St := ⟨[(0, .ptr 0 0 0 1), (1, I t7), (5, .ptr 1000 0 0 1), (6, .ptr 1001 0 0 1), (7, .ptr 2004 0 0 1), (8, .ptr 11005 0 0 1), (37, I t8), (38, I t9), (45, I t10), (46, I s.2.1)], [(0, ⟨1, true, [[sl eU8 s.2.2]]⟩), (1000, ⟨3, true, [[I c24, I c25, I c26]]⟩), (1001, ⟨6, true, [[.lit (.slice none 0 0), .lit (.slice none 0 0), I c27, I c28, I c29, .lit (.slice none 0 0)]]⟩), (2004, ⟨6, true, [[sl (eL eExt) c30, .sl 4900 0 l4.length, I c31, I c32, I c33, .sl 10900 0 l5.length]]⟩), (4900, ⟨1, false, rws eS l4⟩), (10900, ⟨2, false, rws eQuery l5⟩), (11005, ⟨2, true, [[sl eExt c34, .sl 13900 0 s.1.length]]⟩), (13900, ⟨1, false, rws (eL eS) s.1⟩)]⟩
@[reducible] def i_byteReader_opening_3_E (l4 : List (List UInt8)) (l5 : List Query) (t7 : Int) (t8 : Int) (t9 : Int) (t10 : Int) (c24 : Int) (c25 : Int) (c26 : Int) (c27 : Int) (c28 : Int) (c29 : Int) (c30 : List (List Ext)) (c31 : Int) (c32 : Int) (c33 : Int) (c34 : List Ext) : ((List (List (List UInt8))) × Int × Bool × (List UInt8)) → AExit × St := fun e => (.exit 4, ⟨[(0, .ptr 0 0 0 1), (1, I t7), (5, .ptr 1000 0 0 1), (6, .ptr 1001 0 0 1), (7, .ptr 2004 0 0 1), (8, .ptr 11005 0 0 1), (37, I t8), (38, I t9), (45, I t10), (46, I e.2.1), (47, B e.2.2.1)], [(0, ⟨1, true, [[sl eU8 e.2.2.2]]⟩), (1000, ⟨3, true, [[I c24, I c25, I c26]]⟩), (1001, ⟨6, true, [[.lit (.slice none 0 0), .lit (.slice none 0 0), I c27, I c28, I c29, .lit (.slice none 0 0)]]⟩), (2004, ⟨6, true, [[sl (eL eExt) c30, .sl 4900 0 l4.length, I c31, I c32, I c33, .sl 10900 0 l5.length]]⟩), (4900, ⟨1, false, rws eS l4⟩), (10900, ⟨2, false, rws eQuery l5⟩), (11005, ⟨2, true, [[sl eExt c34, .sl 13900 0 e.1.length]]⟩), (13900, ⟨1, false, rws (eL eS) e.1⟩)]⟩)
theorem i_byteReader_opening_3_l {l4 l5 t7 t8 t9 t10 c24 c25 c26 c27 c28 c29 c30 c31 c32 c33 c34 s e} (h : Loop (i_byteReader_opening_3_s l4 l5 t7 t8 t9 t10 c24 c25 c26 c27 c28 c29 c30 c31 c32 c33 c34) s = some e) : LoopX tab ow (.both (.close [15000,18002,18003,18004,20003,20004]) (.nilCell 11005 1 13900 1)) b_i_byteReader_opening_12 (i_byteReader_opening_3_S l4 l5 t7 t8 t9 t10 c24 c25 c26 c27 c28 c29 c30 c31 c32 c33 c34 s) = some (i_byteReader_opening_3_E l4 l5 t7 t8 t9 t10 c24 c25 c26 c27 c28 c29 c30 c31 c32 c33 c34 e) := by
  refine lrG (fun s o h => ?_) h
  obtain ⟨_, _, _⟩ := s
  simp only [i_byteReader_opening_3_s] at h
  simp +decide only [i_byteReader_opening_3_S, i_byteReader_opening_3_E, b_i_byteReader_opening_12, go_sem, reduceIte, Nat.reduceAdd]
  have d1 := @i_byteReader_opening_4_l
  all_goals exact go
noncomputable def i_byteReader_opening_2_s (l2 : List (List UInt8)) (t4 : Int) (t5 : Int) (c13 : Int) (c14 : Int) (c15 : Int) (c16 : Int) (c17 : Int) (c18 : Int) (c19 : List (List Ext)) (c20 : Int) (c21 : Int) (c22 : Int) : (List Query) × Int × (List UInt8) → Option (((List Query) × Int × (List UInt8)) ⊕ (((List Query) × Int × Bool × (List UInt8))))
  | (l3, t6, c12) =>
    br (decide (t6 < t5)) (
      (i_byteReader_exts (IntKind.wrap .i64 ((2 : Int) * t4)) (byteReader.mk c12)).bind fun r_6 =>
      (Loop (i_byteReader_opening_3_s l2 l3 t4 t5 t6 t4 c13 c14 c15 c16 c17 c18 c19 c20 c21 c22 r_6.1) (([] : List (List (List UInt8))), (0 : Int), r_6.2.b)).bind fun e_3 =>
      br (fits ((l3 ++ ([(Query.mk r_6.1 e_3.1)] : List Query)).length) 48) (
        some (.inl ((l3 ++ ([(Query.mk r_6.1 e_3.1)] : List Query)), (IntKind.wrap .i64 (t6 + (1 : Int))), e_3.2.2.2))) (
        none)) (
      some (.inr (l3, t6, decide (t6 < t5), c12)))
@[reducible] def i_byteReader_opening_2_S (l2 : List (List UInt8)) (t4 : Int) (t5 : Int) (c13 : Int) (c14 : Int) (c15 : Int) (c16 : Int) (c17 : Int) (c18 : Int) (c19 : List (List Ext)) (c20 : Int) (c21 : Int) (c22 : Int) (s : (List Query) × Int × (List UInt8)) : St := ⟨[(0, .ptr 0 0 0 1), (1, I t4), (5, .ptr 1000 0 0 1), (6, .ptr 1001 0 0 1), (7, .ptr 2004 0 0 1), (37, I t5), (38, I s.2.1)], [(0, ⟨1, true, [[sl eU8 s.2.2]]⟩), (1000, ⟨3, true, [[I c13, I c14, I c15]]⟩), (1001, ⟨6, true, [[.lit (.slice none 0 0), .lit (.slice none 0 0), I c16, I c17, I c18, .lit (.slice none 0 0)]]⟩), (2004, ⟨6, true, [[sl (eL eExt) c19, .sl 4900 0 l2.length, I c20, I c21, I c22, .sl 10900 0 s.1.length]]⟩), (4900, ⟨1, false, rws eS l2⟩), (10900, ⟨2, false, rws eQuery s.1⟩)]⟩
@[reducible] def i_byteReader_opening_2_E (l2 : List (List UInt8)) (t4 : Int) (t5 : Int) (c13 : Int) (c14 : Int) (c15 : Int) (c16 : Int) (c17 : Int) (c18 : Int) (c19 : List (List Ext)) (c20 : Int) (c21 : Int) (c22 : Int) : ((List Query) × Int × Bool × (List UInt8)) → AExit × St := fun e => (.exit 2, ⟨[(0, .ptr 0 0 0 1), (1, I t4), (5, .ptr 1000 0 0 1), (6, .ptr 1001 0 0 1), (7, .ptr 2004 0 0 1), (37, I t5), (38, I e.2.1), (39, B e.2.2.1)], [(0, ⟨1, true, [[sl eU8 e.2.2.2]]⟩), (1000, ⟨3, true, [[I c13, I c14, I c15]]⟩), (1001, ⟨6, true, [[.lit (.slice none 0 0), .lit (.slice none 0 0), I c16, I c17, I c18, .lit (.slice none 0 0)]]⟩), (2004, ⟨6, true, [[sl (eL eExt) c19, .sl 4900 0 l2.length, I c20, I c21, I c22, .sl 10900 0 e.1.length]]⟩), (4900, ⟨1, false, rws eS l2⟩), (10900, ⟨2, false, rws eQuery e.1⟩)]⟩)
theorem i_byteReader_opening_2_l {l2 t4 t5 c13 c14 c15 c16 c17 c18 c19 c20 c21 c22 s e} (h : Loop (i_byteReader_opening_2_s l2 t4 t5 c13 c14 c15 c16 c17 c18 c19 c20 c21 c22) s = some e) : LoopX tab ow (.both (.close [11003,11005,15000,18002,18003,18004,20003,20004,22003,22004,13900]) (.nilCell 2004 5 10900 2)) b_i_byteReader_opening_9 (i_byteReader_opening_2_S l2 t4 t5 c13 c14 c15 c16 c17 c18 c19 c20 c21 c22 s) = some (i_byteReader_opening_2_E l2 t4 t5 c13 c14 c15 c16 c17 c18 c19 c20 c21 c22 e) := by
  refine lrG (fun s o h => ?_) h
  obtain ⟨_, _, _⟩ := s
  simp only [i_byteReader_opening_2_s] at h
  simp +decide only [i_byteReader_opening_2_S, i_byteReader_opening_2_E, b_i_byteReader_opening_9, go_sem, reduceIte, Nat.reduceAdd]
  have d1 := @i_byteReader_exts_c
  have d2 := @i_byteReader_opening_3_l
  all_goals exact go
noncomputable def i_byteReader_opening (a : Int) (a2 : Setting) (m : byteReader) : Option (Opening × byteReader) :=
  (i_byteReader_rounds a (3 : Int) m).bind fun r_ =>
  (Loop (i_byteReader_opening_1_s a (IntKind.wrap .i64 (a - (1 : Int))) a2.Rate a2.Queries a2.Grind (0 : Int) (0 : Int) (0 : Int) r_.1 (0 : Int) (0 : Int) (0 : Int)) (([] : List (List UInt8)), (0 : Int), r_.2.b)).bind fun e_ =>
  (i_byteReader_exts (1 : Int) (byteReader.mk e_.2.2.2)).bind fun r_3 =>
  (atL r_3.1 (0 : Int)).bind fun x =>
  (i_byteReader_take (4 : Int) r_3.2).bind fun r_4 =>
  (i_number r_4.1).bind fun r_5 =>
  (Loop (i_byteReader_opening_2_s e_.1 a a2.Queries a2.Rate a2.Queries a2.Grind (0 : Int) (0 : Int) (0 : Int) r_.1 x.A x.B r_5) (([] : List Query), (0 : Int), r_4.2.b)).bind fun e_4 =>
  some ((Opening.mk r_.1 e_.1 x r_5 e_4.1), (byteReader.mk e_4.2.2.2))
theorem i_byteReader_opening_c {a a2 m r} (h : i_byteReader_opening a a2 m = some r) : Call tab ow 123 [.ptr 0 0 0 1, I a, .agg [I a2.Rate, I a2.Queries, I a2.Grind]] [⟨1, true, [[sl eU8 m.b]]⟩] = some (.agg [sl (eL eExt) r.1.Rounds, sl eS r.1.Roots, I r.1.Last.A, I r.1.Last.B, I r.1.Nonce, sl eQuery r.1.Queries], [⟨1, true, [[sl eU8 r.2.b]]⟩]) := by
  rw [Call_run (af := a_i_byteReader_opening) rfl]
  unfold i_byteReader_opening at h
  simp +decide only [a_i_byteReader_opening, b_i_byteReader_opening, go_sem, reduceIte, Nat.reduceAdd]
  have d1 := @i_byteReader_rounds_c
  have d2 := @i_byteReader_opening_1_l
  have d3 := @i_byteReader_exts_c
  have d4 := @i_byteReader_take_c
  have d5 := @i_number_c
  have d6 := @i_byteReader_opening_2_l
  all_goals exact go
end
noncomputable def i_ReadOpening (b : (List UInt8)) (vars : Int) (t : Setting) : Option (Opening × Int) :=
  br (decide (((b.length : Nat) : Int) > (65536 : Int))) (
    some ((Opening.mk ([] : List (List Ext)) ([] : List (List UInt8)) (Ext.mk (0 : Int) (0 : Int)) (0 : Int) ([] : List Query)), (2 : Int))) (
    (i_openingCode vars t).bind fun r_ =>
    br (r_ != (0 : Int)) (
      some ((Opening.mk ([] : List (List Ext)) ([] : List (List UInt8)) (Ext.mk (0 : Int) (0 : Int)) (0 : Int) ([] : List Query)), r_)) (
      (i_openingSize vars t).bind fun r_2 =>
      br (((b.length : Nat) : Int) != r_2) (
        some ((Opening.mk ([] : List (List Ext)) ([] : List (List UInt8)) (Ext.mk (0 : Int) (0 : Int)) (0 : Int) ([] : List Query)), (3 : Int))) (
        (i_byteReader_opening vars t (byteReader.mk b)).bind fun r_3 =>
        (i_OpeningOK r_3.1 vars t).bind fun r_4 =>
        br (!r_4) (
          some ((Opening.mk ([] : List (List Ext)) ([] : List (List UInt8)) (Ext.mk (0 : Int) (0 : Int)) (0 : Int) ([] : List Query)), (3 : Int))) (
          some (r_3.1, (0 : Int))))))
theorem i_ReadOpening_c {b vars t r} (h : i_ReadOpening b vars t = some r) : Call tab ow 39 [sl eU8 b, I vars, .agg [I t.Rate, I t.Queries, I t.Grind]] [] = some (.tup [.agg [sl (eL eExt) r.1.Rounds, sl eS r.1.Roots, I r.1.Last.A, I r.1.Last.B, I r.1.Nonce, sl eQuery r.1.Queries], I r.2], []) := by
  rw [Call_run (af := a_i_ReadOpening) rfl]
  unfold i_ReadOpening at h
  simp +decide only [a_i_ReadOpening, b_i_ReadOpening, go_sem, reduceIte, Nat.reduceAdd]
  have d1 := @i_openingCode_c
  have d2 := @i_openingSize_c
  have d3 := @i_byteReader_opening_c
  have d4 := @i_OpeningOK_c
  all_goals exact go
noncomputable def w_sameTexts_1_s (a2 : List (List UInt8)) (b2 : List (List UInt8)) : Int → Option ((Int) ⊕ (Unit ⊕ (Int × Bool)))
  | i =>
    br (decide (i < ((a2.length : Nat) : Int))) (
      (atL a2 i).bind fun x =>
      (atL b2 i).bind fun x2 =>
      br (x != x2) (
        some (.inr (.inl ()))) (
        some (.inl (IntKind.wrap .i64 (i + (1 : Int)))))) (
      some (.inr (.inr (i, decide (i < ((a2.length : Nat) : Int))))))
@[reducible] def w_sameTexts_1_S (a2 : List (List UInt8)) (b2 : List (List UInt8)) (s : Int) : St := ⟨[(0, sl eS a2), (1, sl eS b2), (5, I s)], []⟩
@[reducible] def w_sameTexts_1_E (a2 : List (List UInt8)) (b2 : List (List UInt8)) : (Unit ⊕ (Int × Bool)) → AExit × St := alt (fun e => ((.ret, ⟨[(4, B false)], []⟩) : AExit × St)) (fun e => (.exit 0, ⟨[(0, sl eS a2), (1, sl eS b2), (5, I e.1), (14, B e.2)], []⟩))
theorem w_sameTexts_1_l {a2 b2 s e} (h : Loop (w_sameTexts_1_s a2 b2) s = some e) : LoopX tab ow (.close []) b_w_sameTexts_4 (w_sameTexts_1_S a2 b2 s) = some (w_sameTexts_1_E a2 b2 e) := by
  refine lrG (fun s o h => ?_) h
  simp only [w_sameTexts_1_s] at h
  simp +decide only [w_sameTexts_1_S, w_sameTexts_1_E, b_w_sameTexts_4, go_sem, reduceIte, Nat.reduceAdd]
  all_goals exact go
noncomputable def w_sameTexts (a : (List (List UInt8))) (b : (List (List UInt8))) : Option (Bool) :=
  br (((a.length : Nat) : Int) != ((b.length : Nat) : Int)) (
    some false) (
    (Loop (w_sameTexts_1_s a b) (0 : Int)).bind (alt (fun e_2 =>
      some false) (fun e_3 =>
      some true)))
theorem w_sameTexts_c {a b r} (h : w_sameTexts a b = some r) : Call tab ow 124 [sl eS a, sl eS b] [] = some (B r, []) := by
  rw [Call_run (af := a_w_sameTexts) rfl]
  unfold w_sameTexts at h
  simp +decide only [a_w_sameTexts, b_w_sameTexts, go_sem, reduceIte, Nat.reduceAdd]
  have d1 := @w_sameTexts_1_l
  all_goals exact go
noncomputable def w_sameOpening_2_s (t2 : Int) (c13 : List (List Ext)) (c14 : List (List UInt8)) (c15 : Int) (c16 : Int) (c17 : Int) (c18 : List Query) (c19 : List (List Ext)) (c20 : List (List UInt8)) (c21 : Int) (c22 : Int) (c23 : Int) (c24 : List Query) (c25 : List Ext) (c26 : List (List (List UInt8))) (c27 : List Ext) (c28 : List (List (List UInt8))) : Int → Option ((Int) ⊕ (Unit ⊕ (Int × Bool)))
  | t3 =>
    br (decide (t3 < ((c26.length : Nat) : Int))) (
      (atL c26 t3).bind fun x3 =>
      (atL c28 t3).bind fun x4 =>
      (w_sameTexts x3 x4).bind fun r_4 =>
      br (!r_4) (
        some (.inr (.inl ()))) (
        some (.inl (IntKind.wrap .i64 (t3 + (1 : Int)))))) (
      some (.inr (.inr (t3, decide (t3 < ((c26.length : Nat) : Int))))))
@[reducible] def w_sameOpening_2_S (t2 : Int) (c13 : List (List Ext)) (c14 : List (List UInt8)) (c15 : Int) (c16 : Int) (c17 : Int) (c18 : List Query) (c19 : List (List Ext)) (c20 : List (List UInt8)) (c21 : Int) (c22 : Int) (c23 : Int) (c24 : List Query) (c25 : List Ext) (c26 : List (List (List UInt8))) (c27 : List Ext) (c28 : List (List (List UInt8))) (s : Int) : St := ⟨[(2, .ptr 1000 0 0 1), (3, .ptr 1001 0 0 1), (5, I t2), (6, .ptr 7005 0 0 1), (7, .ptr 8005 0 0 1), (8, I s)], [(1000, ⟨6, true, [[sl (eL eExt) c13, sl eS c14, I c15, I c16, I c17, sl eQuery c18]]⟩), (1001, ⟨6, true, [[sl (eL eExt) c19, sl eS c20, I c21, I c22, I c23, sl eQuery c24]]⟩), (7005, ⟨2, true, [[sl eExt c25, sl (eL eS) c26]]⟩), (8005, ⟨2, true, [[sl eExt c27, sl (eL eS) c28]]⟩)]⟩
@[reducible] def w_sameOpening_2_E (t2 : Int) (c13 : List (List Ext)) (c14 : List (List UInt8)) (c15 : Int) (c16 : Int) (c17 : Int) (c18 : List Query) (c19 : List (List Ext)) (c20 : List (List UInt8)) (c21 : Int) (c22 : Int) (c23 : Int) (c24 : List Query) (c25 : List Ext) (c26 : List (List (List UInt8))) (c27 : List Ext) (c28 : List (List (List UInt8))) : (Unit ⊕ (Int × Bool)) → AExit × St := alt (fun e => ((.ret, ⟨[(4, B false)], [(1000, ⟨6, true, [[sl (eL eExt) c13, sl eS c14, I c15, I c16, I c17, sl eQuery c18]]⟩), (1001, ⟨6, true, [[sl (eL eExt) c19, sl eS c20, I c21, I c22, I c23, sl eQuery c24]]⟩), (7005, ⟨2, true, [[sl eExt c25, sl (eL eS) c26]]⟩), (8005, ⟨2, true, [[sl eExt c27, sl (eL eS) c28]]⟩)]⟩) : AExit × St)) (fun e => (.exit 2, ⟨[(2, .ptr 1000 0 0 1), (3, .ptr 1001 0 0 1), (5, I t2), (6, .ptr 7005 0 0 1), (7, .ptr 8005 0 0 1), (8, I e.1), (82, B e.2)], [(1000, ⟨6, true, [[sl (eL eExt) c13, sl eS c14, I c15, I c16, I c17, sl eQuery c18]]⟩), (1001, ⟨6, true, [[sl (eL eExt) c19, sl eS c20, I c21, I c22, I c23, sl eQuery c24]]⟩), (7005, ⟨2, true, [[sl eExt c25, sl (eL eS) c26]]⟩), (8005, ⟨2, true, [[sl eExt c27, sl (eL eS) c28]]⟩)]⟩))
theorem w_sameOpening_2_l {t2 c13 c14 c15 c16 c17 c18 c19 c20 c21 c22 c23 c24 c25 c26 c27 c28 s e} (h : Loop (w_sameOpening_2_s t2 c13 c14 c15 c16 c17 c18 c19 c20 c21 c22 c23 c24 c25 c26 c27 c28) s = some e) : LoopX tab ow (.close [14010]) b_w_sameOpening_11 (w_sameOpening_2_S t2 c13 c14 c15 c16 c17 c18 c19 c20 c21 c22 c23 c24 c25 c26 c27 c28 s) = some (w_sameOpening_2_E t2 c13 c14 c15 c16 c17 c18 c19 c20 c21 c22 c23 c24 c25 c26 c27 c28 e) := by
  refine lrG (fun s o h => ?_) h
  simp only [w_sameOpening_2_s] at h
  simp +decide only [w_sameOpening_2_S, w_sameOpening_2_E, b_w_sameOpening_11, go_sem, reduceIte, Nat.reduceAdd]
  have d1 := @w_sameTexts_c
  all_goals exact go
noncomputable def w_sameOpening_1_s (c : List (List Ext)) (c2 : List (List UInt8)) (c3 : Int) (c4 : Int) (c5 : Int) (c6 : List Query) (c7 : List (List Ext)) (c8 : List (List UInt8)) (c9 : Int) (c10 : Int) (c11 : Int) (c12 : List Query) : Int → Option ((Int) ⊕ (((List Ext) × (List (List (List UInt8))) × (List Ext) × (List (List (List UInt8)))) ⊕ (Int × Bool)))
  | t =>
    br (decide (t < ((c6.length : Nat) : Int))) (
      (atL c6 t).bind fun x =>
      (atL c12 t).bind fun x2 =>
      (w_sameExts x.Pairs x2.Pairs).bind fun r_3 =>
      br (!r_3) (
        some (.inr (.inl (x.Pairs, x.Paths, x2.Pairs, x2.Paths)))) (
        br (((x.Paths.length : Nat) : Int) != ((x2.Paths.length : Nat) : Int)) (
          some (.inr (.inl (x.Pairs, x.Paths, x2.Pairs, x2.Paths)))) (
          (Loop (w_sameOpening_2_s t c c2 c3 c4 c5 c6 c7 c8 c9 c10 c11 c12 x.Pairs x.Paths x2.Pairs x2.Paths) (0 : Int)).bind (alt (fun e_2 =>
            some (.inr (.inl (x.Pairs, x.Paths, x2.Pairs, x2.Paths)))) (fun e_3 =>
            some (.inl (IntKind.wrap .i64 (t + (1 : Int))))))))) (
      some (.inr (.inr (t, decide (t < ((c6.length : Nat) : Int))))))
@[reducible] def w_sameOpening_1_S (c : List (List Ext)) (c2 : List (List UInt8)) (c3 : Int) (c4 : Int) (c5 : Int) (c6 : List Query) (c7 : List (List Ext)) (c8 : List (List UInt8)) (c9 : Int) (c10 : Int) (c11 : Int) (c12 : List Query) (s : Int) : St := ⟨[(2, .ptr 1000 0 0 1), (3, .ptr 1001 0 0 1), (5, I s)], [(1000, ⟨6, true, [[sl (eL eExt) c, sl eS c2, I c3, I c4, I c5, sl eQuery c6]]⟩), (1001, ⟨6, true, [[sl (eL eExt) c7, sl eS c8, I c9, I c10, I c11, sl eQuery c12]]⟩)]⟩
@[reducible] def w_sameOpening_1_E (c : List (List Ext)) (c2 : List (List UInt8)) (c3 : Int) (c4 : Int) (c5 : Int) (c6 : List Query) (c7 : List (List Ext)) (c8 : List (List UInt8)) (c9 : Int) (c10 : Int) (c11 : Int) (c12 : List Query) : (((List Ext) × (List (List (List UInt8))) × (List Ext) × (List (List (List UInt8)))) ⊕ (Int × Bool)) → AExit × St := alt (fun e => ((.ret, ⟨[(4, B false)], [(1000, ⟨6, true, [[sl (eL eExt) c, sl eS c2, I c3, I c4, I c5, sl eQuery c6]]⟩), (1001, ⟨6, true, [[sl (eL eExt) c7, sl eS c8, I c9, I c10, I c11, sl eQuery c12]]⟩), (7005, ⟨2, true, [[sl eExt e.1, sl (eL eS) e.2.1]]⟩), (8005, ⟨2, true, [[sl eExt e.2.2.1, sl (eL eS) e.2.2.2]]⟩)]⟩) : AExit × St)) (fun e => (.exit 0, ⟨[(2, .ptr 1000 0 0 1), (3, .ptr 1001 0 0 1), (5, I e.1), (50, B e.2)], [(1000, ⟨6, true, [[sl (eL eExt) c, sl eS c2, I c3, I c4, I c5, sl eQuery c6]]⟩), (1001, ⟨6, true, [[sl (eL eExt) c7, sl eS c8, I c9, I c10, I c11, sl eQuery c12]]⟩)]⟩))
theorem w_sameOpening_1_l {c c2 c3 c4 c5 c6 c7 c8 c9 c10 c11 c12 s e} (h : Loop (w_sameOpening_1_s c c2 c3 c4 c5 c6 c7 c8 c9 c10 c11 c12) s = some e) : LoopX tab ow (.close [7005,8005,9004,14010]) b_w_sameOpening_4 (w_sameOpening_1_S c c2 c3 c4 c5 c6 c7 c8 c9 c10 c11 c12 s) = some (w_sameOpening_1_E c c2 c3 c4 c5 c6 c7 c8 c9 c10 c11 c12 e) := by
  refine lrG (fun s o h => ?_) h
  simp only [w_sameOpening_1_s] at h
  simp +decide only [w_sameOpening_1_S, w_sameOpening_1_E, b_w_sameOpening_4, go_sem, reduceIte, Nat.reduceAdd]
  have d1 := @w_sameExts_c
  have d2 := @w_sameOpening_2_l
  all_goals exact go
noncomputable def w_sameOpening (ListtoArray : Opening) (a : Opening) : Option (Bool) :=
  (w_sameRounds ListtoArray.Rounds a.Rounds).bind fun r_ =>
  br (!r_) (
    some false) (
    (w_sameTexts ListtoArray.Roots a.Roots).bind fun r_2 =>
    br (!r_2) (
      some false) (
      br (ListtoArray.Last.A == a.Last.A) (
        br (ListtoArray.Last.B == a.Last.B) (
          br (ListtoArray.Nonce != a.Nonce) (
            some false) (
            br (((ListtoArray.Queries.length : Nat) : Int) != ((a.Queries.length : Nat) : Int)) (
              some false) (
              (Loop (w_sameOpening_1_s ListtoArray.Rounds ListtoArray.Roots ListtoArray.Last.A ListtoArray.Last.B ListtoArray.Nonce ListtoArray.Queries a.Rounds a.Roots a.Last.A a.Last.B a.Nonce a.Queries) (0 : Int)).bind (alt (fun e_5 =>
                some false) (fun e_6 =>
                some true))))) (
          some false)) (
        some false)))
theorem w_sameOpening_c {ListtoArray a r} (h : w_sameOpening ListtoArray a = some r) : Call tab ow 40 [.agg [sl (eL eExt) ListtoArray.Rounds, sl eS ListtoArray.Roots, I ListtoArray.Last.A, I ListtoArray.Last.B, I ListtoArray.Nonce, sl eQuery ListtoArray.Queries], .agg [sl (eL eExt) a.Rounds, sl eS a.Roots, I a.Last.A, I a.Last.B, I a.Nonce, sl eQuery a.Queries]] [] = some (B r, []) := by
  rw [Call_run (af := a_w_sameOpening) rfl]
  unfold w_sameOpening at h
  simp +decide only [a_w_sameOpening, b_w_sameOpening, go_sem, reduceIte, Nat.reduceAdd]
  have d1 := @w_sameRounds_c
  have d2 := @w_sameTexts_c
  have d3 := @w_sameOpening_1_l
  all_goals exact go
section
theorem w_FnOpeningBytes_k0 : mkR 16000 [] = rws eU8 [] := rfl
attribute [local go_sem] w_FnOpeningBytes_k0
theorem w_FnOpeningBytes_k1 : mkR 16003 [] = rws eU8 [] := rfl
attribute [local go_sem] w_FnOpeningBytes_k1
noncomputable def w_FnOpeningBytes (ListtoArray : (List UInt8)) (a : (List UInt8)) : Option (Bool) :=
  br (decide (((ListtoArray.length : Nat) : Int) > (1048576 : Int))) (
    some true) (
    br (decide (((a.length : Nat) : Int) > (1048576 : Int))) (
      some true) (
      (w_at a (0 : Int) (3 : Int)).bind fun r_ =>
      (s_SettingOf a).bind fun r_2 =>
      br (decide (0 ≤ (IntKind.wrap .u64 (IntKind.wrap .i64 ((1 : Int) + r_))))) (
        (s_ExtsOf ListtoArray (shl64 .i64 (1 : Int) (IntKind.wrap .u64 (IntKind.wrap .i64 ((1 : Int) + r_))))).bind fun r_3 =>
        (s_ExtsOf a (IntKind.wrap .i64 ((1 : Int) + r_))).bind fun r_4 =>
        (s_SourceOf ListtoArray).bind fun r_5 =>
        (s_OpenTable r_3 r_4 r_2 r_5).bind fun r_6 =>
        br (r_6.2.2 != (0 : Int)) (
          some (r_6.2.2 == (14 : Int))) (
          (i_OpeningBytes r_6.1 (IntKind.wrap .i64 ((1 : Int) + r_)) r_2).bind fun r_7 =>
          (s_OpeningBytes r_6.1 (IntKind.wrap .i64 ((1 : Int) + r_)) r_2).bind fun r_8 =>
          (i_OpeningSize (IntKind.wrap .i64 ((1 : Int) + r_)) r_2).bind fun r_9 =>
          (i_ReadOpening r_7.1 (IntKind.wrap .i64 ((1 : Int) + r_)) r_2).bind fun r_10 =>
          br (r_7.2 != (0 : Int)) (
            some false) (
            br (r_7.1 != r_8.1) (
              some false) (
              br (r_9.2 != (0 : Int)) (
                some false) (
                br (((r_7.1.length : Nat) : Int) != r_9.1) (
                  some false) (
                  br (r_10.2 != (0 : Int)) (
                    some false) (
                    (w_sameOpening r_10.1 r_6.1).bind fun r_11 =>
                    br (!r_11) (
                      some false) (
                      (w_at a (1 : Int) ((r_7.1.length : Nat) : Int)).bind fun r_12 =>
                      (subL r_7.1 (0 : Int) r_12).bind fun y =>
                      (i_ReadOpening y (IntKind.wrap .i64 ((1 : Int) + r_)) r_2).bind fun r_13 =>
                      br (fits ((([] : List UInt8) ++ r_7.1).length) 1) (
                        br (fits (((([] : List UInt8) ++ r_7.1) ++ ([(0 : UInt8)] : List UInt8)).length) 1) (
                          (i_ReadOpening ((([] : List UInt8) ++ r_7.1) ++ ([(0 : UInt8)] : List UInt8)) (IntKind.wrap .i64 ((1 : Int) + r_)) r_2).bind fun r_14 =>
                          br (r_13.2 == (3 : Int)) (
                            some (r_14.2 == (3 : Int))) (
                            some false)) (
                          none)) (
                        none))))))))) (
        none)))
theorem w_FnOpeningBytes_c {ListtoArray a r} (h : w_FnOpeningBytes ListtoArray a = some r) : Call tab ow 6 [sl eU8 ListtoArray, sl eU8 a] [] = some (B r, []) := by
  rw [Call_run (af := a_w_FnOpeningBytes) rfl]
  unfold w_FnOpeningBytes at h
  simp +decide only [a_w_FnOpeningBytes, b_w_FnOpeningBytes, go_sem, reduceIte, Nat.reduceAdd]
  have d1 := @w_at_c
  have d2 := @s_SettingOf_c
  have d3 := @s_ExtsOf_c
  have d4 := @s_SourceOf_c
  have d5 := @s_OpenTable_c
  have d6 := @i_OpeningBytes_c
  have d7 := @s_OpeningBytes_c
  have d8 := @i_OpeningSize_c
  have d9 := @i_ReadOpening_c
  have d10 := @w_sameOpening_c
  all_goals exact go
end
end Go.AI.Fn

