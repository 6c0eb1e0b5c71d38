/- Walks through the program, with open values. -/
import Derived.Test.YtnfkfhedladdaaaStr
import Derived.Test.YtnfkfhedladdaaaTb2
set_option linter.unusedVariables false
set_option linter.unusedSimpArgs false
set_option maxRecDepth 100000
set_option maxHeartbeats 1000000
namespace Go.AI.Fn
noncomputable def w_at (more : (List UInt8)) (i : Int) (n : Int) : Option (Int) :=
  br (decide (n ≤ (1 : Int))) (
    some (0 : Int)) (
    br (((more.length : Nat) : Int) == (0 : Int)) (
      br (decide (n ≠ 0)) (
        some ((IntKind.wrap .i64 (i * (7 : Int))).tmod n)) (
        none)) (
      br (decide (((more.length : Nat) : Int) ≠ 0)) (
        (atL more (i.tmod ((more.length : Nat) : Int))).bind fun x =>
        br (decide (((more.length : Nat) : Int) ≠ 0)) (
          (atL more ((IntKind.wrap .i64 (i + (1 : Int))).tmod ((more.length : Nat) : Int))).bind fun x2 =>
          br (decide (((more.length : Nat) : Int) ≠ 0)) (
            br (decide (n ≠ 0)) (
              some ((IntKind.wrap .i64 ((IntKind.wrap .i64 ((IntKind.wrap .i64 ((IntKind.wrap .i64 (x.toNat : Int)) * (31 : Int))) + (IntKind.wrap .i64 (x2.toNat : Int)))) + (IntKind.wrap .i64 (i.tdiv ((more.length : Nat) : Int))))).tmod n)) (
              none)) (
            none)) (
          none)) (
        none)))
theorem w_at_c {more i n r} (h : w_at more i n = some r) : Call tab ow 5 [sl eU8 more, I i, I n] [] = some (I r, []) := by
  rw [Call_run (af := a_w_at) rfl]
  unfold w_at at h
  simp +decide only [a_w_at, b_w_at, go_sem, reduceIte, Nat.reduceAdd]
  all_goals exact go
noncomputable def s_l00Source (code : (List UInt8)) : Option (l00Src) :=
  some (l00Src.mk code (0 : Int) (((code.length : Nat) : Int).tmod (1000 : Int)))
theorem s_l00Source_c {code r} (h : s_l00Source code = some r) : Call tab ow 17 [sl eU8 code] [] = some (.ptr 0 0 0 1, [⟨3, true, [[sl eU8 r.code, I r.at_, I r.seed]]⟩]) := by
  rw [Call_run (af := a_s_l00Source) rfl]
  unfold s_l00Source at h
  simp +decide only [a_s_l00Source, b_s_l00Source, go_sem, reduceIte, Nat.reduceAdd]
  all_goals exact go
noncomputable def s_l00Src_byte (m : l00Src) : Option (Int × l00Src) :=
  br (decide ((IntKind.wrap .i64 (m.at_ + (1 : Int))) ≤ ((m.code.length : Nat) : Int))) (
    (atL m.code (IntKind.wrap .i64 ((IntKind.wrap .i64 (m.at_ + (1 : Int))) - (1 : Int)))).bind fun x =>
    (atL m.code (IntKind.wrap .i64 ((IntKind.wrap .i64 (m.at_ + (1 : Int))) - (1 : Int)))).bind fun x2 =>
    some ((IntKind.wrap .i64 (x2.toNat : Int)), (l00Src.mk m.code (IntKind.wrap .i64 (m.at_ + (1 : Int))) ((IntKind.wrap .i64 ((IntKind.wrap .i64 ((IntKind.wrap .i64 (m.seed * (31 : Int))) + (IntKind.wrap .i64 (x.toNat : Int)))) + (7 : Int))).tmod (2147483648 : Int))))) (
    br (decide ((IntKind.wrap .i64 (m.at_ + (1 : Int))) > (3000 : Int))) (
      some ((0 : Int), (l00Src.mk m.code (IntKind.wrap .i64 (m.at_ + (1 : Int))) m.seed))) (
      some (((IntKind.wrap .i64 (((IntKind.wrap .i64 ((IntKind.wrap .i64 (m.seed * (1103515245 : Int))) + (12345 : Int))).tmod (2147483648 : Int)).tdiv (65536 : Int))).tmod (256 : Int)), (l00Src.mk m.code (IntKind.wrap .i64 (m.at_ + (1 : Int))) ((IntKind.wrap .i64 ((IntKind.wrap .i64 (m.seed * (1103515245 : Int))) + (12345 : Int))).tmod (2147483648 : Int))))))
theorem s_l00Src_byte_c {m r} (h : s_l00Src_byte m = some r) : Call tab ow 69 [.ptr 0 0 0 1] [⟨3, true, [[sl eU8 m.code, I m.at_, I m.seed]]⟩] = some (I r.1, [⟨3, true, [[sl eU8 r.2.code, I r.2.at_, I r.2.seed]]⟩]) := by
  rw [Call_run (af := a_s_l00Src_byte) rfl]
  unfold s_l00Src_byte at h
  simp +decide only [a_s_l00Src_byte, b_s_l00Src_byte, go_sem, reduceIte, Nat.reduceAdd]
  all_goals exact go
noncomputable def s_l00Src_next (n : Int) (m : l00Src) : Option (Int × l00Src) :=
  br (decide (n ≤ (1 : Int))) (
    some ((0 : Int), m)) (
    br (decide (n ≤ (256 : Int))) (
      (s_l00Src_byte m).bind fun r_ =>
      br (decide (n ≠ 0)) (
        some ((r_.1.tmod n), r_.2)) (
        none)) (
      (s_l00Src_byte m).bind fun r_2 =>
      (s_l00Src_byte r_2.2).bind fun r_3 =>
      (s_l00Src_byte r_3.2).bind fun r_4 =>
      br (decide (n ≠ 0)) (
        some (((IntKind.wrap .i64 ((IntKind.wrap .i64 ((IntKind.wrap .i64 (r_2.1 * (65536 : Int))) + (IntKind.wrap .i64 (r_3.1 * (256 : Int))))) + r_4.1)).tmod n), r_4.2)) (
        none)))
theorem s_l00Src_next_c {n m r} (h : s_l00Src_next n m = some r) : Call tab ow 56 [.ptr 0 0 0 1, I n] [⟨3, true, [[sl eU8 m.code, I m.at_, I m.seed]]⟩] = some (I r.1, [⟨3, true, [[sl eU8 r.2.code, I r.2.at_, I r.2.seed]]⟩]) := by
  rw [Call_run (af := a_s_l00Src_next) rfl]
  unfold s_l00Src_next at h
  simp +decide only [a_s_l00Src_next, b_s_l00Src_next, go_sem, reduceIte, Nat.reduceAdd]
  have d1 := @s_l00Src_byte_c
  all_goals exact go
noncomputable def s_l00Src_chance (n : Int) (m : l00Src) : Option (Bool × l00Src) :=
  (s_l00Src_next n m).bind fun r_ =>
  some ((r_.1 == (IntKind.wrap .i64 (n - (1 : Int)))), r_.2)
theorem s_l00Src_chance_c {n m r} (h : s_l00Src_chance n m = some r) : Call tab ow 36 [.ptr 0 0 0 1, I n] [⟨3, true, [[sl eU8 m.code, I m.at_, I m.seed]]⟩] = some (B r.1, [⟨3, true, [[sl eU8 r.2.code, I r.2.at_, I r.2.seed]]⟩]) := by
  rw [Call_run (af := a_s_l00Src_chance) rfl]
  unfold s_l00Src_chance at h
  simp +decide only [a_s_l00Src_chance, b_s_l00Src_chance, go_sem, reduceIte, Nat.reduceAdd]
  have d1 := @s_l00Src_next_c
  all_goals exact go
noncomputable def s_l00Src_field_1_s : Int × Int × (List UInt8) × Int × Int → Option ((Int × Int × (List UInt8) × Int × Int) ⊕ ((Int × Int × Bool × (List UInt8) × Int × Int)))
  | (n, i, c, c2, c3) =>
    br (decide (i < (5 : Int))) (
      (s_l00Src_next (256 : Int) (l00Src.mk c c2 c3)).bind fun r_4 =>
      some (.inl (((IntKind.wrap .i64 ((IntKind.wrap .i64 (n * (256 : Int))) + r_4.1)).tmod (2130706433 : Int)), (IntKind.wrap .i64 (i + (1 : Int))), r_4.2.code, r_4.2.at_, r_4.2.seed))) (
      some (.inr (n, i, decide (i < (5 : Int)), c, c2, c3)))
@[reducible] def s_l00Src_field_1_S (s : Int × Int × (List UInt8) × Int × Int) : St := ⟨[(0, .ptr 0 0 0 1), (3, I s.1), (4, I s.2.1)], [(0, ⟨3, true, [[sl eU8 s.2.2.1, I s.2.2.2.1, I s.2.2.2.2]]⟩)]⟩
@[reducible] def s_l00Src_field_1_E : (Int × Int × Bool × (List UInt8) × Int × Int) → AExit × St := fun e => (.exit 1, ⟨[(0, .ptr 0 0 0 1), (3, I e.1), (4, I e.2.1), (17, B e.2.2.1)], [(0, ⟨3, true, [[sl eU8 e.2.2.2.1, I e.2.2.2.2.1, I e.2.2.2.2.2]]⟩)]⟩)
theorem s_l00Src_field_1_l { s e} (h : Loop (s_l00Src_field_1_s) s = some e) : LoopX tab ow (.close [11003]) b_s_l00Src_field_8 (s_l00Src_field_1_S s) = some (s_l00Src_field_1_E e) := by
  refine lrG (fun s o h => ?_) h
  obtain ⟨_, _, _, _, _⟩ := s
  simp only [s_l00Src_field_1_s] at h
  simp +decide only [s_l00Src_field_1_S, s_l00Src_field_1_E, b_s_l00Src_field_8, go_sem, reduceIte, Nat.reduceAdd]
  have d1 := @s_l00Src_next_c
  all_goals exact go
noncomputable def s_l00Src_field (m : l00Src) : Option (Int × l00Src) :=
  (s_l00Src_next (5 : Int) m).bind fun r_ =>
  br (r_.1 == (0 : Int)) (
    (s_l00Src_next (4 : Int) r_.2).bind fun r_2 =>
    some (r_2.1, r_2.2)) (
    br (r_.1 == (1 : Int)) (
      (s_l00Src_next (3 : Int) r_.2).bind fun r_3 =>
      some ((IntKind.wrap .i64 ((2130706432 : Int) - r_3.1)), r_3.2)) (
      (Loop (s_l00Src_field_1_s) ((0 : Int), (0 : Int), r_.2.code, r_.2.at_, r_.2.seed)).bind fun e_ =>
      some (e_.1, (l00Src.mk e_.2.2.2.1 e_.2.2.2.2.1 e_.2.2.2.2.2))))
theorem s_l00Src_field_c {m r} (h : s_l00Src_field m = some r) : Call tab ow 37 [.ptr 0 0 0 1] [⟨3, true, [[sl eU8 m.code, I m.at_, I m.seed]]⟩] = some (I r.1, [⟨3, true, [[sl eU8 r.2.code, I r.2.at_, I r.2.seed]]⟩]) := by
  rw [Call_run (af := a_s_l00Src_field) rfl]
  unfold s_l00Src_field at h
  simp +decide only [a_s_l00Src_field, b_s_l00Src_field, go_sem, reduceIte, Nat.reduceAdd]
  have d1 := @s_l00Src_next_c
  have d2 := @s_l00Src_field_1_l
  all_goals exact go
noncomputable def s_l00Src_ext (m : l00Src) : Option (Ext × l00Src) :=
  (s_l00Src_chance (4 : Int) m).bind fun r_ =>
  br r_.1 (
    (s_l00Src_field r_.2).bind fun r_2 =>
    some ((Ext.mk r_2.1 (0 : Int)), r_2.2)) (
    (s_l00Src_field r_.2).bind fun r_3 =>
    (s_l00Src_field r_3.2).bind fun r_4 =>
    some ((Ext.mk r_3.1 r_4.1), r_4.2))
theorem s_l00Src_ext_c {m r} (h : s_l00Src_ext m = some r) : Call tab ow 19 [.ptr 0 0 0 1] [⟨3, true, [[sl eU8 m.code, I m.at_, I m.seed]]⟩] = some (.agg [I r.1.A, I r.1.B], [⟨3, true, [[sl eU8 r.2.code, I r.2.at_, I r.2.seed]]⟩]) := by
  rw [Call_run (af := a_s_l00Src_ext) rfl]
  unfold s_l00Src_ext at h
  simp +decide only [a_s_l00Src_ext, b_s_l00Src_ext, go_sem, reduceIte, Nat.reduceAdd]
  have d1 := @s_l00Src_chance_c
  have d2 := @s_l00Src_field_c
  all_goals exact go
section
theorem s_l00Src_exts_k0 : mkR 2000 [] = rws eExt [] := rfl
attribute [local go_sem] s_l00Src_exts_k0
theorem s_l00Src_exts_k1 : mkR 6003 [] = rws eExt [] := rfl
attribute [local go_sem] s_l00Src_exts_k1
noncomputable def s_l00Src_exts_1_s (n2 : Int) : (List Ext) × Int × (List UInt8) × Int × Int → Option (((List Ext) × Int × (List UInt8) × Int × Int) ⊕ (((List Ext) × Int × Bool × (List UInt8) × Int × Int)))
  | (l, i, c, c2, c3) =>
    br (decide (i < n2)) (
      (s_l00Src_ext (l00Src.mk c c2 c3)).bind fun r_ =>
      br (fits ((l ++ ([r_.1] : List Ext)).length) 16) (
        some (.inl ((l ++ ([r_.1] : List Ext)), (IntKind.wrap .i64 (i + (1 : Int))), r_.2.code, r_.2.at_, r_.2.seed))) (
        none)) (
      some (.inr (l, i, decide (i < n2), c, c2, c3)))
@[reducible] def s_l00Src_exts_1_S (n2 : Int) (s : (List Ext) × Int × (List UInt8) × Int × Int) : St := ⟨[(0, .ptr 0 0 0 1), (1, I n2), (5, .sl 2000 0 s.1.length), (6, I s.2.1)], [(0, ⟨3, true, [[sl eU8 s.2.2.1, I s.2.2.2.1, I s.2.2.2.2]]⟩), (2000, ⟨2, false, rws eExt s.1⟩)]⟩
@[reducible] def s_l00Src_exts_1_E (n2 : Int) : ((List Ext) × Int × Bool × (List UInt8) × Int × Int) → AExit × St := fun e => (.exit 0, ⟨[(0, .ptr 0 0 0 1), (1, I n2), (5, .sl 2000 0 e.1.length), (6, I e.2.1), (10, B e.2.2.1)], [(0, ⟨3, true, [[sl eU8 e.2.2.2.1, I e.2.2.2.2.1, I e.2.2.2.2.2]]⟩), (2000, ⟨2, false, rws eExt e.1⟩)]⟩)
theorem s_l00Src_exts_1_l {n2 s e} (h : Loop (s_l00Src_exts_1_s n2) s = some e) : LoopX tab ow (.close [6002,6003,6004]) b_s_l00Src_exts_3 (s_l00Src_exts_1_S n2 s) = some (s_l00Src_exts_1_E n2 e) := by
  refine lrG (fun s o h => ?_) h
  obtain ⟨_, _, _, _, _⟩ := s
  simp only [s_l00Src_exts_1_s] at h
  simp +decide only [s_l00Src_exts_1_S, s_l00Src_exts_1_E, b_s_l00Src_exts_3, go_sem, reduceIte, Nat.reduceAdd]
  have d1 := @s_l00Src_ext_c
  all_goals exact go
noncomputable def s_l00Src_exts (n : Int) (m : l00Src) : Option ((List Ext) × l00Src) :=
  (Loop (s_l00Src_exts_1_s n) (([] : List Ext), (0 : Int), m.code, m.at_, m.seed)).bind fun e_ =>
  some (e_.1, (l00Src.mk e_.2.2.2.1 e_.2.2.2.2.1 e_.2.2.2.2.2))
theorem s_l00Src_exts_c {n m r} (h : s_l00Src_exts n m = some r) : Call tab ow 18 [.ptr 0 0 0 1, I n] [⟨3, true, [[sl eU8 m.code, I m.at_, I m.seed]]⟩] = some (sl eExt r.1, [⟨3, true, [[sl eU8 r.2.code, I r.2.at_, I r.2.seed]]⟩]) := by
  rw [Call_run (af := a_s_l00Src_exts) rfl]
  unfold s_l00Src_exts at h
  simp +decide only [a_s_l00Src_exts, b_s_l00Src_exts, go_sem, reduceIte, Nat.reduceAdd]
  have d1 := @s_l00Src_exts_1_l
  all_goals exact go
end
noncomputable def s_ExtsOf (code : (List UInt8)) (n : Int) : Option ((List Ext)) :=
  (s_l00Source code).bind fun r_ =>
  (s_l00Src_exts n r_).bind fun r_2 =>
  some r_2.1
theorem s_ExtsOf_c {code n r} (h : s_ExtsOf code n = some r) : Call tab ow 6 [sl eU8 code, I n] [] = some (sl eExt r, []) := by
  rw [Call_run (af := a_s_ExtsOf) rfl]
  unfold s_ExtsOf at h
  simp +decide only [a_s_ExtsOf, b_s_ExtsOf, go_sem, reduceIte, Nat.reduceAdd]
  have d1 := @s_l00Source_c
  have d2 := @s_l00Src_exts_c
  all_goals exact go
noncomputable def s_ExtOf (code : (List UInt8)) : Option (Ext) :=
  (s_l00Source code).bind fun r_ =>
  (s_l00Src_ext r_).bind fun r_2 =>
  some r_2.1
theorem s_ExtOf_c {code r} (h : s_ExtOf code = some r) : Call tab ow 7 [sl eU8 code] [] = some (.agg [I r.A, I r.B], []) := by
  rw [Call_run (af := a_s_ExtOf) rfl]
  unfold s_ExtOf at h
  simp +decide only [a_s_ExtOf, b_s_ExtOf, go_sem, reduceIte, Nat.reduceAdd]
  have d1 := @s_l00Source_c
  have d2 := @s_l00Src_ext_c
  all_goals exact go
noncomputable def i_in (n : Int) (low : Int) (high : Int) : Option (Bool) :=
  br (decide (low ≤ n)) (
    some (decide (n ≤ high))) (
    some false)
theorem i_in_c {n low high r} (h : i_in n low high = some r) : Call tab ow 21 [I n, I low, I high] [] = some (B r, []) := by
  rw [Call_run (af := a_i_in) rfl]
  unfold i_in at h
  simp +decide only [a_i_in, b_i_in, go_sem, reduceIte, Nat.reduceAdd]
  all_goals exact go
noncomputable def i_FieldOK (a : Int) : Option (Bool) :=
  (i_in a (0 : Int) (2130706432 : Int)).bind fun r_ =>
  some r_
theorem i_FieldOK_c {a r} (h : i_FieldOK a = some r) : Call tab ow 40 [I a] [] = some (B r, []) := by
  rw [Call_run (af := a_i_FieldOK) rfl]
  unfold i_FieldOK at h
  simp +decide only [a_i_FieldOK, b_i_FieldOK, go_sem, reduceIte, Nat.reduceAdd]
  have d1 := @i_in_c
  all_goals exact go
noncomputable def i_ExtOK (a : Ext) : Option (Bool) :=
  (i_FieldOK a.A).bind fun r_ =>
  br r_ (
    (i_FieldOK a.B).bind fun r_2 =>
    some r_2) (
    some false)
theorem i_ExtOK_c {a r} (h : i_ExtOK a = some r) : Call tab ow 23 [.agg [I a.A, I a.B]] [] = some (B r, []) := by
  rw [Call_run (af := a_i_ExtOK) rfl]
  unfold i_ExtOK at h
  simp +decide only [a_i_ExtOK, b_i_ExtOK, go_sem, reduceIte, Nat.reduceAdd]
  have d1 := @i_FieldOK_c
  all_goals exact go
noncomputable def i_are_i_Ext_1_ExtOK (x : Ext) : Option (Bool) :=
  (i_ExtOK x).bind fun r_ =>
  some (!r_)
theorem i_are_i_Ext_1_ExtOK_c {x r} (h : i_are_i_Ext_1_ExtOK x = some r) : Call tab ow 57 [.agg [I x.A, I x.B], .ptr 0 0 0 1] [⟨1, true, [[.fn 23 []]]⟩] = some (B r, [⟨1, true, [[.fn 23 []]]⟩]) := by
  rw [Call_run (af := a_i_are_i_Ext_1) rfl]
  unfold i_are_i_Ext_1_ExtOK at h
  simp +decide only [a_i_are_i_Ext_1, b_i_are_i_Ext_1, go_sem, reduceIte, Nat.reduceAdd]
  have d1 := @i_ExtOK_c
  all_goals exact go
noncomputable def slices_IndexFunc_Li_Ext_i_Ext_are_i_Ext_1_ExtOK_1_s (s2 : List Ext) (t : Int) : Int → Option ((Int) ⊕ (Int ⊕ (Int × Bool)))
  | t2 =>
    br (decide (t2 < t)) (
      (atL s2 t2).bind fun x =>
      (i_are_i_Ext_1_ExtOK x).bind fun r_ =>
      br r_ (
        some (.inr (.inl t2))) (
        some (.inl (IntKind.wrap .i64 (t2 + (1 : Int)))))) (
      some (.inr (.inr (t2, decide (t2 < t)))))
@[reducible] def slices_IndexFunc_Li_Ext_i_Ext_are_i_Ext_1_ExtOK_1_S (s2 : List Ext) (t : Int) (s : Int) : St := ⟨[(0, sl eExt s2), (1, .fn 57 [.ptr 0 0 0 1]), (7, I t), (8, I s)], [(0, ⟨1, true, [[.fn 23 []]]⟩)]⟩
@[reducible] def slices_IndexFunc_Li_Ext_i_Ext_are_i_Ext_1_ExtOK_1_E (s2 : List Ext) (t : Int) : (Int ⊕ (Int × Bool)) → AExit × St := alt (fun e => ((.ret, ⟨[(4, I e)], [(0, ⟨1, true, [[.fn 23 []]]⟩)]⟩) : AExit × St)) (fun e => (.exit 0, ⟨[(0, sl eExt s2), (1, .fn 57 [.ptr 0 0 0 1]), (7, I t), (8, I e.1), (9, B e.2)], [(0, ⟨1, true, [[.fn 23 []]]⟩)]⟩))
theorem slices_IndexFunc_Li_Ext_i_Ext_are_i_Ext_1_ExtOK_1_l {s2 t s e} (h : Loop (slices_IndexFunc_Li_Ext_i_Ext_are_i_Ext_1_ExtOK_1_s s2 t) s = some e) : LoopX tab ow (.close [5005]) b_slices_IndexFunc_Li_Ext_i_Ext_2 (slices_IndexFunc_Li_Ext_i_Ext_are_i_Ext_1_ExtOK_1_S s2 t s) = some (slices_IndexFunc_Li_Ext_i_Ext_are_i_Ext_1_ExtOK_1_E s2 t e) := by
  refine lrG (fun s o h => ?_) h
  simp only [slices_IndexFunc_Li_Ext_i_Ext_are_i_Ext_1_ExtOK_1_s] at h
  simp +decide only [slices_IndexFunc_Li_Ext_i_Ext_are_i_Ext_1_ExtOK_1_S, slices_IndexFunc_Li_Ext_i_Ext_are_i_Ext_1_ExtOK_1_E, b_slices_IndexFunc_Li_Ext_i_Ext_2, go_sem, reduceIte, Nat.reduceAdd]
  have d1 := @i_are_i_Ext_1_ExtOK_c
  all_goals exact go
noncomputable def slices_IndexFunc_Li_Ext_i_Ext_are_i_Ext_1_ExtOK (s : (List Ext)) : Option (Int) :=
  (Loop (slices_IndexFunc_Li_Ext_i_Ext_are_i_Ext_1_ExtOK_1_s s ((s.length : Nat) : Int)) (0 : Int)).bind (alt (fun e_2 =>
    some e_2) (fun e_3 =>
    some (-1 : Int)))
theorem slices_IndexFunc_Li_Ext_i_Ext_are_i_Ext_1_ExtOK_c {s r} (h : slices_IndexFunc_Li_Ext_i_Ext_are_i_Ext_1_ExtOK s = some r) : Call tab ow 54 [sl eExt s, .fn 57 [.ptr 0 0 0 1]] [⟨1, true, [[.fn 23 []]]⟩] = some (I r, [⟨1, true, [[.fn 23 []]]⟩]) := by
  rw [Call_run (af := a_slices_IndexFunc_Li_Ext_i_Ext) rfl]
  unfold slices_IndexFunc_Li_Ext_i_Ext_are_i_Ext_1_ExtOK at h
  simp +decide only [a_slices_IndexFunc_Li_Ext_i_Ext, b_slices_IndexFunc_Li_Ext_i_Ext, go_sem, reduceIte, Nat.reduceAdd]
  have d1 := @slices_IndexFunc_Li_Ext_i_Ext_are_i_Ext_1_ExtOK_1_l
  all_goals exact go
noncomputable def slices_ContainsFunc_Li_Ext_i_Ext_are_i_Ext_1_ExtOK (s : (List Ext)) : Option (Bool) :=
  (slices_IndexFunc_Li_Ext_i_Ext_are_i_Ext_1_ExtOK s).bind fun r_ =>
  some (decide (r_ ≥ (0 : Int)))
theorem slices_ContainsFunc_Li_Ext_i_Ext_are_i_Ext_1_ExtOK_c {s r} (h : slices_ContainsFunc_Li_Ext_i_Ext_are_i_Ext_1_ExtOK s = some r) : Call tab ow 33 [sl eExt s, .fn 57 [.ptr 0 0 0 1]] [⟨1, true, [[.fn 23 []]]⟩] = some (B r, [⟨1, true, [[.fn 23 []]]⟩]) := by
  rw [Call_run (af := a_slices_ContainsFunc_Li_Ext_i_Ext) rfl]
  unfold slices_ContainsFunc_Li_Ext_i_Ext_are_i_Ext_1_ExtOK at h
  simp +decide only [a_slices_ContainsFunc_Li_Ext_i_Ext, b_slices_ContainsFunc_Li_Ext_i_Ext, go_sem, reduceIte, Nat.reduceAdd]
  have d1 := @slices_IndexFunc_Li_Ext_i_Ext_are_i_Ext_1_ExtOK_c
  all_goals exact go
noncomputable def i_are_i_Ext_ExtOK (list : (List Ext)) : Option (Bool) :=
  (slices_ContainsFunc_Li_Ext_i_Ext_are_i_Ext_1_ExtOK list).bind fun r_ =>
  some (!r_)
theorem i_are_i_Ext_ExtOK_c {list r} (h : i_are_i_Ext_ExtOK list = some r) : Call tab ow 38 [.fn 23 [], sl eExt list] [] = some (B r, []) := by
  rw [Call_run (af := a_i_are_i_Ext) rfl]
  unfold i_are_i_Ext_ExtOK at h
  simp +decide only [a_i_are_i_Ext, b_i_are_i_Ext, go_sem, reduceIte, Nat.reduceAdd]
  have d1 := @slices_ContainsFunc_Li_Ext_i_Ext_are_i_Ext_1_ExtOK_c
  all_goals exact go
noncomputable def i_isPower (n : Int) (most : Int) : Option (Bool) :=
  (i_in n (1 : Int) most).bind fun r_ =>
  br r_ (
    some ((and64 .i64 n (IntKind.wrap .i64 (n - (1 : Int)))) == (0 : Int))) (
    some false)
theorem i_isPower_c {n most r} (h : i_isPower n most = some r) : Call tab ow 28 [I n, I most] [] = some (B r, []) := by
  rw [Call_run (af := a_i_isPower) rfl]
  unfold i_isPower at h
  simp +decide only [a_i_isPower, b_i_isPower, go_sem, reduceIte, Nat.reduceAdd]
  have d1 := @i_in_c
  all_goals exact go
noncomputable def i_wordCode (word : (List Ext)) : Option (Int) :=
  br (decide (((word.length : Nat) : Int) > (4096 : Int))) (
    some (2 : Int)) (
    (i_are_i_Ext_ExtOK word).bind fun r_ =>
    br (!r_) (
      some (1 : Int)) (
      (i_isPower ((word.length : Nat) : Int) (512 : Int)).bind fun r_2 =>
      br (!r_2) (
        some (8 : Int)) (
        some (0 : Int))))
theorem i_wordCode_c {word r} (h : i_wordCode word = some r) : Call tab ow 20 [sl eExt word] [] = some (I r, []) := by
  rw [Call_run (af := a_i_wordCode) rfl]
  unfold i_wordCode at h
  simp +decide only [a_i_wordCode, b_i_wordCode, go_sem, reduceIte, Nat.reduceAdd]
  have d1 := @i_are_i_Ext_ExtOK_c
  have d2 := @i_isPower_c
  all_goals exact go
noncomputable def math_bits_Len64 (x : Int) : Option (Int) :=
  br (decide (x ≥ (4294967296 : Int))) (
    br (decide ((shr64 .u64 x (32 : Int)) ≥ (65536 : Int))) (
      br (decide ((shr64 .u64 (shr64 .u64 x (32 : Int)) (16 : Int)) ≥ (256 : Int))) (
        (atL (([0, 1, 2, 2, 3, 3, 3, 3, 4, 4, 4, 4, 4, 4, 4, 4, 5, 5, 5, 5, 5, 5, 5, 5, 5, 5, 5, 5, 5, 5, 5, 5, 6, 6, 6, 6, 6, 6, 6, 6, 6, 6, 6, 6, 6, 6, 6, 6, 6, 6, 6, 6, 6, 6, 6, 6, 6, 6, 6, 6, 6, 6, 6, 6, 7, 7, 7, 7, 7, 7, 7, 7, 7, 7, 7, 7, 7, 7, 7, 7, 7, 7, 7, 7, 7, 7, 7, 7, 7, 7, 7, 7, 7, 7, 7, 7, 7, 7, 7, 7, 7, 7, 7, 7, 7, 7, 7, 7, 7, 7, 7, 7, 7, 7, 7, 7, 7, 7, 7, 7, 7, 7, 7, 7, 7, 7, 7, 7, 8, 8, 8, 8, 8, 8, 8, 8, 8, 8, 8, 8, 8, 8, 8, 8, 8, 8, 8, 8, 8, 8, 8, 8, 8, 8, 8, 8, 8, 8, 8, 8, 8, 8, 8, 8, 8, 8, 8, 8, 8, 8, 8, 8, 8, 8, 8, 8, 8, 8, 8, 8, 8, 8, 8, 8, 8, 8, 8, 8, 8, 8, 8, 8, 8, 8, 8, 8, 8, 8, 8, 8, 8, 8, 8, 8, 8, 8, 8, 8, 8, 8, 8, 8, 8, 8, 8, 8, 8, 8, 8, 8, 8, 8, 8, 8, 8, 8, 8, 8, 8, 8, 8, 8, 8, 8, 8, 8, 8, 8, 8, 8, 8, 8, 8, 8, 8, 8, 8, 8, 8, 8, 8, 8, 8, 8, 8, 8] : List UInt8)) (IntKind.wrap .u8 (shr64 .u64 (shr64 .u64 (shr64 .u64 x (32 : Int)) (16 : Int)) (8 : Int)))).bind fun c =>
        some (IntKind.wrap .i64 ((56 : Int) + (IntKind.wrap .i64 (c.toNat : Int))))) (
        (atL (([0, 1, 2, 2, 3, 3, 3, 3, 4, 4, 4, 4, 4, 4, 4, 4, 5, 5, 5, 5, 5, 5, 5, 5, 5, 5, 5, 5, 5, 5, 5, 5, 6, 6, 6, 6, 6, 6, 6, 6, 6, 6, 6, 6, 6, 6, 6, 6, 6, 6, 6, 6, 6, 6, 6, 6, 6, 6, 6, 6, 6, 6, 6, 6, 7, 7, 7, 7, 7, 7, 7, 7, 7, 7, 7, 7, 7, 7, 7, 7, 7, 7, 7, 7, 7, 7, 7, 7, 7, 7, 7, 7, 7, 7, 7, 7, 7, 7, 7, 7, 7, 7, 7, 7, 7, 7, 7, 7, 7, 7, 7, 7, 7, 7, 7, 7, 7, 7, 7, 7, 7, 7, 7, 7, 7, 7, 7, 7, 8, 8, 8, 8, 8, 8, 8, 8, 8, 8, 8, 8, 8, 8, 8, 8, 8, 8, 8, 8, 8, 8, 8, 8, 8, 8, 8, 8, 8, 8, 8, 8, 8, 8, 8, 8, 8, 8, 8, 8, 8, 8, 8, 8, 8, 8, 8, 8, 8, 8, 8, 8, 8, 8, 8, 8, 8, 8, 8, 8, 8, 8, 8, 8, 8, 8, 8, 8, 8, 8, 8, 8, 8, 8, 8, 8, 8, 8, 8, 8, 8, 8, 8, 8, 8, 8, 8, 8, 8, 8, 8, 8, 8, 8, 8, 8, 8, 8, 8, 8, 8, 8, 8, 8, 8, 8, 8, 8, 8, 8, 8, 8, 8, 8, 8, 8, 8, 8, 8, 8, 8, 8, 8, 8, 8, 8, 8, 8] : List UInt8)) (IntKind.wrap .u8 (shr64 .u64 (shr64 .u64 x (32 : Int)) (16 : Int)))).bind fun c2 =>
        some (IntKind.wrap .i64 ((48 : Int) + (IntKind.wrap .i64 (c2.toNat : Int)))))) (
      br (decide ((shr64 .u64 x (32 : Int)) ≥ (256 : Int))) (
        (atL (([0, 1, 2, 2, 3, 3, 3, 3, 4, 4, 4, 4, 4, 4, 4, 4, 5, 5, 5, 5, 5, 5, 5, 5, 5, 5, 5, 5, 5, 5, 5, 5, 6, 6, 6, 6, 6, 6, 6, 6, 6, 6, 6, 6, 6, 6, 6, 6, 6, 6, 6, 6, 6, 6, 6, 6, 6, 6, 6, 6, 6, 6, 6, 6, 7, 7, 7, 7, 7, 7, 7, 7, 7, 7, 7, 7, 7, 7, 7, 7, 7, 7, 7, 7, 7, 7, 7, 7, 7, 7, 7, 7, 7, 7, 7, 7, 7, 7, 7, 7, 7, 7, 7, 7, 7, 7, 7, 7, 7, 7, 7, 7, 7, 7, 7, 7, 7, 7, 7, 7, 7, 7, 7, 7, 7, 7, 7, 7, 8, 8, 8, 8, 8, 8, 8, 8, 8, 8, 8, 8, 8, 8, 8, 8, 8, 8, 8, 8, 8, 8, 8, 8, 8, 8, 8, 8, 8, 8, 8, 8, 8, 8, 8, 8, 8, 8, 8, 8, 8, 8, 8, 8, 8, 8, 8, 8, 8, 8, 8, 8, 8, 8, 8, 8, 8, 8, 8, 8, 8, 8, 8, 8, 8, 8, 8, 8, 8, 8, 8, 8, 8, 8, 8, 8, 8, 8, 8, 8, 8, 8, 8, 8, 8, 8, 8, 8, 8, 8, 8, 8, 8, 8, 8, 8, 8, 8, 8, 8, 8, 8, 8, 8, 8, 8, 8, 8, 8, 8, 8, 8, 8, 8, 8, 8, 8, 8, 8, 8, 8, 8, 8, 8, 8, 8, 8, 8] : List UInt8)) (IntKind.wrap .u8 (shr64 .u64 (shr64 .u64 x (32 : Int)) (8 : Int)))).bind fun c3 =>
        some (IntKind.wrap .i64 ((40 : Int) + (IntKind.wrap .i64 (c3.toNat : Int))))) (
        (atL (([0, 1, 2, 2, 3, 3, 3, 3, 4, 4, 4, 4, 4, 4, 4, 4, 5, 5, 5, 5, 5, 5, 5, 5, 5, 5, 5, 5, 5, 5, 5, 5, 6, 6, 6, 6, 6, 6, 6, 6, 6, 6, 6, 6, 6, 6, 6, 6, 6, 6, 6, 6, 6, 6, 6, 6, 6, 6, 6, 6, 6, 6, 6, 6, 7, 7, 7, 7, 7, 7, 7, 7, 7, 7, 7, 7, 7, 7, 7, 7, 7, 7, 7, 7, 7, 7, 7, 7, 7, 7, 7, 7, 7, 7, 7, 7, 7, 7, 7, 7, 7, 7, 7, 7, 7, 7, 7, 7, 7, 7, 7, 7, 7, 7, 7, 7, 7, 7, 7, 7, 7, 7, 7, 7, 7, 7, 7, 7, 8, 8, 8, 8, 8, 8, 8, 8, 8, 8, 8, 8, 8, 8, 8, 8, 8, 8, 8, 8, 8, 8, 8, 8, 8, 8, 8, 8, 8, 8, 8, 8, 8, 8, 8, 8, 8, 8, 8, 8, 8, 8, 8, 8, 8, 8, 8, 8, 8, 8, 8, 8, 8, 8, 8, 8, 8, 8, 8, 8, 8, 8, 8, 8, 8, 8, 8, 8, 8, 8, 8, 8, 8, 8, 8, 8, 8, 8, 8, 8, 8, 8, 8, 8, 8, 8, 8, 8, 8, 8, 8, 8, 8, 8, 8, 8, 8, 8, 8, 8, 8, 8, 8, 8, 8, 8, 8, 8, 8, 8, 8, 8, 8, 8, 8, 8, 8, 8, 8, 8, 8, 8, 8, 8, 8, 8, 8, 8] : List UInt8)) (IntKind.wrap .u8 (shr64 .u64 x (32 : Int)))).bind fun c4 =>
        some (IntKind.wrap .i64 ((32 : Int) + (IntKind.wrap .i64 (c4.toNat : Int))))))) (
    br (decide (x ≥ (65536 : Int))) (
      br (decide ((shr64 .u64 x (16 : Int)) ≥ (256 : Int))) (
        (atL (([0, 1, 2, 2, 3, 3, 3, 3, 4, 4, 4, 4, 4, 4, 4, 4, 5, 5, 5, 5, 5, 5, 5, 5, 5, 5, 5, 5, 5, 5, 5, 5, 6, 6, 6, 6, 6, 6, 6, 6, 6, 6, 6, 6, 6, 6, 6, 6, 6, 6, 6, 6, 6, 6, 6, 6, 6, 6, 6, 6, 6, 6, 6, 6, 7, 7, 7, 7, 7, 7, 7, 7, 7, 7, 7, 7, 7, 7, 7, 7, 7, 7, 7, 7, 7, 7, 7, 7, 7, 7, 7, 7, 7, 7, 7, 7, 7, 7, 7, 7, 7, 7, 7, 7, 7, 7, 7, 7, 7, 7, 7, 7, 7, 7, 7, 7, 7, 7, 7, 7, 7, 7, 7, 7, 7, 7, 7, 7, 8, 8, 8, 8, 8, 8, 8, 8, 8, 8, 8, 8, 8, 8, 8, 8, 8, 8, 8, 8, 8, 8, 8, 8, 8, 8, 8, 8, 8, 8, 8, 8, 8, 8, 8, 8, 8, 8, 8, 8, 8, 8, 8, 8, 8, 8, 8, 8, 8, 8, 8, 8, 8, 8, 8, 8, 8, 8, 8, 8, 8, 8, 8, 8, 8, 8, 8, 8, 8, 8, 8, 8, 8, 8, 8, 8, 8, 8, 8, 8, 8, 8, 8, 8, 8, 8, 8, 8, 8, 8, 8, 8, 8, 8, 8, 8, 8, 8, 8, 8, 8, 8, 8, 8, 8, 8, 8, 8, 8, 8, 8, 8, 8, 8, 8, 8, 8, 8, 8, 8, 8, 8, 8, 8, 8, 8, 8, 8] : List UInt8)) (IntKind.wrap .u8 (shr64 .u64 (shr64 .u64 x (16 : Int)) (8 : Int)))).bind fun c5 =>
        some (IntKind.wrap .i64 ((24 : Int) + (IntKind.wrap .i64 (c5.toNat : Int))))) (
        (atL (([0, 1, 2, 2, 3, 3, 3, 3, 4, 4, 4, 4, 4, 4, 4, 4, 5, 5, 5, 5, 5, 5, 5, 5, 5, 5, 5, 5, 5, 5, 5, 5, 6, 6, 6, 6, 6, 6, 6, 6, 6, 6, 6, 6, 6, 6, 6, 6, 6, 6, 6, 6, 6, 6, 6, 6, 6, 6, 6, 6, 6, 6, 6, 6, 7, 7, 7, 7, 7, 7, 7, 7, 7, 7, 7, 7, 7, 7, 7, 7, 7, 7, 7, 7, 7, 7, 7, 7, 7, 7, 7, 7, 7, 7, 7, 7, 7, 7, 7, 7, 7, 7, 7, 7, 7, 7, 7, 7, 7, 7, 7, 7, 7, 7, 7, 7, 7, 7, 7, 7, 7, 7, 7, 7, 7, 7, 7, 7, 8, 8, 8, 8, 8, 8, 8, 8, 8, 8, 8, 8, 8, 8, 8, 8, 8, 8, 8, 8, 8, 8, 8, 8, 8, 8, 8, 8, 8, 8, 8, 8, 8, 8, 8, 8, 8, 8, 8, 8, 8, 8, 8, 8, 8, 8, 8, 8, 8, 8, 8, 8, 8, 8, 8, 8, 8, 8, 8, 8, 8, 8, 8, 8, 8, 8, 8, 8, 8, 8, 8, 8, 8, 8, 8, 8, 8, 8, 8, 8, 8, 8, 8, 8, 8, 8, 8, 8, 8, 8, 8, 8, 8, 8, 8, 8, 8, 8, 8, 8, 8, 8, 8, 8, 8, 8, 8, 8, 8, 8, 8, 8, 8, 8, 8, 8, 8, 8, 8, 8, 8, 8, 8, 8, 8, 8, 8, 8] : List UInt8)) (IntKind.wrap .u8 (shr64 .u64 x (16 : Int)))).bind fun c6 =>
        some (IntKind.wrap .i64 ((16 : Int) + (IntKind.wrap .i64 (c6.toNat : Int)))))) (
      br (decide (x ≥ (256 : Int))) (
        (atL (([0, 1, 2, 2, 3, 3, 3, 3, 4, 4, 4, 4, 4, 4, 4, 4, 5, 5, 5, 5, 5, 5, 5, 5, 5, 5, 5, 5, 5, 5, 5, 5, 6, 6, 6, 6, 6, 6, 6, 6, 6, 6, 6, 6, 6, 6, 6, 6, 6, 6, 6, 6, 6, 6, 6, 6, 6, 6, 6, 6, 6, 6, 6, 6, 7, 7, 7, 7, 7, 7, 7, 7, 7, 7, 7, 7, 7, 7, 7, 7, 7, 7, 7, 7, 7, 7, 7, 7, 7, 7, 7, 7, 7, 7, 7, 7, 7, 7, 7, 7, 7, 7, 7, 7, 7, 7, 7, 7, 7, 7, 7, 7, 7, 7, 7, 7, 7, 7, 7, 7, 7, 7, 7, 7, 7, 7, 7, 7, 8, 8, 8, 8, 8, 8, 8, 8, 8, 8, 8, 8, 8, 8, 8, 8, 8, 8, 8, 8, 8, 8, 8, 8, 8, 8, 8, 8, 8, 8, 8, 8, 8, 8, 8, 8, 8, 8, 8, 8, 8, 8, 8, 8, 8, 8, 8, 8, 8, 8, 8, 8, 8, 8, 8, 8, 8, 8, 8, 8, 8, 8, 8, 8, 8, 8, 8, 8, 8, 8, 8, 8, 8, 8, 8, 8, 8, 8, 8, 8, 8, 8, 8, 8, 8, 8, 8, 8, 8, 8, 8, 8, 8, 8, 8, 8, 8, 8, 8, 8, 8, 8, 8, 8, 8, 8, 8, 8, 8, 8, 8, 8, 8, 8, 8, 8, 8, 8, 8, 8, 8, 8, 8, 8, 8, 8, 8, 8] : List UInt8)) (IntKind.wrap .u8 (shr64 .u64 x (8 : Int)))).bind fun c7 =>
        some (IntKind.wrap .i64 ((8 : Int) + (IntKind.wrap .i64 (c7.toNat : Int))))) (
        (atL (([0, 1, 2, 2, 3, 3, 3, 3, 4, 4, 4, 4, 4, 4, 4, 4, 5, 5, 5, 5, 5, 5, 5, 5, 5, 5, 5, 5, 5, 5, 5, 5, 6, 6, 6, 6, 6, 6, 6, 6, 6, 6, 6, 6, 6, 6, 6, 6, 6, 6, 6, 6, 6, 6, 6, 6, 6, 6, 6, 6, 6, 6, 6, 6, 7, 7, 7, 7, 7, 7, 7, 7, 7, 7, 7, 7, 7, 7, 7, 7, 7, 7, 7, 7, 7, 7, 7, 7, 7, 7, 7, 7, 7, 7, 7, 7, 7, 7, 7, 7, 7, 7, 7, 7, 7, 7, 7, 7, 7, 7, 7, 7, 7, 7, 7, 7, 7, 7, 7, 7, 7, 7, 7, 7, 7, 7, 7, 7, 8, 8, 8, 8, 8, 8, 8, 8, 8, 8, 8, 8, 8, 8, 8, 8, 8, 8, 8, 8, 8, 8, 8, 8, 8, 8, 8, 8, 8, 8, 8, 8, 8, 8, 8, 8, 8, 8, 8, 8, 8, 8, 8, 8, 8, 8, 8, 8, 8, 8, 8, 8, 8, 8, 8, 8, 8, 8, 8, 8, 8, 8, 8, 8, 8, 8, 8, 8, 8, 8, 8, 8, 8, 8, 8, 8, 8, 8, 8, 8, 8, 8, 8, 8, 8, 8, 8, 8, 8, 8, 8, 8, 8, 8, 8, 8, 8, 8, 8, 8, 8, 8, 8, 8, 8, 8, 8, 8, 8, 8, 8, 8, 8, 8, 8, 8, 8, 8, 8, 8, 8, 8, 8, 8, 8, 8, 8, 8] : List UInt8)) (IntKind.wrap .u8 x)).bind fun c8 =>
        some (IntKind.wrap .i64 ((0 : Int) + (IntKind.wrap .i64 (c8.toNat : Int)))))))
theorem math_bits_Len64_c {x r} (h : math_bits_Len64 x = some r) : Call tab ow 71 [.lit (.int .u64 x)] [] = some (I r, []) := by
  rw [Call_run (af := a_math_bits_Len64) rfl]
  unfold math_bits_Len64 at h
  simp +decide only [a_math_bits_Len64, b_math_bits_Len64, go_sem, reduceIte, Nat.reduceAdd]
  all_goals exact go
noncomputable def math_bits_Len (x : Int) : Option (Int) :=
  (math_bits_Len64 x).bind fun r_ =>
  some r_
theorem math_bits_Len_c {x r} (h : math_bits_Len x = some r) : Call tab ow 58 [.lit (.int .u64 x)] [] = some (I r, []) := by
  rw [Call_run (af := a_math_bits_Len) rfl]
  unfold math_bits_Len at h
  simp +decide only [a_math_bits_Len, b_math_bits_Len, go_sem, reduceIte, Nat.reduceAdd]
  have d1 := @math_bits_Len64_c
  all_goals exact go
noncomputable def i_logOf (n : Int) : Option (Int) :=
  (math_bits_Len (IntKind.wrap .u64 n)).bind fun r_ =>
  some (IntKind.wrap .i64 (r_ - (1 : Int)))
theorem i_logOf_c {n r} (h : i_logOf n = some r) : Call tab ow 46 [I n] [] = some (I r, []) := by
  rw [Call_run (af := a_i_logOf) rfl]
  unfold i_logOf at h
  simp +decide only [a_i_logOf, b_i_logOf, go_sem, reduceIte, Nat.reduceAdd]
  have d1 := @math_bits_Len_c
  all_goals exact go
noncomputable def i_mul (a : Int) (b : Int) : Option (Int) :=
  some ((IntKind.wrap .i64 (a * b)).tmod (2130706433 : Int))
theorem i_mul_c {a b r} (h : i_mul a b = some r) : Call tab ow 42 [I a, I b] [] = some (I r, []) := by
  rw [Call_run (af := a_i_mul) rfl]
  unfold i_mul at h
  simp +decide only [a_i_mul, b_i_mul, go_sem, reduceIte, Nat.reduceAdd]
  all_goals exact go
noncomputable def i_pow_1_s : Int × Int × Int → Option ((Int × Int × Int) ⊕ ((Int × Int × Int × Bool)))
  | (a2, n2, out) =>
    br (decide (n2 > (0 : Int))) (
      br ((and64 .i64 n2 (1 : Int)) == (1 : Int)) (
        (i_mul out a2).bind fun r_ =>
        (i_mul a2 a2).bind fun r_2 =>
        some (.inl (r_2, (shr64 .i64 n2 (1 : Int)), r_))) (
        (i_mul a2 a2).bind fun r_3 =>
        some (.inl (r_3, (shr64 .i64 n2 (1 : Int)), out)))) (
      some (.inr (a2, n2, out, decide (n2 > (0 : Int)))))
@[reducible] def i_pow_1_S (s : Int × Int × Int) : St := ⟨[(0, I s.1), (1, I s.2.1), (5, I s.2.2)], []⟩
@[reducible] def i_pow_1_E : (Int × Int × Int × Bool) → AExit × St := fun e => (.exit 0, ⟨[(0, I e.1), (1, I e.2.1), (5, I e.2.2.1), (7, B e.2.2.2)], []⟩)
theorem i_pow_1_l { s e} (h : Loop (i_pow_1_s) s = some e) : LoopX tab ow (.close [6002,7002]) b_i_pow_2 (i_pow_1_S s) = some (i_pow_1_E e) := by
  refine lrG (fun s o h => ?_) h
  obtain ⟨_, _, _⟩ := s
  simp only [i_pow_1_s] at h
  simp +decide only [i_pow_1_S, i_pow_1_E, b_i_pow_2, go_sem, reduceIte, Nat.reduceAdd]
  have d1 := @i_mul_c
  all_goals exact go
noncomputable def i_pow (a : Int) (n : Int) : Option (Int) :=
  (Loop (i_pow_1_s) (a, n, (1 : Int))).bind fun e_ =>
  some e_.2.2.1
theorem i_pow_c {a n r} (h : i_pow a n = some r) : Call tab ow 44 [I a, I n] [] = some (I r, []) := by
  rw [Call_run (af := a_i_pow) rfl]
  unfold i_pow at h
  simp +decide only [a_i_pow, b_i_pow, go_sem, reduceIte, Nat.reduceAdd]
  have d1 := @i_pow_1_l
  all_goals exact go
noncomputable def i_root (k : Int) : Option (Int) :=
  br (decide (0 ≤ (IntKind.wrap .i64 ((24 : Int) - k)))) (
    (i_pow (3 : Int) (shl64 .i64 (127 : Int) (IntKind.wrap .i64 ((24 : Int) - k)))).bind fun r_ =>
    some r_) (
    none)
theorem i_root_c {k r} (h : i_root k = some r) : Call tab ow 45 [I k] [] = some (I r, []) := by
  rw [Call_run (af := a_i_root) rfl]
  unfold i_root at h
  simp +decide only [a_i_root, b_i_root, go_sem, reduceIte, Nat.reduceAdd]
  have d1 := @i_pow_c
  all_goals exact go
def slices_Clone_Li_Ext_i_Ext (l : List Ext) : Option (List Ext) := br (fits l.length 16) (some l) none
theorem slices_Clone_Li_Ext_i_Ext_x (x : Ext) (l : List Ext) (hf : fits (x :: l).length 16 = true) : Call (oneT 68 a_slices_Clone_Li_Ext_i_Ext) noOw 68 [sl eExt (x :: l)] [] = some (.sl 0 0 (x :: l).length, [⟨2, false, rws eExt (x :: l)⟩]) := by
  rw [Call_run (af := a_slices_Clone_Li_Ext_i_Ext) (oneT_self _ _)]
  rw [List.length_cons] at hf
  simp +decide only [a_slices_Clone_Li_Ext_i_Ext, b_slices_Clone_Li_Ext_i_Ext, fun k => mk0 eExt k, inS_cons, go_sem, reduceIte, Nat.reduceAdd, hf]
theorem slices_Clone_Li_Ext_i_Ext_c {l r : List Ext} (h : slices_Clone_Li_Ext_i_Ext l = some r) : Call tab ow 68 [sl eExt l] [] = some (.sl 0 0 r.length, [⟨2, false, rws eExt r⟩]) := by
  unfold slices_Clone_Li_Ext_i_Ext at h
  obtain ⟨hb, h⟩ := brg h
  cases h
  rw [Call_ext (g := cloneO 68 a_slices_Clone_Li_Ext_i_Ext 2) rfl]
  cases l with
  | nil => rfl
  | cons x l => exact slices_Clone_Li_Ext_i_Ext_x x l hb
noncomputable def i_Ext_scaled (a : Ext) (n : Int) : Option (Ext) :=
  (i_mul a.A n).bind fun r_ =>
  (i_mul a.B n).bind fun r_2 =>
  some (Ext.mk r_ r_2)
theorem i_Ext_scaled_c {a n r} (h : i_Ext_scaled a n = some r) : Call tab ow 47 [.agg [I a.A, I a.B], I n] [] = some (.agg [I r.A, I r.B], []) := by
  rw [Call_run (af := a_i_Ext_scaled) rfl]
  unfold i_Ext_scaled at h
  simp +decide only [a_i_Ext_scaled, b_i_Ext_scaled, go_sem, reduceIte, Nat.reduceAdd]
  have d1 := @i_mul_c
  all_goals exact go
noncomputable def i_add (a : Int) (b : Int) : Option (Int) :=
  some ((IntKind.wrap .i64 (a + b)).tmod (2130706433 : Int))
theorem i_add_c {a b r} (h : i_add a b = some r) : Call tab ow 41 [I a, I b] [] = some (I r, []) := by
  rw [Call_run (af := a_i_add) rfl]
  unfold i_add at h
  simp +decide only [a_i_add, b_i_add, go_sem, reduceIte, Nat.reduceAdd]
  all_goals exact go
noncomputable def i_Ext_plus (a : Ext) (b : Ext) : Option (Ext) :=
  (i_add a.A b.A).bind fun r_ =>
  (i_add a.B b.B).bind fun r_2 =>
  some (Ext.mk r_ r_2)
theorem i_Ext_plus_c {a b r} (h : i_Ext_plus a b = some r) : Call tab ow 27 [.agg [I a.A, I a.B], .agg [I b.A, I b.B]] [] = some (.agg [I r.A, I r.B], []) := by
  rw [Call_run (af := a_i_Ext_plus) rfl]
  unfold i_Ext_plus at h
  simp +decide only [a_i_Ext_plus, b_i_Ext_plus, go_sem, reduceIte, Nat.reduceAdd]
  have d1 := @i_add_c
  all_goals exact go
noncomputable def i_sub (a : Int) (b : Int) : Option (Int) :=
  some ((IntKind.wrap .i64 ((IntKind.wrap .i64 (a - b)) + (2130706433 : Int))).tmod (2130706433 : Int))
theorem i_sub_c {a b r} (h : i_sub a b = some r) : Call tab ow 59 [I a, I b] [] = some (I r, []) := by
  rw [Call_run (af := a_i_sub) rfl]
  unfold i_sub at h
  simp +decide only [a_i_sub, b_i_sub, go_sem, reduceIte, Nat.reduceAdd]
  all_goals exact go
noncomputable def i_Ext_minus (a : Ext) (b : Ext) : Option (Ext) :=
  (i_sub a.A b.A).bind fun r_ =>
  (i_sub a.B b.B).bind fun r_2 =>
  some (Ext.mk r_ r_2)
theorem i_Ext_minus_c {a b r} (h : i_Ext_minus a b = some r) : Call tab ow 48 [.agg [I a.A, I a.B], .agg [I b.A, I b.B]] [] = some (.agg [I r.A, I r.B], []) := by
  rw [Call_run (af := a_i_Ext_minus) rfl]
  unfold i_Ext_minus at h
  simp +decide only [a_i_Ext_minus, b_i_Ext_minus, go_sem, reduceIte, Nat.reduceAdd]
  have d1 := @i_sub_c
  all_goals exact go
section
theorem i_values_k0 : mkR 4000 [] = rws eExt [] := rfl
attribute [local go_sem] i_values_k0
theorem i_values_k1 : mkR 4001 [] = rws eExt [] := rfl
attribute [local go_sem] i_values_k1
theorem i_values_k2 : mkR 8005 [] = rws eExt [] := rfl
attribute [local go_sem] i_values_k2
theorem i_values_k3 : mkR 8013 [] = rws eExt [] := rfl
attribute [local go_sem] i_values_k3
theorem i_values_k4 : ∀ k, repR 11002 k [I (0 : Int), I (0 : Int)] = rws eExt (List.replicate k (Ext.mk (0 : Int) (0 : Int))) := fun _ => repT eExt (Ext.mk (0 : Int) (0 : Int)) _ _
attribute [local go_sem] i_values_k4
noncomputable def i_values_1_s (ListtoArray2 : List Ext) (t : Int) : (List Ext) × (List Ext) × Int → Option (((List Ext) × (List Ext) × Int) ⊕ (((List Ext) × (List Ext) × Int × Bool)))
  | (l, l2, t2) =>
    br (decide (t2 < ((ListtoArray2.length : Nat) : Int))) (
      (atL ListtoArray2 t2).bind fun x =>
      br (fits ((l ++ ([x] : List Ext)).length) 16) (
        (atL ListtoArray2 (IntKind.wrap .i64 (t2 + (1 : Int)))).bind fun x2 =>
        br (fits ((l2 ++ ([x2] : List Ext)).length) 16) (
          some (.inl ((l ++ ([x] : List Ext)), (l2 ++ ([x2] : List Ext)), (IntKind.wrap .i64 (t2 + (2 : Int)))))) (
          none)) (
        none)) (
      some (.inr (l, l2, t2, decide (t2 < ((ListtoArray2.length : Nat) : Int)))))
@[reducible] def i_values_1_S (ListtoArray2 : List Ext) (t : Int) (s : (List Ext) × (List Ext) × Int) : St := ⟨[(0, sl eExt ListtoArray2), (1, I t), (5, .sl 4000 0 s.1.length), (6, .sl 4001 0 s.2.1.length), (7, I s.2.2)], [(4000, ⟨2, false, rws eExt s.1⟩), (4001, ⟨2, false, rws eExt s.2.1⟩)]⟩
@[reducible] def i_values_1_E (ListtoArray2 : List Ext) (t : Int) : ((List Ext) × (List Ext) × Int × Bool) → AExit × St := fun e => (.exit 0, ⟨[(0, sl eExt ListtoArray2), (1, I t), (5, .sl 4000 0 e.1.length), (6, .sl 4001 0 e.2.1.length), (7, I e.2.2.1), (25, B e.2.2.2)], [(4000, ⟨2, false, rws eExt e.1⟩), (4001, ⟨2, false, rws eExt e.2.1⟩)]⟩)
theorem i_values_1_l {ListtoArray2 t s e} (h : Loop (i_values_1_s ListtoArray2 t) s = some e) : LoopX tab ow (.close [8005,8006,8013,8014]) b_i_values_5 (i_values_1_S ListtoArray2 t s) = some (i_values_1_E ListtoArray2 t e) := by
  refine lrG (fun s o h => ?_) h
  obtain ⟨_, _, _⟩ := s
  simp only [i_values_1_s] at h
  simp +decide only [i_values_1_S, i_values_1_E, b_i_values_5, go_sem, reduceIte, Nat.reduceAdd]
  all_goals exact go
noncomputable def i_values_2_s (l3 : List Ext) (l4 : List Ext) (t3 : Int) (t4 : Int) (t6 : Int) : (List Ext) × Int × Int → Option (((List Ext) × Int × Int) ⊕ (((List Ext) × Int × Int × Bool)))
  | (l5, t5, t7) =>
    br (decide (t7 < t6)) (
      br (decide (0 ≤ t7)) (
        br (decide (t7.toNat < l4.length)) (
          (l4[t7.toNat]?).bind fun x3 =>
          (i_Ext_scaled x3 t5).bind fun r_6 =>
          br (decide (0 ≤ t7)) (
            br (decide (t7.toNat < l3.length)) (
              (l3[t7.toNat]?).bind fun x4 =>
              (i_Ext_plus x4 r_6).bind fun r_7 =>
              br (decide (0 ≤ t7)) (
                br (decide (t7.toNat < l3.length)) (
                  (l3[t7.toNat]?).bind fun x5 =>
                  (i_Ext_minus x5 r_6).bind fun r_8 =>
                  br (decide (0 ≤ t7)) (
                    br (decide (t7.toNat < l5.length)) (
                      (l5[t7.toNat]?).bind fun x6 =>
                      br (decide (0 ≤ (IntKind.wrap .i64 (t7 + t4)))) (
                        br (decide ((IntKind.wrap .i64 (t7 + t4)).toNat < l5.length)) (
                          ((l5.set t7.toNat r_7)[(IntKind.wrap .i64 (t7 + t4)).toNat]?).bind fun x7 =>
                          (i_mul t5 t3).bind fun r_9 =>
                          some (.inl (((l5.set t7.toNat r_7).set ((IntKind.wrap .i64 (t7 + t4)).toNat) r_8), r_9, (IntKind.wrap .i64 (t7 + (1 : Int)))))) (
                          none)) (
                        none)) (
                      none)) (
                    none)) (
                  none)) (
                none)) (
              none)) (
            none)) (
          none)) (
        none)) (
      some (.inr (l5, t5, t7, decide (t7 < t6))))
@[reducible] def i_values_2_S (l3 : List Ext) (l4 : List Ext) (t3 : Int) (t4 : Int) (t6 : Int) (s : (List Ext) × Int × Int) : St := ⟨[(1, I t3), (8, .sl 9004 0 l3.length), (9, .sl 9009 0 l4.length), (10, I t4), (11, I s.2.1), (12, .sl 11002 0 s.1.length), (58, I t6), (59, I s.2.2)], [(4000, dead), (4001, dead), (9004, ⟨2, false, rws eExt l3⟩), (9009, ⟨2, false, rws eExt l4⟩), (11002, ⟨2, false, rws eExt s.1⟩)]⟩
@[reducible] def i_values_2_E (l3 : List Ext) (l4 : List Ext) (t3 : Int) (t4 : Int) (t6 : Int) : ((List Ext) × Int × Int × Bool) → AExit × St := fun e => (.exit 2, ⟨[(1, I t3), (8, .sl 9004 0 l3.length), (9, .sl 9009 0 l4.length), (10, I t4), (11, I e.2.1), (12, .sl 11002 0 e.1.length), (58, I t6), (59, I e.2.2.1), (60, B e.2.2.2)], [(4000, dead), (4001, dead), (9004, ⟨2, false, rws eExt l3⟩), (9009, ⟨2, false, rws eExt l4⟩), (11002, ⟨2, false, rws eExt e.1⟩)]⟩)
theorem i_values_2_l {l3 l4 t3 t4 t6 s e} (h : Loop (i_values_2_s l3 l4 t3 t4 t6) s = some e) : LoopX tab ow (.close [15005,15006,16011,16017,17002]) b_i_values_12 (i_values_2_S l3 l4 t3 t4 t6 s) = some (i_values_2_E l3 l4 t3 t4 t6 e) := by
  refine lrG (fun s o h => ?_) h
  obtain ⟨_, _, _⟩ := s
  simp only [i_values_2_s] at h
  simp +decide only [i_values_2_S, i_values_2_E, b_i_values_12, go_sem, reduceIte, Nat.reduceAdd]
  have d1 := @i_Ext_scaled_c
  have d2 := @i_Ext_plus_c
  have d3 := @i_Ext_minus_c
  have d4 := @i_mul_c
  all_goals exact go
noncomputable def i_values_n : Nat → (List Ext) → Int → Option ((List Ext))
  | 0, _, _ => none
  | n_ + 1, ListtoArray, a =>
    br (((ListtoArray.length : Nat) : Int) == (1 : Int)) (
      (slices_Clone_Li_Ext_i_Ext ListtoArray).bind fun r_ =>
      some r_) (
      (Loop (i_values_1_s ListtoArray a) (([] : List Ext), ([] : List Ext), (0 : Int))).bind fun e_ =>
      (i_mul a a).bind fun r_2 =>
      (i_values_n n_ e_.1 r_2).bind fun r_3 =>
      (i_mul a a).bind fun r_4 =>
      (i_values_n n_ e_.2.1 r_4).bind fun r_5 =>
      br (mkOK (IntKind.wrap .i64 ((2 : Int) * ((r_3.length : Nat) : Int))) (IntKind.wrap .i64 ((2 : Int) * ((r_3.length : Nat) : Int))) 16) (
        (Loop (i_values_2_s r_3 r_5 a ((r_3.length : Nat) : Int) ((r_3.length : Nat) : Int)) ((List.replicate ((IntKind.wrap .i64 ((2 : Int) * ((r_3.length : Nat) : Int))).toNat) (Ext.mk (0 : Int) (0 : Int))), (1 : Int), (0 : Int))).bind fun e_2 =>
        some e_2.1) (
        none))
theorem i_values_n_c (n_ : Nat) : ∀ {ListtoArray : (List Ext)} {a : Int} {r : (List Ext)}, i_values_n n_ ListtoArray a = some r → Call tab ow 55 [sl eExt ListtoArray, I a] [] = some (.sl 0 0 r.length, [⟨2, false, rws eExt r⟩]) := by
  induction n_ with
  | zero => intro _ _ r h; cases h
  | succ n_ ih =>
    intro ListtoArray a r h
    rw [Call_run (af := a_i_values) rfl]
    simp only [i_values_n] at h
    simp +decide only [a_i_values, b_i_values, go_sem, reduceIte, Nat.reduceAdd]
    have d1 := @slices_Clone_Li_Ext_i_Ext_c
    have d2 := @i_values_1_l
    have d3 := @i_mul_c
    have d4 := @ih
    have d5 := @i_values_2_l
    all_goals exact go
noncomputable def i_values (ListtoArray : (List Ext)) (a : Int) : Option ((List Ext)) := lim (fun n_ => i_values_n n_ ListtoArray a)
theorem i_values_c {ListtoArray : (List Ext)} {a : Int} {r : (List Ext)} (h : i_values ListtoArray a = some r) : Call tab ow 55 [sl eExt ListtoArray, I a] [] = some (.sl 0 0 r.length, [⟨2, false, rws eExt r⟩]) := by
  obtain ⟨n_, hn⟩ := of_lim h
  exact i_values_n_c n_ hn
end
noncomputable def i_ntt (coefs : (List Ext)) : Option ((List Ext)) :=
  (i_logOf ((coefs.length : Nat) : Int)).bind fun r_ =>
  (i_root r_).bind fun r_2 =>
  (i_values coefs r_2).bind fun r_3 =>
  some r_3
theorem i_ntt_c {coefs r} (h : i_ntt coefs = some r) : Call tab ow 39 [sl eExt coefs] [] = some (sl eExt r, []) := by
  rw [Call_run (af := a_i_ntt) rfl]
  unfold i_ntt at h
  simp +decide only [a_i_ntt, b_i_ntt, go_sem, reduceIte, Nat.reduceAdd]
  have d1 := @i_logOf_c
  have d2 := @i_root_c
  have d3 := @i_values_c
  all_goals exact go
section
theorem i_encoded_k0 : ∀ k, repR 2004 k [I (0 : Int), I (0 : Int)] = rws eExt (List.replicate k (Ext.mk (0 : Int) (0 : Int))) := fun _ => repT eExt (Ext.mk (0 : Int) (0 : Int)) _ _
attribute [local go_sem] i_encoded_k0
noncomputable def i_encoded (coefs : (List Ext)) (rate : Int) : Option ((List Ext)) :=
  br (decide (0 ≤ rate)) (
    br (mkOK (shl64 .i64 ((coefs.length : Nat) : Int) rate) (shl64 .i64 ((coefs.length : Nat) : Int) rate) 16) (
      (i_ntt (copyL (List.replicate ((shl64 .i64 ((coefs.length : Nat) : Int) rate).toNat) (Ext.mk (0 : Int) (0 : Int))) 0 (min coefs.length ((List.replicate ((shl64 .i64 ((coefs.length : Nat) : Int) rate).toNat) (Ext.mk (0 : Int) (0 : Int))).length)) coefs)).bind fun r_ =>
      some r_) (
      none)) (
    none)
theorem i_encoded_c {coefs rate r} (h : i_encoded coefs rate = some r) : Call tab ow 22 [sl eExt coefs, I rate] [] = some (sl eExt r, []) := by
  rw [Call_run (af := a_i_encoded) rfl]
  unfold i_encoded at h
  simp +decide only [a_i_encoded, b_i_encoded, go_sem, reduceIte, Nat.reduceAdd]
  have d1 := @i_ntt_c
  all_goals exact go
end
noncomputable def i_EncodeWord (coefs : (List Ext)) (rate : Int) : Option ((List Ext) × Int) :=
  (i_wordCode coefs).bind fun r_ =>
  br (r_ != (0 : Int)) (
    some (([] : List Ext), r_)) (
    (i_in rate (0 : Int) (9 : Int)).bind fun r_2 =>
    br (!r_2) (
      some (([] : List Ext), (4 : Int))) (
      br (decide (0 ≤ rate)) (
        br (decide ((shl64 .i64 ((coefs.length : Nat) : Int) rate) > (512 : Int))) (
          some (([] : List Ext), (4 : Int))) (
          (i_encoded coefs rate).bind fun r_3 =>
          some (r_3, (0 : Int)))) (
        none)))
theorem i_EncodeWord_c {coefs rate r} (h : i_EncodeWord coefs rate = some r) : Call tab ow 8 [sl eExt coefs, I rate] [] = some (.tup [sl eExt r.1, I r.2], []) := by
  rw [Call_run (af := a_i_EncodeWord) rfl]
  unfold i_EncodeWord at h
  simp +decide only [a_i_EncodeWord, b_i_EncodeWord, go_sem, reduceIte, Nat.reduceAdd]
  have d1 := @i_wordCode_c
  have d2 := @i_in_c
  have d3 := @i_encoded_c
  all_goals exact go
noncomputable def i_inverse (a : Int) : Option (Int) :=
  (i_pow a (2130706431 : Int)).bind fun r_ =>
  some r_
theorem i_inverse_c {a r} (h : i_inverse a = some r) : Call tab ow 43 [I a] [] = some (I r, []) := by
  rw [Call_run (af := a_i_inverse) rfl]
  unfold i_inverse at h
  simp +decide only [a_i_inverse, b_i_inverse, go_sem, reduceIte, Nat.reduceAdd]
  have d1 := @i_pow_c
  all_goals exact go
noncomputable def i_Ext_times (a : Ext) (b : Ext) : Option (Ext) :=
  (i_mul a.A b.A).bind fun r_ =>
  (i_mul a.B b.B).bind fun r_2 =>
  (i_mul (3 : Int) r_2).bind fun r_3 =>
  (i_add r_ r_3).bind fun r_4 =>
  (i_mul a.A b.B).bind fun r_5 =>
  (i_mul a.B b.A).bind fun r_6 =>
  (i_add r_5 r_6).bind fun r_7 =>
  some (Ext.mk r_4 r_7)
theorem i_Ext_times_c {a b r} (h : i_Ext_times a b = some r) : Call tab ow 26 [.agg [I a.A, I a.B], .agg [I b.A, I b.B]] [] = some (.agg [I r.A, I r.B], []) := by
  rw [Call_run (af := a_i_Ext_times) rfl]
  unfold i_Ext_times at h
  simp +decide only [a_i_Ext_times, b_i_Ext_times, go_sem, reduceIte, Nat.reduceAdd]
  have d1 := @i_mul_c
  have d2 := @i_add_c
  all_goals exact go
noncomputable def i_foldPair (n : Int) (i : Int) (a : Ext) (b : Ext) (r_ : Ext) : Option (Ext) :=
  (i_inverse (2 : Int)).bind fun r_2 =>
  (i_logOf n).bind fun r_3 =>
  (i_root r_3).bind fun r_4 =>
  (i_pow r_4 i).bind fun r_5 =>
  (i_Ext_plus a b).bind fun r_6 =>
  (i_Ext_scaled r_6 r_2).bind fun r_7 =>
  (i_Ext_minus a b).bind fun r_8 =>
  (i_Ext_times r_ r_8).bind fun r_9 =>
  (i_inverse r_5).bind fun r_10 =>
  (i_mul r_2 r_10).bind fun r_11 =>
  (i_Ext_scaled r_9 r_11).bind fun r_12 =>
  (i_Ext_plus r_7 r_12).bind fun r_13 =>
  some r_13
theorem i_foldPair_c {n i a b r_ r} (h : i_foldPair n i a b r_ = some r) : Call tab ow 29 [I n, I i, .agg [I a.A, I a.B], .agg [I b.A, I b.B], .agg [I r_.A, I r_.B]] [] = some (.agg [I r.A, I r.B], []) := by
  rw [Call_run (af := a_i_foldPair) rfl]
  unfold i_foldPair at h
  simp +decide only [a_i_foldPair, b_i_foldPair, go_sem, reduceIte, Nat.reduceAdd]
  have d1 := @i_inverse_c
  have d2 := @i_logOf_c
  have d3 := @i_root_c
  have d4 := @i_pow_c
  have d5 := @i_Ext_plus_c
  have d6 := @i_Ext_scaled_c
  have d7 := @i_Ext_minus_c
  have d8 := @i_Ext_times_c
  have d9 := @i_mul_c
  all_goals exact go
section
theorem i_foldWord_k0 : mkR 2000 [] = rws eExt [] := rfl
attribute [local go_sem] i_foldWord_k0
theorem i_foldWord_k1 : mkR 6016 [] = rws eExt [] := rfl
attribute [local go_sem] i_foldWord_k1
noncomputable def i_foldWord_1_s (word2 : List Ext) (half : Int) (t : Int) (c : Int) (c2 : Int) : (List Ext) × Int → Option (((List Ext) × Int) ⊕ (((List Ext) × Int × Bool)))
  | (l, t2) =>
    br (decide (t2 < t)) (
      (atL word2 t2).bind fun x =>
      (atL word2 (IntKind.wrap .i64 (t2 + half))).bind fun x2 =>
      (i_foldPair ((word2.length : Nat) : Int) t2 x x2 (Ext.mk c c2)).bind fun r_2 =>
      br (fits ((l ++ ([r_2] : List Ext)).length) 16) (
        some (.inl ((l ++ ([r_2] : List Ext)), (IntKind.wrap .i64 (t2 + (1 : Int)))))) (
        none)) (
      some (.inr (l, t2, decide (t2 < t))))
@[reducible] def i_foldWord_1_S (word2 : List Ext) (half : Int) (t : Int) (c : Int) (c2 : Int) (s : (List Ext) × Int) : St := ⟨[(0, sl eExt word2), (3, .ptr 1000 0 0 1), (5, .sl 2000 0 s.1.length), (6, I half), (12, I t), (13, I s.2)], [(1000, ⟨2, true, [[I c, I c2]]⟩), (2000, ⟨2, false, rws eExt s.1⟩)]⟩
@[reducible] def i_foldWord_1_E (word2 : List Ext) (half : Int) (t : Int) (c : Int) (c2 : Int) : ((List Ext) × Int × Bool) → AExit × St := fun e => (.exit 0, ⟨[(0, sl eExt word2), (3, .ptr 1000 0 0 1), (5, .sl 2000 0 e.1.length), (6, I half), (12, I t), (13, I e.2.1), (14, B e.2.2)], [(1000, ⟨2, true, [[I c, I c2]]⟩), (2000, ⟨2, false, rws eExt e.1⟩)]⟩)
theorem i_foldWord_1_l {word2 half t c c2 s e} (h : Loop (i_foldWord_1_s word2 half t c c2) s = some e) : LoopX tab ow (.close [6015,6016,6017]) b_i_foldWord_3 (i_foldWord_1_S word2 half t c c2 s) = some (i_foldWord_1_E word2 half t c c2 e) := by
  refine lrG (fun s o h => ?_) h
  obtain ⟨_, _⟩ := s
  simp only [i_foldWord_1_s] at h
  simp +decide only [i_foldWord_1_S, i_foldWord_1_E, b_i_foldWord_3, go_sem, reduceIte, Nat.reduceAdd]
  have d1 := @i_foldPair_c
  all_goals exact go
noncomputable def i_foldWord (word : (List Ext)) (r_ : Ext) : Option ((List Ext)) :=
  (Loop (i_foldWord_1_s word (IntKind.wrap .i64 (((word.length : Nat) : Int).tdiv (2 : Int))) (IntKind.wrap .i64 (((word.length : Nat) : Int).tdiv (2 : Int))) r_.A r_.B) (([] : List Ext), (0 : Int))).bind fun e_ =>
  some e_.1
theorem i_foldWord_c {word r_ r} (h : i_foldWord word r_ = some r) : Call tab ow 24 [sl eExt word, .agg [I r_.A, I r_.B]] [] = some (sl eExt r, []) := by
  rw [Call_run (af := a_i_foldWord) rfl]
  unfold i_foldWord at h
  simp +decide only [a_i_foldWord, b_i_foldWord, go_sem, reduceIte, Nat.reduceAdd]
  have d1 := @i_foldWord_1_l
  all_goals exact go
end
noncomputable def i_FoldWord (word : (List Ext)) (r_ : Ext) : Option ((List Ext) × Int) :=
  (i_wordCode word).bind fun r_2 =>
  br (r_2 != (0 : Int)) (
    some (([] : List Ext), r_2)) (
    (i_ExtOK r_).bind fun r_3 =>
    br (!r_3) (
      some (([] : List Ext), (1 : Int))) (
      br (((word.length : Nat) : Int) == (1 : Int)) (
        some (([] : List Ext), (8 : Int))) (
        (i_foldWord word r_).bind fun r_4 =>
        some (r_4, (0 : Int)))))
theorem i_FoldWord_c {word r_ r} (h : i_FoldWord word r_ = some r) : Call tab ow 9 [sl eExt word, .agg [I r_.A, I r_.B]] [] = some (.tup [sl eExt r.1, I r.2], []) := by
  rw [Call_run (af := a_i_FoldWord) rfl]
  unfold i_FoldWord at h
  simp +decide only [a_i_FoldWord, b_i_FoldWord, go_sem, reduceIte, Nat.reduceAdd]
  have d1 := @i_wordCode_c
  have d2 := @i_ExtOK_c
  have d3 := @i_foldWord_c
  all_goals exact go
noncomputable def i_extTwo_plus (a : Ext) (b : Ext) : Option (Ext × Int) :=
  (i_ExtOK a).bind fun r_ =>
  br (!r_) (
    some ((Ext.mk (0 : Int) (0 : Int)), (1 : Int))) (
    (i_ExtOK b).bind fun r_2 =>
    br (!r_2) (
      some ((Ext.mk (0 : Int) (0 : Int)), (1 : Int))) (
      (i_Ext_plus a b).bind fun r_3 =>
      some (r_3, (0 : Int))))
theorem i_extTwo_plus_c {a b r} (h : i_extTwo_plus a b = some r) : Call tab ow 25 [.agg [I a.A, I a.B], .agg [I b.A, I b.B], .fn 27 []] [] = some (.tup [.agg [I r.1.A, I r.1.B], I r.2], []) := by
  rw [Call_run (af := a_i_extTwo) rfl]
  unfold i_extTwo_plus at h
  simp +decide only [a_i_extTwo, b_i_extTwo, go_sem, reduceIte, Nat.reduceAdd]
  have d1 := @i_ExtOK_c
  have d2 := @i_Ext_plus_c
  all_goals exact go
noncomputable def i_ExtAdd (a : Ext) (b : Ext) : Option (Ext × Int) :=
  (i_extTwo_plus a b).bind fun r_ =>
  some (r_.1, r_.2)
theorem i_ExtAdd_c {a b r} (h : i_ExtAdd a b = some r) : Call tab ow 11 [.agg [I a.A, I a.B], .agg [I b.A, I b.B]] [] = some (.tup [.agg [I r.1.A, I r.1.B], I r.2], []) := by
  rw [Call_run (af := a_i_ExtAdd) rfl]
  unfold i_ExtAdd at h
  simp +decide only [a_i_ExtAdd, b_i_ExtAdd, go_sem, reduceIte, Nat.reduceAdd]
  have d1 := @i_extTwo_plus_c
  all_goals exact go
noncomputable def w_sameExts_1_s (a2 : List Ext) (b2 : List Ext) : Int → Option ((Int) ⊕ (Unit ⊕ (Int × Bool)))
  | i =>
    br (decide (i < ((a2.length : Nat) : Int))) (
      (atL a2 i).bind fun x =>
      (atL b2 i).bind fun x2 =>
      br (x.A == x2.A) (
        br (x.B == x2.B) (
          some (.inl (IntKind.wrap .i64 (i + (1 : Int))))) (
          some (.inr (.inl ())))) (
        some (.inr (.inl ())))) (
      some (.inr (.inr (i, decide (i < ((a2.length : Nat) : Int))))))
@[reducible] def w_sameExts_1_S (a2 : List Ext) (b2 : List Ext) (s : Int) : St := ⟨[(0, sl eExt a2), (1, sl eExt b2), (5, I s)], []⟩
@[reducible] def w_sameExts_1_E (a2 : List Ext) (b2 : List Ext) : (Unit ⊕ (Int × Bool)) → AExit × St := alt (fun e => ((.ret, ⟨[(4, B false)], []⟩) : AExit × St)) (fun e => (.exit 0, ⟨[(0, sl eExt a2), (1, sl eExt b2), (5, I e.1), (14, B e.2)], []⟩))
theorem w_sameExts_1_l {a2 b2 s e} (h : Loop (w_sameExts_1_s a2 b2) s = some e) : LoopX tab ow (.close []) b_w_sameExts_4 (w_sameExts_1_S a2 b2 s) = some (w_sameExts_1_E a2 b2 e) := by
  refine lrG (fun s o h => ?_) h
  simp only [w_sameExts_1_s] at h
  simp +decide only [w_sameExts_1_S, w_sameExts_1_E, b_w_sameExts_4, go_sem, reduceIte, Nat.reduceAdd]
  all_goals exact go
noncomputable def w_sameExts (a : (List Ext)) (b : (List Ext)) : Option (Bool) :=
  br (((a.length : Nat) : Int) != ((b.length : Nat) : Int)) (
    some false) (
    (Loop (w_sameExts_1_s a b) (0 : Int)).bind (alt (fun e_2 =>
      some false) (fun e_3 =>
      some true)))
theorem w_sameExts_c {a b r} (h : w_sameExts a b = some r) : Call tab ow 12 [sl eExt a, sl eExt b] [] = some (B r, []) := by
  rw [Call_run (af := a_w_sameExts) rfl]
  unfold w_sameExts at h
  simp +decide only [a_w_sameExts, b_w_sameExts, go_sem, reduceIte, Nat.reduceAdd]
  have d1 := @w_sameExts_1_l
  all_goals exact go
noncomputable def s_l01In (n : Int) (low : Int) (high : Int) : Option (Bool) :=
  br (decide (low ≤ n)) (
    some (decide (n ≤ high))) (
    some false)
theorem s_l01In_c {n low high r} (h : s_l01In n low high = some r) : Call tab ow 31 [I n, I low, I high] [] = some (B r, []) := by
  rw [Call_run (af := a_s_l01In) rfl]
  unfold s_l01In at h
  simp +decide only [a_s_l01In, b_s_l01In, go_sem, reduceIte, Nat.reduceAdd]
  all_goals exact go
noncomputable def s_FieldOK (a : Int) : Option (Bool) :=
  (s_l01In a (0 : Int) (2130706432 : Int)).bind fun r_ =>
  some r_
theorem s_FieldOK_c {a r} (h : s_FieldOK a = some r) : Call tab ow 72 [I a] [] = some (B r, []) := by
  rw [Call_run (af := a_s_FieldOK) rfl]
  unfold s_FieldOK at h
  simp +decide only [a_s_FieldOK, b_s_FieldOK, go_sem, reduceIte, Nat.reduceAdd]
  have d1 := @s_l01In_c
  all_goals exact go
noncomputable def s_ExtOK (a : Ext) : Option (Bool) :=
  (s_FieldOK a.A).bind fun r_ =>
  br r_ (
    (s_FieldOK a.B).bind fun r_2 =>
    some r_2) (
    some false)
theorem s_ExtOK_c {a r} (h : s_ExtOK a = some r) : Call tab ow 60 [.agg [I a.A, I a.B]] [] = some (B r, []) := by
  rw [Call_run (af := a_s_ExtOK) rfl]
  unfold s_ExtOK at h
  simp +decide only [a_s_ExtOK, b_s_ExtOK, go_sem, reduceIte, Nat.reduceAdd]
  have d1 := @s_FieldOK_c
  all_goals exact go
noncomputable def s_l02List_1_s (list2 : List Ext) : Int → Option ((Int) ⊕ (Unit ⊕ (Int × Bool)))
  | i =>
    br (decide (i < ((list2.length : Nat) : Int))) (
      (atL list2 i).bind fun x =>
      (s_ExtOK x).bind fun r_ =>
      br (!r_) (
        some (.inr (.inl ()))) (
        some (.inl (IntKind.wrap .i64 (i + (1 : Int)))))) (
      some (.inr (.inr (i, decide (i < ((list2.length : Nat) : Int))))))
@[reducible] def s_l02List_1_S (list2 : List Ext) (s : Int) : St := ⟨[(0, sl eExt list2), (3, I s)], []⟩
@[reducible] def s_l02List_1_E (list2 : List Ext) : (Unit ⊕ (Int × Bool)) → AExit × St := alt (fun e => ((.ret, ⟨[(2, B false)], []⟩) : AExit × St)) (fun e => (.exit 0, ⟨[(0, sl eExt list2), (3, I e.1), (7, B e.2)], []⟩))
theorem s_l02List_1_l {list2 s e} (h : Loop (s_l02List_1_s list2) s = some e) : LoopX tab ow (.close [5004]) b_s_l02List_2 (s_l02List_1_S list2 s) = some (s_l02List_1_E list2 e) := by
  refine lrG (fun s o h => ?_) h
  simp only [s_l02List_1_s] at h
  simp +decide only [s_l02List_1_S, s_l02List_1_E, b_s_l02List_2, go_sem, reduceIte, Nat.reduceAdd]
  have d1 := @s_ExtOK_c
  all_goals exact go
noncomputable def s_l02List (list : (List Ext)) : Option (Bool) :=
  (Loop (s_l02List_1_s list) (0 : Int)).bind (alt (fun e_2 =>
    some false) (fun e_3 =>
    some true))
theorem s_l02List_c {list r} (h : s_l02List list = some r) : Call tab ow 49 [sl eExt list] [] = some (B r, []) := by
  rw [Call_run (af := a_s_l02List) rfl]
  unfold s_l02List at h
  simp +decide only [a_s_l02List, b_s_l02List, go_sem, reduceIte, Nat.reduceAdd]
  have d1 := @s_l02List_1_l
  all_goals exact go
noncomputable def s_l04Power_1_s (n2 : Int) (most2 : Int) : Int → Option ((Int) ⊕ (Unit ⊕ (Int × Bool)))
  | k =>
    br (decide (k ≤ most2)) (
      br (n2 == k) (
        some (.inr (.inl ()))) (
        some (.inl (IntKind.wrap .i64 (k * (2 : Int)))))) (
      some (.inr (.inr (k, decide (k ≤ most2)))))
@[reducible] def s_l04Power_1_S (n2 : Int) (most2 : Int) (s : Int) : St := ⟨[(0, I n2), (1, I most2), (5, I s)], []⟩
@[reducible] def s_l04Power_1_E (n2 : Int) (most2 : Int) : (Unit ⊕ (Int × Bool)) → AExit × St := alt (fun e => ((.ret, ⟨[(4, B true)], []⟩) : AExit × St)) (fun e => (.exit 0, ⟨[(0, I n2), (1, I most2), (5, I e.1), (8, B e.2)], []⟩))
theorem s_l04Power_1_l {n2 most2 s e} (h : Loop (s_l04Power_1_s n2 most2) s = some e) : LoopX tab ow (.close []) b_s_l04Power_2 (s_l04Power_1_S n2 most2 s) = some (s_l04Power_1_E n2 most2 e) := by
  refine lrG (fun s o h => ?_) h
  simp only [s_l04Power_1_s] at h
  simp +decide only [s_l04Power_1_S, s_l04Power_1_E, b_s_l04Power_2, go_sem, reduceIte, Nat.reduceAdd]
  all_goals exact go
noncomputable def s_l04Power (n : Int) (most : Int) : Option (Bool) :=
  (Loop (s_l04Power_1_s n most) (1 : Int)).bind (alt (fun e_2 =>
    some true) (fun e_3 =>
    some false))
theorem s_l04Power_c {n most r} (h : s_l04Power n most = some r) : Call tab ow 61 [I n, I most] [] = some (B r, []) := by
  rw [Call_run (af := a_s_l04Power) rfl]
  unfold s_l04Power at h
  simp +decide only [a_s_l04Power, b_s_l04Power, go_sem, reduceIte, Nat.reduceAdd]
  have d1 := @s_l04Power_1_l
  all_goals exact go
noncomputable def s_l07Size (n : Int) : Option (Bool) :=
  (s_l04Power n (512 : Int)).bind fun r_ =>
  some r_
theorem s_l07Size_c {n r} (h : s_l07Size n = some r) : Call tab ow 50 [I n] [] = some (B r, []) := by
  rw [Call_run (af := a_s_l07Size) rfl]
  unfold s_l07Size at h
  simp +decide only [a_s_l07Size, b_s_l07Size, go_sem, reduceIte, Nat.reduceAdd]
  have d1 := @s_l04Power_c
  all_goals exact go
noncomputable def s_l07Ask (list : (List Ext)) : Option (Int) :=
  br (decide (((list.length : Nat) : Int) > (4096 : Int))) (
    some (2 : Int)) (
    (s_l02List list).bind fun r_ =>
    br (!r_) (
      some (1 : Int)) (
      (s_l07Size ((list.length : Nat) : Int)).bind fun r_2 =>
      br (!r_2) (
        some (8 : Int)) (
        some (0 : Int))))
theorem s_l07Ask_c {list r} (h : s_l07Ask list = some r) : Call tab ow 30 [sl eExt list] [] = some (I r, []) := by
  rw [Call_run (af := a_s_l07Ask) rfl]
  unfold s_l07Ask at h
  simp +decide only [a_s_l07Ask, b_s_l07Ask, go_sem, reduceIte, Nat.reduceAdd]
  have d1 := @s_l02List_c
  have d2 := @s_l07Size_c
  all_goals exact go
end Go.AI.Fn

set_option linter.unusedVariables false
set_option linter.unusedSimpArgs false
set_option maxRecDepth 100000
set_option maxHeartbeats 1000000
namespace Go.AI.Fn
noncomputable def s_l06Vars_1_s (n2 : Int) : Int → Option ((Int) ⊕ ((Int × Bool)))
  | k =>
    br (decide (0 ≤ (IntKind.wrap .u64 k))) (
      br (decide ((shl64 .i64 (1 : Int) (IntKind.wrap .u64 k)) < n2)) (
        some (.inl (IntKind.wrap .i64 (k + (1 : Int))))) (
        some (.inr (k, decide ((shl64 .i64 (1 : Int) (IntKind.wrap .u64 k)) < n2))))) (
      none)
@[reducible] def s_l06Vars_1_S (n2 : Int) (s : Int) : St := ⟨[(0, I n2), (3, I s)], []⟩
@[reducible] def s_l06Vars_1_E (n2 : Int) : (Int × Bool) → AExit × St := fun e => (.exit 0, ⟨[(0, I n2), (3, I e.1), (8, B e.2)], []⟩)
theorem s_l06Vars_1_l {n2 s e} (h : Loop (s_l06Vars_1_s n2) s = some e) : LoopX tab ow (.close []) b_s_l06Vars_2 (s_l06Vars_1_S n2 s) = some (s_l06Vars_1_E n2 e) := by
  refine lrG (fun s o h => ?_) h
  simp only [s_l06Vars_1_s] at h
  simp +decide only [s_l06Vars_1_S, s_l06Vars_1_E, b_s_l06Vars_2, go_sem, reduceIte, Nat.reduceAdd]
  all_goals exact go
noncomputable def s_l06Vars (n : Int) : Option (Int) :=
  (Loop (s_l06Vars_1_s n) (0 : Int)).bind fun e_ =>
  some e_.1
theorem s_l06Vars_c {n r} (h : s_l06Vars n = some r) : Call tab ow 53 [I n] [] = some (I r, []) := by
  rw [Call_run (af := a_s_l06Vars) rfl]
  unfold s_l06Vars at h
  simp +decide only [a_s_l06Vars, b_s_l06Vars, go_sem, reduceIte, Nat.reduceAdd]
  have d1 := @s_l06Vars_1_l
  all_goals exact go
noncomputable def s_l01Mul (a : Int) (b : Int) : Option (Int) :=
  some ((IntKind.wrap .i64 (a * b)).tmod (2130706433 : Int))
theorem s_l01Mul_c {a b r} (h : s_l01Mul a b = some r) : Call tab ow 62 [I a, I b] [] = some (I r, []) := by
  rw [Call_run (af := a_s_l01Mul) rfl]
  unfold s_l01Mul at h
  simp +decide only [a_s_l01Mul, b_s_l01Mul, go_sem, reduceIte, Nat.reduceAdd]
  all_goals exact go
noncomputable def s_l01Pow_1_s : Int × Int × Int → Option ((Int × Int × Int) ⊕ ((Int × Int × Int × Bool)))
  | (a2, n2, r_) =>
    br (decide (n2 > (0 : Int))) (
      br ((n2.tmod (2 : Int)) == (1 : Int)) (
        (s_l01Mul r_ a2).bind fun r_2 =>
        (s_l01Mul a2 a2).bind fun r_3 =>
        some (.inl (r_3, (IntKind.wrap .i64 (n2.tdiv (2 : Int))), r_2))) (
        (s_l01Mul a2 a2).bind fun r_4 =>
        some (.inl (r_4, (IntKind.wrap .i64 (n2.tdiv (2 : Int))), r_)))) (
      some (.inr (a2, n2, r_, decide (n2 > (0 : Int)))))
@[reducible] def s_l01Pow_1_S (s : Int × Int × Int) : St := ⟨[(0, I s.1), (1, I s.2.1), (5, I s.2.2)], []⟩
@[reducible] def s_l01Pow_1_E : (Int × Int × Int × Bool) → AExit × St := fun e => (.exit 0, ⟨[(0, I e.1), (1, I e.2.1), (5, I e.2.2.1), (7, B e.2.2.2)], []⟩)
theorem s_l01Pow_1_l { s e} (h : Loop (s_l01Pow_1_s) s = some e) : LoopX tab ow (.close [5002,6002]) b_s_l01Pow_2 (s_l01Pow_1_S s) = some (s_l01Pow_1_E e) := by
  refine lrG (fun s o h => ?_) h
  obtain ⟨_, _, _⟩ := s
  simp only [s_l01Pow_1_s] at h
  simp +decide only [s_l01Pow_1_S, s_l01Pow_1_E, b_s_l01Pow_2, go_sem, reduceIte, Nat.reduceAdd]
  have d1 := @s_l01Mul_c
  all_goals exact go
noncomputable def s_l01Pow (a : Int) (n : Int) : Option (Int) :=
  (Loop (s_l01Pow_1_s) (a, n, (1 : Int))).bind fun e_ =>
  some e_.2.2.1
theorem s_l01Pow_c {a n r} (h : s_l01Pow a n = some r) : Call tab ow 67 [I a, I n] [] = some (I r, []) := by
  rw [Call_run (af := a_s_l01Pow) rfl]
  unfold s_l01Pow at h
  simp +decide only [a_s_l01Pow, b_s_l01Pow, go_sem, reduceIte, Nat.reduceAdd]
  have d1 := @s_l01Pow_1_l
  all_goals exact go
noncomputable def s_l01Root (k : Int) : Option (Int) :=
  br (decide (0 ≤ (IntKind.wrap .u64 (IntKind.wrap .i64 ((24 : Int) - k))))) (
    (s_l01Pow (3 : Int) (shl64 .i64 (127 : Int) (IntKind.wrap .u64 (IntKind.wrap .i64 ((24 : Int) - k))))).bind fun r_ =>
    some r_) (
    none)
theorem s_l01Root_c {k r} (h : s_l01Root k = some r) : Call tab ow 52 [I k] [] = some (I r, []) := by
  rw [Call_run (af := a_s_l01Root) rfl]
  unfold s_l01Root at h
  simp +decide only [a_s_l01Root, b_s_l01Root, go_sem, reduceIte, Nat.reduceAdd]
  have d1 := @s_l01Pow_c
  all_goals exact go
noncomputable def s_l02Of (n : Int) : Option (Ext) :=
  some (Ext.mk n (0 : Int))
theorem s_l02Of_c {n r} (h : s_l02Of n = some r) : Call tab ow 64 [I n] [] = some (.agg [I r.A, I r.B], []) := by
  rw [Call_run (af := a_s_l02Of) rfl]
  unfold s_l02Of at h
  simp +decide only [a_s_l02Of, b_s_l02Of, go_sem, reduceIte, Nat.reduceAdd]
  all_goals exact go
noncomputable def s_l01Add (a : Int) (b : Int) : Option (Int) :=
  some ((IntKind.wrap .i64 (a + b)).tmod (2130706433 : Int))
theorem s_l01Add_c {a b r} (h : s_l01Add a b = some r) : Call tab ow 73 [I a, I b] [] = some (I r, []) := by
  rw [Call_run (af := a_s_l01Add) rfl]
  unfold s_l01Add at h
  simp +decide only [a_s_l01Add, b_s_l01Add, go_sem, reduceIte, Nat.reduceAdd]
  all_goals exact go
noncomputable def s_l02Mul (a : Ext) (b : Ext) : Option (Ext) :=
  (s_l01Mul a.A b.A).bind fun r_ =>
  (s_l01Mul a.B b.B).bind fun r_2 =>
  (s_l01Add r_ ((IntKind.wrap .i64 ((3 : Int) * r_2)).tmod (2130706433 : Int))).bind fun r_3 =>
  (s_l01Mul a.A b.B).bind fun r_4 =>
  (s_l01Mul a.B b.A).bind fun r_5 =>
  (s_l01Add r_4 r_5).bind fun r_6 =>
  some (Ext.mk r_3 r_6)
theorem s_l02Mul_c {a b r} (h : s_l02Mul a b = some r) : Call tab ow 63 [.agg [I a.A, I a.B], .agg [I b.A, I b.B]] [] = some (.agg [I r.A, I r.B], []) := by
  rw [Call_run (af := a_s_l02Mul) rfl]
  unfold s_l02Mul at h
  simp +decide only [a_s_l02Mul, b_s_l02Mul, go_sem, reduceIte, Nat.reduceAdd]
  have d1 := @s_l01Mul_c
  have d2 := @s_l01Add_c
  all_goals exact go
noncomputable def s_l02Add (a : Ext) (b : Ext) : Option (Ext) :=
  (s_l01Add a.A b.A).bind fun r_ =>
  (s_l01Add a.B b.B).bind fun r_2 =>
  some (Ext.mk r_ r_2)
theorem s_l02Add_c {a b r} (h : s_l02Add a b = some r) : Call tab ow 65 [.agg [I a.A, I a.B], .agg [I b.A, I b.B]] [] = some (.agg [I r.A, I r.B], []) := by
  rw [Call_run (af := a_s_l02Add) rfl]
  unfold s_l02Add at h
  simp +decide only [a_s_l02Add, b_s_l02Add, go_sem, reduceIte, Nat.reduceAdd]
  have d1 := @s_l01Add_c
  all_goals exact go
noncomputable def s_l01Sub (a : Int) (b : Int) : Option (Int) :=
  some ((IntKind.wrap .i64 ((IntKind.wrap .i64 (a + (2130706433 : Int))) - b)).tmod (2130706433 : Int))
theorem s_l01Sub_c {a b r} (h : s_l01Sub a b = some r) : Call tab ow 74 [I a, I b] [] = some (I r, []) := by
  rw [Call_run (af := a_s_l01Sub) rfl]
  unfold s_l01Sub at h
  simp +decide only [a_s_l01Sub, b_s_l01Sub, go_sem, reduceIte, Nat.reduceAdd]
  all_goals exact go
noncomputable def s_l02Sub (a : Ext) (b : Ext) : Option (Ext) :=
  (s_l01Sub a.A b.A).bind fun r_ =>
  (s_l01Sub a.B b.B).bind fun r_2 =>
  some (Ext.mk r_ r_2)
theorem s_l02Sub_c {a b r} (h : s_l02Sub a b = some r) : Call tab ow 66 [.agg [I a.A, I a.B], .agg [I b.A, I b.B]] [] = some (.agg [I r.A, I r.B], []) := by
  rw [Call_run (af := a_s_l02Sub) rfl]
  unfold s_l02Sub at h
  simp +decide only [a_s_l02Sub, b_s_l02Sub, go_sem, reduceIte, Nat.reduceAdd]
  have d1 := @s_l01Sub_c
  all_goals exact go
section
theorem s_l07Ntt_k0 : mkR 4000 [] = rws eExt [] := rfl
attribute [local go_sem] s_l07Ntt_k0
theorem s_l07Ntt_k1 : mkR 5000 [] = rws eExt [] := rfl
attribute [local go_sem] s_l07Ntt_k1
theorem s_l07Ntt_k2 : mkR 6000 [] = rws eExt [] := rfl
attribute [local go_sem] s_l07Ntt_k2
theorem s_l07Ntt_k3 : mkR 10005 [] = rws eExt [] := rfl
attribute [local go_sem] s_l07Ntt_k3
theorem s_l07Ntt_k4 : mkR 11006 [] = rws eExt [] := rfl
attribute [local go_sem] s_l07Ntt_k4
theorem s_l07Ntt_k5 : ∀ k, repR 14001 k [I (0 : Int), I (0 : Int)] = rws eExt (List.replicate k (Ext.mk (0 : Int) (0 : Int))) := fun _ => repT eExt (Ext.mk (0 : Int) (0 : Int)) _ _
attribute [local go_sem] s_l07Ntt_k5
noncomputable def s_l07Ntt_1_s (ListtoArray2 : List Ext) (t : Int) (t2 : Int) : (List Ext) × (List Ext) × Int → Option (((List Ext) × (List Ext) × Int) ⊕ (((List Ext) × (List Ext) × Int × Bool)))
  | (l, l2, t3) =>
    br (decide (t3 < t2)) (
      (atL ListtoArray2 t3).bind fun x =>
      br (fits ((l ++ ([x] : List Ext)).length) 16) (
        (atL ListtoArray2 (IntKind.wrap .i64 (t3 + (1 : Int)))).bind fun x2 =>
        br (fits ((l2 ++ ([x2] : List Ext)).length) 16) (
          some (.inl ((l ++ ([x] : List Ext)), (l2 ++ ([x2] : List Ext)), (IntKind.wrap .i64 (t3 + (2 : Int)))))) (
          none)) (
        none)) (
      some (.inr (l, l2, t3, decide (t3 < t2))))
@[reducible] def s_l07Ntt_1_S (ListtoArray2 : List Ext) (t : Int) (t2 : Int) (s : (List Ext) × (List Ext) × Int) : St := ⟨[(0, sl eExt ListtoArray2), (1, I t), (5, I t2), (6, .sl 5000 0 s.1.length), (7, .sl 6000 0 s.2.1.length), (8, I s.2.2)], [(5000, ⟨2, false, rws eExt s.1⟩), (6000, ⟨2, false, rws eExt s.2.1⟩)]⟩
@[reducible] def s_l07Ntt_1_E (ListtoArray2 : List Ext) (t : Int) (t2 : Int) : ((List Ext) × (List Ext) × Int × Bool) → AExit × St := fun e => (.exit 0, ⟨[(0, sl eExt ListtoArray2), (1, I t), (5, I t2), (6, .sl 5000 0 e.1.length), (7, .sl 6000 0 e.2.1.length), (8, I e.2.2.1), (26, B e.2.2.2)], [(5000, ⟨2, false, rws eExt e.1⟩), (6000, ⟨2, false, rws eExt e.2.1⟩)]⟩)
theorem s_l07Ntt_1_l {ListtoArray2 t t2 s e} (h : Loop (s_l07Ntt_1_s ListtoArray2 t t2) s = some e) : LoopX tab ow (.close [10005,10006,11006,11007]) b_s_l07Ntt_7 (s_l07Ntt_1_S ListtoArray2 t t2 s) = some (s_l07Ntt_1_E ListtoArray2 t t2 e) := by
  refine lrG (fun s o h => ?_) h
  obtain ⟨_, _, _⟩ := s
  simp only [s_l07Ntt_1_s] at h
  simp +decide only [s_l07Ntt_1_S, s_l07Ntt_1_E, b_s_l07Ntt_7, go_sem, reduceIte, Nat.reduceAdd]
  all_goals exact go
noncomputable def s_l07Ntt_2_s (t4 : Int) (t5 : Int) (t6 : List Ext) (t7 : List Ext) : (List Ext) × Int × Int → Option (((List Ext) × Int × Int) ⊕ (((List Ext) × Int × Int × Bool)))
  | (l3, t8, t9) =>
    br (decide (t9 < (IntKind.wrap .i64 (t5.tdiv (2 : Int))))) (
      (atL t7 t9).bind fun x3 =>
      (s_l02Of t8).bind fun r_5 =>
      (s_l02Mul x3 r_5).bind fun r_6 =>
      (atL t6 t9).bind fun x4 =>
      (s_l02Add x4 r_6).bind fun r_7 =>
      br (decide (0 ≤ t9)) (
        br (decide (t9.toNat < l3.length)) (
          (l3[t9.toNat]?).bind fun x5 =>
          (atL t6 t9).bind fun x6 =>
          (s_l02Sub x6 r_6).bind fun r_8 =>
          br (decide (0 ≤ (IntKind.wrap .i64 (t9 + (IntKind.wrap .i64 (t5.tdiv (2 : Int))))))) (
            br (decide ((IntKind.wrap .i64 (t9 + (IntKind.wrap .i64 (t5.tdiv (2 : Int))))).toNat < l3.length)) (
              ((l3.set t9.toNat r_7)[(IntKind.wrap .i64 (t9 + (IntKind.wrap .i64 (t5.tdiv (2 : Int))))).toNat]?).bind fun x7 =>
              (s_l01Mul t8 t4).bind fun r_9 =>
              some (.inl (((l3.set t9.toNat r_7).set ((IntKind.wrap .i64 (t9 + (IntKind.wrap .i64 (t5.tdiv (2 : Int))))).toNat) r_8), r_9, (IntKind.wrap .i64 (t9 + (1 : Int)))))) (
              none)) (
            none)) (
          none)) (
        none)) (
      some (.inr (l3, t8, t9, decide (t9 < (IntKind.wrap .i64 (t5.tdiv (2 : Int)))))))
@[reducible] def s_l07Ntt_2_S (t4 : Int) (t5 : Int) (t6 : List Ext) (t7 : List Ext) (s : (List Ext) × Int × Int) : St := ⟨[(1, I t4), (5, I t5), (9, sl eExt t6), (10, sl eExt t7), (11, .sl 14001 0 s.1.length), (12, I s.2.1), (13, I s.2.2)], [(5000, dead), (6000, dead), (14001, ⟨2, false, rws eExt s.1⟩)]⟩
@[reducible] def s_l07Ntt_2_E (t4 : Int) (t5 : Int) (t6 : List Ext) (t7 : List Ext) : ((List Ext) × Int × Int × Bool) → AExit × St := fun e => (.exit 2, ⟨[(1, I t4), (5, I t5), (9, sl eExt t6), (10, sl eExt t7), (11, .sl 14001 0 e.1.length), (12, I e.2.1), (13, I e.2.2.1), (59, B e.2.2.2)], [(5000, dead), (6000, dead), (14001, ⟨2, false, rws eExt e.1⟩)]⟩)
theorem s_l07Ntt_2_l {t4 t5 t6 t7 s e} (h : Loop (s_l07Ntt_2_s t4 t5 t6 t7) s = some e) : LoopX tab ow (.close [19005,19006,19007,20007,21010,22002]) b_s_l07Ntt_16 (s_l07Ntt_2_S t4 t5 t6 t7 s) = some (s_l07Ntt_2_E t4 t5 t6 t7 e) := by
  refine lrG (fun s o h => ?_) h
  obtain ⟨_, _, _⟩ := s
  simp only [s_l07Ntt_2_s] at h
  simp +decide only [s_l07Ntt_2_S, s_l07Ntt_2_E, b_s_l07Ntt_16, go_sem, reduceIte, Nat.reduceAdd]
  have d1 := @s_l02Of_c
  have d2 := @s_l02Mul_c
  have d3 := @s_l02Add_c
  have d4 := @s_l02Sub_c
  have d5 := @s_l01Mul_c
  all_goals exact go
noncomputable def s_l07Ntt_n : Nat → (List Ext) → Int → Option ((List Ext))
  | 0, _, _ => none
  | n_ + 1, ListtoArray, a =>
    br (((ListtoArray.length : Nat) : Int) == (1 : Int)) (
      br (fits ((([] : List Ext) ++ ListtoArray).length) 16) (
        some (([] : List Ext) ++ ListtoArray)) (
        none)) (
      (Loop (s_l07Ntt_1_s ListtoArray a ((ListtoArray.length : Nat) : Int)) (([] : List Ext), ([] : List Ext), (0 : Int))).bind fun e_ =>
      (s_l01Mul a a).bind fun r_ =>
      (s_l07Ntt_n n_ e_.1 r_).bind fun r_2 =>
      (s_l01Mul a a).bind fun r_3 =>
      (s_l07Ntt_n n_ e_.2.1 r_3).bind fun r_4 =>
      br (mkOK ((ListtoArray.length : Nat) : Int) ((ListtoArray.length : Nat) : Int) 16) (
        (Loop (s_l07Ntt_2_s a ((ListtoArray.length : Nat) : Int) r_2 r_4) ((List.replicate (((ListtoArray.length : Nat) : Int).toNat) (Ext.mk (0 : Int) (0 : Int))), (1 : Int), (0 : Int))).bind fun e_2 =>
        some e_2.1) (
        none))
theorem s_l07Ntt_n_c (n_ : Nat) : ∀ {ListtoArray : (List Ext)} {a : Int} {r : (List Ext)}, s_l07Ntt_n n_ ListtoArray a = some r → Call tab ow 51 [sl eExt ListtoArray, I a] [] = some (sl eExt r, []) := by
  induction n_ with
  | zero => intro _ _ r h; cases h
  | succ n_ ih =>
    intro ListtoArray a r h
    rw [Call_run (af := a_s_l07Ntt) rfl]
    simp only [s_l07Ntt_n] at h
    simp +decide only [a_s_l07Ntt, b_s_l07Ntt, go_sem, reduceIte, Nat.reduceAdd]
    have d1 := @s_l07Ntt_1_l
    have d2 := @s_l01Mul_c
    have d3 := @ih
    have d4 := @s_l07Ntt_2_l
    all_goals exact go
noncomputable def s_l07Ntt (ListtoArray : (List Ext)) (a : Int) : Option ((List Ext)) := lim (fun n_ => s_l07Ntt_n n_ ListtoArray a)
theorem s_l07Ntt_c {ListtoArray : (List Ext)} {a : Int} {r : (List Ext)} (h : s_l07Ntt ListtoArray a = some r) : Call tab ow 51 [sl eExt ListtoArray, I a] [] = some (sl eExt r, []) := by
  obtain ⟨n_, hn⟩ := of_lim h
  exact s_l07Ntt_n_c n_ hn
end
section
theorem s_l07Encode_k0 : mkR 3000 [] = rws eExt [] := rfl
attribute [local go_sem] s_l07Encode_k0
theorem s_l07Encode_k1 : ∀ k, repR 3007 k [I (0 : Int), I (0 : Int)] = rws eExt (List.replicate k (Ext.mk (0 : Int) (0 : Int))) := fun _ => repT eExt (Ext.mk (0 : Int) (0 : Int)) _ _
attribute [local go_sem] s_l07Encode_k1
noncomputable def s_l07Encode (coefs : (List Ext)) (rate : Int) : Option ((List Ext)) :=
  br (decide (0 ≤ (IntKind.wrap .u64 rate))) (
    br (fits ((([] : List Ext) ++ coefs).length) 16) (
      br (mkOK (IntKind.wrap .i64 ((shl64 .i64 ((coefs.length : Nat) : Int) (IntKind.wrap .u64 rate)) - ((coefs.length : Nat) : Int))) (IntKind.wrap .i64 ((shl64 .i64 ((coefs.length : Nat) : Int) (IntKind.wrap .u64 rate)) - ((coefs.length : Nat) : Int))) 16 && decide ((IntKind.wrap .i64 ((shl64 .i64 ((coefs.length : Nat) : Int) (IntKind.wrap .u64 rate)) - ((coefs.length : Nat) : Int))) ≤ 1099511627776)) (
        br (fits (((([] : List Ext) ++ coefs) ++ List.replicate ((IntKind.wrap .i64 ((shl64 .i64 ((coefs.length : Nat) : Int) (IntKind.wrap .u64 rate)) - ((coefs.length : Nat) : Int))).toNat) (Ext.mk (0 : Int) (0 : Int))).length) 16) (
          (s_l06Vars (shl64 .i64 ((coefs.length : Nat) : Int) (IntKind.wrap .u64 rate))).bind fun r_ =>
          (s_l01Root r_).bind fun r_2 =>
          (s_l07Ntt ((([] : List Ext) ++ coefs) ++ List.replicate ((IntKind.wrap .i64 ((shl64 .i64 ((coefs.length : Nat) : Int) (IntKind.wrap .u64 rate)) - ((coefs.length : Nat) : Int))).toNat) (Ext.mk (0 : Int) (0 : Int))) r_2).bind fun r_3 =>
          some r_3) (
          none)) (
        none)) (
      none)) (
    none)
theorem s_l07Encode_c {coefs rate r} (h : s_l07Encode coefs rate = some r) : Call tab ow 32 [sl eExt coefs, I rate] [] = some (sl eExt r, []) := by
  rw [Call_run (af := a_s_l07Encode) rfl]
  unfold s_l07Encode at h
  simp +decide only [a_s_l07Encode, b_s_l07Encode, go_sem, reduceIte, Nat.reduceAdd]
  have d1 := @s_l06Vars_c
  have d2 := @s_l01Root_c
  have d3 := @s_l07Ntt_c
  all_goals exact go
end
section
theorem s_EncodeWord_k0 : mkR 3000 [] = rws eExt [] := rfl
attribute [local go_sem] s_EncodeWord_k0
theorem s_EncodeWord_k1 : mkR 6000 [] = rws eExt [] := rfl
attribute [local go_sem] s_EncodeWord_k1
theorem s_EncodeWord_k2 : mkR 8000 [] = rws eExt [] := rfl
attribute [local go_sem] s_EncodeWord_k2
noncomputable def s_EncodeWord (coefs : (List Ext)) (rate : Int) : Option ((List Ext) × Int) :=
  br (decide (((coefs.length : Nat) : Int) > (4096 : Int))) (
    some (([] : List Ext), (2 : Int))) (
    (s_l07Ask coefs).bind fun r_ =>
    br (r_ != (0 : Int)) (
      some (([] : List Ext), r_)) (
      (s_l01In rate (0 : Int) (9 : Int)).bind fun r_2 =>
      br (!r_2) (
        some (([] : List Ext), (4 : Int))) (
        br (decide (0 ≤ (IntKind.wrap .u64 rate))) (
          br (decide ((shl64 .i64 ((coefs.length : Nat) : Int) (IntKind.wrap .u64 rate)) > (512 : Int))) (
            some (([] : List Ext), (4 : Int))) (
            (s_l07Encode coefs rate).bind fun r_3 =>
            some (r_3, (0 : Int)))) (
          none))))
theorem s_EncodeWord_c {coefs rate r} (h : s_EncodeWord coefs rate = some r) : Call tab ow 14 [sl eExt coefs, I rate] [] = some (.tup [sl eExt r.1, I r.2], []) := by
  rw [Call_run (af := a_s_EncodeWord) rfl]
  unfold s_EncodeWord at h
  simp +decide only [a_s_EncodeWord, b_s_EncodeWord, go_sem, reduceIte, Nat.reduceAdd]
  have d1 := @s_l07Ask_c
  have d2 := @s_l01In_c
  have d3 := @s_l07Encode_c
  all_goals exact go
end
noncomputable def i_unNtt_1_s (scale : Int) (t : Int) : (List Ext) × Int → Option (((List Ext) × Int) ⊕ (((List Ext) × Int × Bool)))
  | (l, t2) =>
    br (decide (t2 < t)) (
      br (decide (0 ≤ t2)) (
        br (decide (t2.toNat < l.length)) (
          (l[t2.toNat]?).bind fun x =>
          (i_Ext_scaled x scale).bind fun r_6 =>
          br (decide (0 ≤ t2)) (
            br (decide (t2.toNat < l.length)) (
              (l[t2.toNat]?).bind fun x2 =>
              some (.inl ((l.set t2.toNat r_6), (IntKind.wrap .i64 (t2 + (1 : Int)))))) (
              none)) (
            none)) (
          none)) (
        none)) (
      some (.inr (l, t2, decide (t2 < t))))
@[reducible] def i_unNtt_1_S (scale : Int) (t : Int) (s : (List Ext) × Int) : St := ⟨[(3, .sl 2006 0 s.1.length), (4, I scale), (17, I t), (18, I s.2)], [(2006, ⟨2, false, rws eExt s.1⟩)]⟩
@[reducible] def i_unNtt_1_E (scale : Int) (t : Int) : ((List Ext) × Int × Bool) → AExit × St := fun e => (.exit 0, ⟨[(3, .sl 2006 0 e.1.length), (4, I scale), (17, I t), (18, I e.2.1), (19, B e.2.2)], [(2006, ⟨2, false, rws eExt e.1⟩)]⟩)
theorem i_unNtt_1_l {scale t s e} (h : Loop (i_unNtt_1_s scale t) s = some e) : LoopX tab ow (.close [6007]) b_i_unNtt_3 (i_unNtt_1_S scale t s) = some (i_unNtt_1_E scale t e) := by
  refine lrG (fun s o h => ?_) h
  obtain ⟨_, _⟩ := s
  simp only [i_unNtt_1_s] at h
  simp +decide only [i_unNtt_1_S, i_unNtt_1_E, b_i_unNtt_3, go_sem, reduceIte, Nat.reduceAdd]
  have d1 := @i_Ext_scaled_c
  all_goals exact go
noncomputable def i_unNtt (word : (List Ext)) : Option ((List Ext)) :=
  (i_logOf ((word.length : Nat) : Int)).bind fun r_ =>
  (i_root r_).bind fun r_2 =>
  (i_inverse r_2).bind fun r_3 =>
  (i_values word r_3).bind fun r_4 =>
  (i_inverse ((word.length : Nat) : Int)).bind fun r_5 =>
  (Loop (i_unNtt_1_s r_5 ((r_4.length : Nat) : Int)) (r_4, (0 : Int))).bind fun e_ =>
  some e_.1
theorem i_unNtt_c {word r} (h : i_unNtt word = some r) : Call tab ow 34 [sl eExt word] [] = some (sl eExt r, []) := by
  rw [Call_run (af := a_i_unNtt) rfl]
  unfold i_unNtt at h
  simp +decide only [a_i_unNtt, b_i_unNtt, go_sem, reduceIte, Nat.reduceAdd]
  have d1 := @i_logOf_c
  have d2 := @i_root_c
  have d3 := @i_inverse_c
  have d4 := @i_values_c
  have d5 := @i_unNtt_1_l
  all_goals exact go
noncomputable def i_IsWord_1 (a : Ext) : Option (Bool) :=
  br (a.A == (0 : Int)) (
    br (a.B == (0 : Int)) (
      some false) (
      some true)) (
    some true)
theorem i_IsWord_1_c {a r} (h : i_IsWord_1 a = some r) : Call tab ow 35 [.agg [I a.A, I a.B]] [] = some (B r, []) := by
  rw [Call_run (af := a_i_IsWord_1) rfl]
  unfold i_IsWord_1 at h
  simp +decide only [a_i_IsWord_1, b_i_IsWord_1, go_sem, reduceIte, Nat.reduceAdd]
  all_goals exact go
noncomputable def slices_IndexFunc_Li_Ext_i_Ext_IsWord_1_1_s (s2 : List Ext) (t : Int) : Int → Option ((Int) ⊕ (Int ⊕ (Int × Bool)))
  | t2 =>
    br (decide (t2 < t)) (
      (atL s2 t2).bind fun x =>
      (i_IsWord_1 x).bind fun r_ =>
      br r_ (
        some (.inr (.inl t2))) (
        some (.inl (IntKind.wrap .i64 (t2 + (1 : Int)))))) (
      some (.inr (.inr (t2, decide (t2 < t)))))
@[reducible] def slices_IndexFunc_Li_Ext_i_Ext_IsWord_1_1_S (s2 : List Ext) (t : Int) (s : Int) : St := ⟨[(0, sl eExt s2), (1, .fn 35 []), (7, I t), (8, I s)], []⟩
@[reducible] def slices_IndexFunc_Li_Ext_i_Ext_IsWord_1_1_E (s2 : List Ext) (t : Int) : (Int ⊕ (Int × Bool)) → AExit × St := alt (fun e => ((.ret, ⟨[(4, I e)], []⟩) : AExit × St)) (fun e => (.exit 0, ⟨[(0, sl eExt s2), (1, .fn 35 []), (7, I t), (8, I e.1), (9, B e.2)], []⟩))
theorem slices_IndexFunc_Li_Ext_i_Ext_IsWord_1_1_l {s2 t s e} (h : Loop (slices_IndexFunc_Li_Ext_i_Ext_IsWord_1_1_s s2 t) s = some e) : LoopX tab ow (.close [5005]) b_slices_IndexFunc_Li_Ext_i_Ext_2 (slices_IndexFunc_Li_Ext_i_Ext_IsWord_1_1_S s2 t s) = some (slices_IndexFunc_Li_Ext_i_Ext_IsWord_1_1_E s2 t e) := by
  refine lrG (fun s o h => ?_) h
  simp only [slices_IndexFunc_Li_Ext_i_Ext_IsWord_1_1_s] at h
  simp +decide only [slices_IndexFunc_Li_Ext_i_Ext_IsWord_1_1_S, slices_IndexFunc_Li_Ext_i_Ext_IsWord_1_1_E, b_slices_IndexFunc_Li_Ext_i_Ext_2, go_sem, reduceIte, Nat.reduceAdd]
  have d1 := @i_IsWord_1_c
  all_goals exact go
noncomputable def slices_IndexFunc_Li_Ext_i_Ext_IsWord_1 (s : (List Ext)) : Option (Int) :=
  (Loop (slices_IndexFunc_Li_Ext_i_Ext_IsWord_1_1_s s ((s.length : Nat) : Int)) (0 : Int)).bind (alt (fun e_2 =>
    some e_2) (fun e_3 =>
    some (-1 : Int)))
theorem slices_IndexFunc_Li_Ext_i_Ext_IsWord_1_c {s r} (h : slices_IndexFunc_Li_Ext_i_Ext_IsWord_1 s = some r) : Call tab ow 54 [sl eExt s, .fn 35 []] [] = some (I r, []) := by
  rw [Call_run (af := a_slices_IndexFunc_Li_Ext_i_Ext) rfl]
  unfold slices_IndexFunc_Li_Ext_i_Ext_IsWord_1 at h
  simp +decide only [a_slices_IndexFunc_Li_Ext_i_Ext, b_slices_IndexFunc_Li_Ext_i_Ext, go_sem, reduceIte, Nat.reduceAdd]
  have d1 := @slices_IndexFunc_Li_Ext_i_Ext_IsWord_1_1_l
  all_goals exact go
noncomputable def slices_ContainsFunc_Li_Ext_i_Ext_IsWord_1 (s : (List Ext)) : Option (Bool) :=
  (slices_IndexFunc_Li_Ext_i_Ext_IsWord_1 s).bind fun r_ =>
  some (decide (r_ ≥ (0 : Int)))
theorem slices_ContainsFunc_Li_Ext_i_Ext_IsWord_1_c {s r} (h : slices_ContainsFunc_Li_Ext_i_Ext_IsWord_1 s = some r) : Call tab ow 33 [sl eExt s, .fn 35 []] [] = some (B r, []) := by
  rw [Call_run (af := a_slices_ContainsFunc_Li_Ext_i_Ext) rfl]
  unfold slices_ContainsFunc_Li_Ext_i_Ext_IsWord_1 at h
  simp +decide only [a_slices_ContainsFunc_Li_Ext_i_Ext, b_slices_ContainsFunc_Li_Ext_i_Ext, go_sem, reduceIte, Nat.reduceAdd]
  have d1 := @slices_IndexFunc_Li_Ext_i_Ext_IsWord_1_c
  all_goals exact go
noncomputable def i_IsWord (word : (List Ext)) (rate : Int) : Option (Bool × Int) :=
  (i_wordCode word).bind fun r_ =>
  br (r_ != (0 : Int)) (
    some (false, r_)) (
    (i_in rate (0 : Int) (9 : Int)).bind fun r_2 =>
    br (!r_2) (
      some (false, (4 : Int))) (
      br (decide (0 ≤ rate)) (
        br (decide ((shr64 .i64 ((word.length : Nat) : Int) rate) < (1 : Int))) (
          some (false, (4 : Int))) (
          (i_unNtt word).bind fun r_3 =>
          br (decide (0 ≤ rate)) (
            (subL r_3 (shr64 .i64 ((word.length : Nat) : Int) rate) ((r_3.length : Nat) : Int)).bind fun y =>
            (slices_ContainsFunc_Li_Ext_i_Ext_IsWord_1 y).bind fun r_4 =>
            some ((!r_4), (0 : Int))) (
            none))) (
        none)))
theorem i_IsWord_c {word rate r} (h : i_IsWord word rate = some r) : Call tab ow 15 [sl eExt word, I rate] [] = some (.tup [B r.1, I r.2], []) := by
  rw [Call_run (af := a_i_IsWord) rfl]
  unfold i_IsWord at h
  simp +decide only [a_i_IsWord, b_i_IsWord, go_sem, reduceIte, Nat.reduceAdd]
  have d1 := @i_wordCode_c
  have d2 := @i_in_c
  have d3 := @i_unNtt_c
  have d4 := @slices_ContainsFunc_Li_Ext_i_Ext_IsWord_1_c
  all_goals exact go
noncomputable def w_one : Option (Ext) :=
  some (Ext.mk (1 : Int) (0 : Int))
theorem w_one_c {r} (h : w_one = some r) : Call tab ow 16 [] [] = some (.agg [I r.A, I r.B], []) := by
  rw [Call_run (af := a_w_one) rfl]
  unfold w_one at h
  simp +decide only [a_w_one, b_w_one, go_sem, reduceIte, Nat.reduceAdd]
  all_goals exact go
section
theorem w_FnWord_k0 : mkR 17000 [] = rws eExt [] := rfl
attribute [local go_sem] w_FnWord_k0
noncomputable def w_FnWord (ListtoArray : (List UInt8)) (a : (List UInt8)) : Option (Bool) :=
  br (decide (((ListtoArray.length : Nat) : Int) > (1048576 : Int))) (
    some true) (
    br (decide (((a.length : Nat) : Int) > (1048576 : Int))) (
      some true) (
      (w_at a (0 : Int) (3 : Int)).bind fun r_ =>
      (w_at a (1 : Int) (3 : Int)).bind fun r_2 =>
      br (decide (0 ≤ (IntKind.wrap .u64 (IntKind.wrap .i64 ((1 : Int) + r_))))) (
        (s_ExtsOf ListtoArray (shl64 .i64 (1 : Int) (IntKind.wrap .u64 (IntKind.wrap .i64 ((1 : Int) + r_))))).bind fun r_3 =>
        (i_EncodeWord r_3 (IntKind.wrap .i64 ((1 : Int) + r_2))).bind fun r_4 =>
        (s_EncodeWord r_3 (IntKind.wrap .i64 ((1 : Int) + r_2))).bind fun r_5 =>
        (i_IsWord r_4.1 (IntKind.wrap .i64 ((1 : Int) + r_2))).bind fun r_6 =>
        br (r_4.2 != (0 : Int)) (
          some false) (
          (w_sameExts r_4.1 r_5.1).bind fun r_7 =>
          br (!r_7) (
            some false) (
            br (decide (0 ≤ (IntKind.wrap .u64 (IntKind.wrap .i64 ((1 : Int) + r_2))))) (
              br (((r_4.1.length : Nat) : Int) != (shl64 .i64 ((r_3.length : Nat) : Int) (IntKind.wrap .u64 (IntKind.wrap .i64 ((1 : Int) + r_2))))) (
                some false) (
                br (r_6.2 != (0 : Int)) (
                  some false) (
                  br (!r_6.1) (
                    some false) (
                    (s_ExtOf a).bind fun r_8 =>
                    (i_FoldWord r_4.1 r_8).bind fun r_9 =>
                    (i_IsWord r_9.1 (IntKind.wrap .i64 ((1 : Int) + r_2))).bind fun r_10 =>
                    br (r_9.2 != (0 : Int)) (
                      some false) (
                      br ((IntKind.wrap .i64 (((r_9.1.length : Nat) : Int) * (2 : Int))) != ((r_4.1.length : Nat) : Int)) (
                        some false) (
                        br (r_10.2 != (0 : Int)) (
                          some false) (
                          br (!r_10.1) (
                            some false) (
                            br (fits ((([] : List Ext) ++ r_4.1).length) 16) (
                              (w_at a (2 : Int) (((([] : List Ext) ++ r_4.1).length : Nat) : Int)).bind fun r_11 =>
                              br (decide (0 ≤ r_11)) (
                                br (decide (r_11.toNat < (([] : List Ext) ++ r_4.1).length)) (
                                  ((([] : List Ext) ++ r_4.1)[r_11.toNat]?).bind fun x =>
                                  (w_one).bind fun r_12 =>
                                  (i_ExtAdd x r_12).bind fun r_13 =>
                                  br (decide (0 ≤ r_11)) (
                                    br (decide (r_11.toNat < (([] : List Ext) ++ r_4.1).length)) (
                                      ((([] : List Ext) ++ r_4.1)[r_11.toNat]?).bind fun x2 =>
                                      (i_IsWord ((([] : List Ext) ++ r_4.1).set r_11.toNat r_13.1) (IntKind.wrap .i64 ((1 : Int) + r_2))).bind fun r_14 =>
                                      br (r_13.2 == (0 : Int)) (
                                        br (r_14.2 == (0 : Int)) (
                                          some (!r_14.1)) (
                                          some false)) (
                                        some false)) (
                                      none)) (
                                    none)) (
                                  none)) (
                                none)) (
                              none))))))))) (
              none)))) (
        none)))
theorem w_FnWord_c {ListtoArray a r} (h : w_FnWord ListtoArray a = some r) : Call tab ow 4 [sl eU8 ListtoArray, sl eU8 a] [] = some (B r, []) := by
  rw [Call_run (af := a_w_FnWord) rfl]
  unfold w_FnWord at h
  simp +decide only [a_w_FnWord, b_w_FnWord, go_sem, reduceIte, Nat.reduceAdd]
  have d1 := @w_at_c
  have d2 := @s_ExtsOf_c
  have d3 := @i_EncodeWord_c
  have d4 := @s_EncodeWord_c
  have d5 := @i_IsWord_c
  have d6 := @w_sameExts_c
  have d7 := @s_ExtOf_c
  have d8 := @i_FoldWord_c
  have d9 := @w_one_c
  have d10 := @i_ExtAdd_c
  all_goals exact go
end
end Go.AI.Fn

