/- Walks through the program, with open values. -/
import Derived.Test.YtmhgflhndmcdmaaStr
import Derived.Test.YtmhgflhndmcdmaaTb2
set_option linter.unusedVariables false
set_option linter.unusedSimpArgs false
set_option maxRecDepth 100000
set_option maxHeartbeats 1000000
namespace Go.AI.Fn
noncomputable def i_in (n : Int) (low : Int) (high : Int) : Option (Bool) :=
  br (decide (low ≤ n)) (
    some (decide (n ≤ high))) (
    some false)
theorem i_in_c {n low high r} (h : i_in n low high = some r) : Call tab ow 68 [I n, I low, I high] [] = some (B r, []) := by
  rw [Call_run (af := a_i_in) rfl]
  unfold i_in at h
  simp +decide only [a_i_in, b_i_in, go_sem, reduceIte, Nat.reduceAdd]
  all_goals exact go
noncomputable def i_FieldOK (a : Int) : Option (Bool) :=
  (i_in a (0 : Int) (2130706432 : Int)).bind fun r_ =>
  some r_
theorem i_FieldOK_c {a r} (h : i_FieldOK a = some r) : Call tab ow 70 [I a] [] = some (B r, []) := by
  rw [Call_run (af := a_i_FieldOK) rfl]
  unfold i_FieldOK at h
  simp +decide only [a_i_FieldOK, b_i_FieldOK, go_sem, reduceIte, Nat.reduceAdd]
  have d1 := @i_in_c
  all_goals exact go
noncomputable def i_ExtOK (a : Ext) : Option (Bool) :=
  (i_FieldOK a.A).bind fun r_ =>
  br r_ (
    (i_FieldOK a.B).bind fun r_2 =>
    some r_2) (
    some false)
theorem i_ExtOK_c {a r} (h : i_ExtOK a = some r) : Call tab ow 73 [.agg [I a.A, I a.B]] [] = some (B r, []) := by
  rw [Call_run (af := a_i_ExtOK) rfl]
  unfold i_ExtOK at h
  simp +decide only [a_i_ExtOK, b_i_ExtOK, go_sem, reduceIte, Nat.reduceAdd]
  have d1 := @i_FieldOK_c
  all_goals exact go
noncomputable def i_are_i_Ext_1_ExtOK (x : Ext) : Option (Bool) :=
  (i_ExtOK x).bind fun r_ =>
  some (!r_)
theorem i_are_i_Ext_1_ExtOK_c {x r} (h : i_are_i_Ext_1_ExtOK x = some r) : Call tab ow 137 [.agg [I x.A, I x.B], .ptr 0 0 0 1] [⟨1, true, [[.fn 73 []]]⟩] = some (B r, [⟨1, true, [[.fn 73 []]]⟩]) := by
  rw [Call_run (af := a_i_are_i_Ext_1) rfl]
  unfold i_are_i_Ext_1_ExtOK at h
  simp +decide only [a_i_are_i_Ext_1, b_i_are_i_Ext_1, go_sem, reduceIte, Nat.reduceAdd]
  have d1 := @i_ExtOK_c
  all_goals exact go
noncomputable def slices_IndexFunc_Li_Ext_i_Ext_are_i_Ext_1_ExtOK_1_s (s2 : List Ext) (t : Int) : Int → Option ((Int) ⊕ (Int ⊕ (Int × Bool)))
  | t2 =>
    br (decide (t2 < t)) (
      (atL s2 t2).bind fun x =>
      (i_are_i_Ext_1_ExtOK x).bind fun r_ =>
      br r_ (
        some (.inr (.inl t2))) (
        some (.inl (IntKind.wrap .i64 (t2 + (1 : Int)))))) (
      some (.inr (.inr (t2, decide (t2 < t)))))
@[reducible] def slices_IndexFunc_Li_Ext_i_Ext_are_i_Ext_1_ExtOK_1_S (s2 : List Ext) (t : Int) (s : Int) : St := ⟨[(0, sl eExt s2), (1, .fn 137 [.ptr 0 0 0 1]), (7, I t), (8, I s)], [(0, ⟨1, true, [[.fn 73 []]]⟩)]⟩
@[reducible] def slices_IndexFunc_Li_Ext_i_Ext_are_i_Ext_1_ExtOK_1_E (s2 : List Ext) (t : Int) : (Int ⊕ (Int × Bool)) → AExit × St := alt (fun e => ((.ret, ⟨[(4, I e)], [(0, ⟨1, true, [[.fn 73 []]]⟩)]⟩) : AExit × St)) (fun e => (.exit 0, ⟨[(0, sl eExt s2), (1, .fn 137 [.ptr 0 0 0 1]), (7, I t), (8, I e.1), (9, B e.2)], [(0, ⟨1, true, [[.fn 73 []]]⟩)]⟩))
theorem slices_IndexFunc_Li_Ext_i_Ext_are_i_Ext_1_ExtOK_1_l {s2 t s e} (h : Loop (slices_IndexFunc_Li_Ext_i_Ext_are_i_Ext_1_ExtOK_1_s s2 t) s = some e) : LoopX tab ow (.close [5005]) b_slices_IndexFunc_Li_Ext_i_Ext_2 (slices_IndexFunc_Li_Ext_i_Ext_are_i_Ext_1_ExtOK_1_S s2 t s) = some (slices_IndexFunc_Li_Ext_i_Ext_are_i_Ext_1_ExtOK_1_E s2 t e) := by
  refine lrG (fun s o h => ?_) h
  simp only [slices_IndexFunc_Li_Ext_i_Ext_are_i_Ext_1_ExtOK_1_s] at h
  simp +decide only [slices_IndexFunc_Li_Ext_i_Ext_are_i_Ext_1_ExtOK_1_S, slices_IndexFunc_Li_Ext_i_Ext_are_i_Ext_1_ExtOK_1_E, b_slices_IndexFunc_Li_Ext_i_Ext_2, go_sem, reduceIte, Nat.reduceAdd]
  have d1 := @i_are_i_Ext_1_ExtOK_c
  all_goals exact go
noncomputable def slices_IndexFunc_Li_Ext_i_Ext_are_i_Ext_1_ExtOK (s : (List Ext)) : Option (Int) :=
  (Loop (slices_IndexFunc_Li_Ext_i_Ext_are_i_Ext_1_ExtOK_1_s s ((s.length : Nat) : Int)) (0 : Int)).bind (alt (fun e_2 =>
    some e_2) (fun e_3 =>
    some (-1 : Int)))
theorem slices_IndexFunc_Li_Ext_i_Ext_are_i_Ext_1_ExtOK_c {s r} (h : slices_IndexFunc_Li_Ext_i_Ext_are_i_Ext_1_ExtOK s = some r) : Call tab ow 192 [sl eExt s, .fn 137 [.ptr 0 0 0 1]] [⟨1, true, [[.fn 73 []]]⟩] = some (I r, [⟨1, true, [[.fn 73 []]]⟩]) := by
  rw [Call_run (af := a_slices_IndexFunc_Li_Ext_i_Ext) rfl]
  unfold slices_IndexFunc_Li_Ext_i_Ext_are_i_Ext_1_ExtOK at h
  simp +decide only [a_slices_IndexFunc_Li_Ext_i_Ext, b_slices_IndexFunc_Li_Ext_i_Ext, go_sem, reduceIte, Nat.reduceAdd]
  have d1 := @slices_IndexFunc_Li_Ext_i_Ext_are_i_Ext_1_ExtOK_1_l
  all_goals exact go
noncomputable def slices_ContainsFunc_Li_Ext_i_Ext_are_i_Ext_1_ExtOK (s : (List Ext)) : Option (Bool) :=
  (slices_IndexFunc_Li_Ext_i_Ext_are_i_Ext_1_ExtOK s).bind fun r_ =>
  some (decide (r_ ≥ (0 : Int)))
theorem slices_ContainsFunc_Li_Ext_i_Ext_are_i_Ext_1_ExtOK_c {s r} (h : slices_ContainsFunc_Li_Ext_i_Ext_are_i_Ext_1_ExtOK s = some r) : Call tab ow 136 [sl eExt s, .fn 137 [.ptr 0 0 0 1]] [⟨1, true, [[.fn 73 []]]⟩] = some (B r, [⟨1, true, [[.fn 73 []]]⟩]) := by
  rw [Call_run (af := a_slices_ContainsFunc_Li_Ext_i_Ext) rfl]
  unfold slices_ContainsFunc_Li_Ext_i_Ext_are_i_Ext_1_ExtOK at h
  simp +decide only [a_slices_ContainsFunc_Li_Ext_i_Ext, b_slices_ContainsFunc_Li_Ext_i_Ext, go_sem, reduceIte, Nat.reduceAdd]
  have d1 := @slices_IndexFunc_Li_Ext_i_Ext_are_i_Ext_1_ExtOK_c
  all_goals exact go
noncomputable def i_are_i_Ext_ExtOK (list : (List Ext)) : Option (Bool) :=
  (slices_ContainsFunc_Li_Ext_i_Ext_are_i_Ext_1_ExtOK list).bind fun r_ =>
  some (!r_)
theorem i_are_i_Ext_ExtOK_c {list r} (h : i_are_i_Ext_ExtOK list = some r) : Call tab ow 72 [.fn 73 [], sl eExt list] [] = some (B r, []) := by
  rw [Call_run (af := a_i_are_i_Ext) rfl]
  unfold i_are_i_Ext_ExtOK at h
  simp +decide only [a_i_are_i_Ext, b_i_are_i_Ext, go_sem, reduceIte, Nat.reduceAdd]
  have d1 := @slices_ContainsFunc_Li_Ext_i_Ext_are_i_Ext_1_ExtOK_c
  all_goals exact go
noncomputable def s_l01In (n : Int) (low : Int) (high : Int) : Option (Bool) :=
  br (decide (low ≤ n)) (
    some (decide (n ≤ high))) (
    some false)
theorem s_l01In_c {n low high r} (h : s_l01In n low high = some r) : Call tab ow 104 [I n, I low, I high] [] = some (B r, []) := by
  rw [Call_run (af := a_s_l01In) rfl]
  unfold s_l01In at h
  simp +decide only [a_s_l01In, b_s_l01In, go_sem, reduceIte, Nat.reduceAdd]
  all_goals exact go
noncomputable def s_FieldOK (a : Int) : Option (Bool) :=
  (s_l01In a (0 : Int) (2130706432 : Int)).bind fun r_ =>
  some r_
theorem s_FieldOK_c {a r} (h : s_FieldOK a = some r) : Call tab ow 193 [I a] [] = some (B r, []) := by
  rw [Call_run (af := a_s_FieldOK) rfl]
  unfold s_FieldOK at h
  simp +decide only [a_s_FieldOK, b_s_FieldOK, go_sem, reduceIte, Nat.reduceAdd]
  have d1 := @s_l01In_c
  all_goals exact go
noncomputable def s_ExtOK (a : Ext) : Option (Bool) :=
  (s_FieldOK a.A).bind fun r_ =>
  br r_ (
    (s_FieldOK a.B).bind fun r_2 =>
    some r_2) (
    some false)
theorem s_ExtOK_c {a r} (h : s_ExtOK a = some r) : Call tab ow 141 [.agg [I a.A, I a.B]] [] = some (B r, []) := by
  rw [Call_run (af := a_s_ExtOK) rfl]
  unfold s_ExtOK at h
  simp +decide only [a_s_ExtOK, b_s_ExtOK, go_sem, reduceIte, Nat.reduceAdd]
  have d1 := @s_FieldOK_c
  all_goals exact go
noncomputable def s_l02List_1_s (list2 : List Ext) : Int → Option ((Int) ⊕ (Unit ⊕ (Int × Bool)))
  | i =>
    br (decide (i < ((list2.length : Nat) : Int))) (
      (atL list2 i).bind fun x =>
      (s_ExtOK x).bind fun r_ =>
      br (!r_) (
        some (.inr (.inl ()))) (
        some (.inl (IntKind.wrap .i64 (i + (1 : Int)))))) (
      some (.inr (.inr (i, decide (i < ((list2.length : Nat) : Int))))))
@[reducible] def s_l02List_1_S (list2 : List Ext) (s : Int) : St := ⟨[(0, sl eExt list2), (3, I s)], []⟩
@[reducible] def s_l02List_1_E (list2 : List Ext) : (Unit ⊕ (Int × Bool)) → AExit × St := alt (fun e => ((.ret, ⟨[(2, B false)], []⟩) : AExit × St)) (fun e => (.exit 0, ⟨[(0, sl eExt list2), (3, I e.1), (7, B e.2)], []⟩))
theorem s_l02List_1_l {list2 s e} (h : Loop (s_l02List_1_s list2) s = some e) : LoopX tab ow (.close [5004]) b_s_l02List_2 (s_l02List_1_S list2 s) = some (s_l02List_1_E list2 e) := by
  refine lrG (fun s o h => ?_) h
  simp only [s_l02List_1_s] at h
  simp +decide only [s_l02List_1_S, s_l02List_1_E, b_s_l02List_2, go_sem, reduceIte, Nat.reduceAdd]
  have d1 := @s_ExtOK_c
  all_goals exact go
noncomputable def s_l02List (list : (List Ext)) : Option (Bool) :=
  (Loop (s_l02List_1_s list) (0 : Int)).bind (alt (fun e_2 =>
    some false) (fun e_3 =>
    some true))
theorem s_l02List_c {list r} (h : s_l02List list = some r) : Call tab ow 79 [sl eExt list] [] = some (B r, []) := by
  rw [Call_run (af := a_s_l02List) rfl]
  unfold s_l02List at h
  simp +decide only [a_s_l02List, b_s_l02List, go_sem, reduceIte, Nat.reduceAdd]
  have d1 := @s_l02List_1_l
  all_goals exact go
noncomputable def w_szEntryS (a : (List Entry)) (left : Int) : Option (Int) :=
  br (decide ((IntKind.wrap .i64 (left - ((a.length : Nat) : Int))) < (0 : Int))) (
    some (-1 : Int)) (
    some (IntKind.wrap .i64 (left - ((a.length : Nat) : Int))))
theorem w_szEntryS_c {a left r} (h : w_szEntryS a left = some r) : Call tab ow 77 [sl eEntry a, I left] [] = some (I r, []) := by
  rw [Call_run (af := a_w_szEntryS) rfl]
  unfold w_szEntryS at h
  simp +decide only [a_w_szEntryS, b_w_szEntryS, go_sem, reduceIte, Nat.reduceAdd]
  all_goals exact go
noncomputable def w_szSystem (a : System) (left : Int) : Option (Int) :=
  (w_szEntryS a.A left).bind fun r_ =>
  br (decide (r_ < (0 : Int))) (
    some (-1 : Int)) (
    (w_szEntryS a.B r_).bind fun r_2 =>
    br (decide (r_2 < (0 : Int))) (
      some (-1 : Int)) (
      (w_szEntryS a.C r_2).bind fun r_3 =>
      br (decide (r_3 < (0 : Int))) (
        some (-1 : Int)) (
        some r_3)))
theorem w_szSystem_c {a left r} (h : w_szSystem a left = some r) : Call tab ow 18 [.agg [I a.Rows, I a.Cols, I a.Publics, sl eEntry a.A, sl eEntry a.B, sl eEntry a.C], I left] [] = some (I r, []) := by
  rw [Call_run (af := a_w_szSystem) rfl]
  unfold w_szSystem at h
  simp +decide only [a_w_szSystem, b_w_szSystem, go_sem, reduceIte, Nat.reduceAdd]
  have d1 := @w_szEntryS_c
  all_goals exact go
noncomputable def w_szExtS (a : (List Ext)) (left : Int) : Option (Int) :=
  br (decide ((IntKind.wrap .i64 (left - ((a.length : Nat) : Int))) < (0 : Int))) (
    some (-1 : Int)) (
    some (IntKind.wrap .i64 (left - ((a.length : Nat) : Int))))
theorem w_szExtS_c {a left r} (h : w_szExtS a left = some r) : Call tab ow 19 [sl eExt a, I left] [] = some (I r, []) := by
  rw [Call_run (af := a_w_szExtS) rfl]
  unfold w_szExtS at h
  simp +decide only [a_w_szExtS, b_w_szExtS, go_sem, reduceIte, Nat.reduceAdd]
  all_goals exact go
noncomputable def w_toEntry (a : Entry) : Option (Entry) :=
  some a
theorem w_toEntry_c {a r} (h : w_toEntry a = some r) : Call tab ow 143 [.agg [I a.Row, I a.Col, I a.Value]] [] = some (.agg [I r.Row, I r.Col, I r.Value], []) := by
  rw [Call_run (af := a_w_toEntry) rfl]
  unfold w_toEntry at h
  simp +decide only [a_w_toEntry, b_w_toEntry, go_sem, reduceIte, Nat.reduceAdd]
  all_goals exact go
section
theorem w_toEntryS_k0 : ∀ k, repR 2002 k [I (0 : Int), I (0 : Int), I (0 : Int)] = rws eEntry (List.replicate k (Entry.mk (0 : Int) (0 : Int) (0 : Int))) := fun _ => repT eEntry (Entry.mk (0 : Int) (0 : Int) (0 : Int)) _ _
attribute [local go_sem] w_toEntryS_k0
noncomputable def w_toEntryS_1_s (a2 : List Entry) : (List Entry) × Int → Option (((List Entry) × Int) ⊕ (((List Entry) × Int × Bool)))
  | (l, i) =>
    br (decide (i < ((a2.length : Nat) : Int))) (
      (atL a2 i).bind fun x =>
      (w_toEntry x).bind fun r_ =>
      br (decide (0 ≤ i)) (
        br (decide (i.toNat < l.length)) (
          (l[i.toNat]?).bind fun x2 =>
          some (.inl ((l.set i.toNat r_), (IntKind.wrap .i64 (i + (1 : Int)))))) (
          none)) (
        none)) (
      some (.inr (l, i, decide (i < ((a2.length : Nat) : Int)))))
@[reducible] def w_toEntryS_1_S (a2 : List Entry) (s : (List Entry) × Int) : St := ⟨[(0, sl eEntry a2), (3, .sl 2002 0 s.1.length), (4, I s.2)], [(2002, ⟨3, false, rws eEntry s.1⟩)]⟩
@[reducible] def w_toEntryS_1_E (a2 : List Entry) : ((List Entry) × Int × Bool) → AExit × St := fun e => (.exit 0, ⟨[(0, sl eEntry a2), (3, .sl 2002 0 e.1.length), (4, I e.2.1), (11, B e.2.2)], [(2002, ⟨3, false, rws eEntry e.1⟩)]⟩)
theorem w_toEntryS_1_l {a2 s e} (h : Loop (w_toEntryS_1_s a2) s = some e) : LoopX tab ow (.close [6006]) b_w_toEntryS_3 (w_toEntryS_1_S a2 s) = some (w_toEntryS_1_E a2 e) := by
  refine lrG (fun s o h => ?_) h
  obtain ⟨_, _⟩ := s
  simp only [w_toEntryS_1_s] at h
  simp +decide only [w_toEntryS_1_S, w_toEntryS_1_E, b_w_toEntryS_3, go_sem, reduceIte, Nat.reduceAdd]
  have d1 := @w_toEntry_c
  all_goals exact go
noncomputable def w_toEntryS (a : (List Entry)) : Option ((List Entry)) :=
  br (mkOK ((a.length : Nat) : Int) ((a.length : Nat) : Int) 24) (
    (Loop (w_toEntryS_1_s a) ((List.replicate (((a.length : Nat) : Int).toNat) (Entry.mk (0 : Int) (0 : Int) (0 : Int))), (0 : Int))).bind fun e_ =>
    some e_.1) (
    none)
theorem w_toEntryS_c {a r} (h : w_toEntryS a = some r) : Call tab ow 81 [sl eEntry a] [] = some (sl eEntry r, []) := by
  rw [Call_run (af := a_w_toEntryS) rfl]
  unfold w_toEntryS at h
  simp +decide only [a_w_toEntryS, b_w_toEntryS, go_sem, reduceIte, Nat.reduceAdd]
  have d1 := @w_toEntryS_1_l
  all_goals exact go
end
noncomputable def w_toSystem (a : System) : Option (System) :=
  (w_toEntryS a.A).bind fun r_ =>
  (w_toEntryS a.B).bind fun r_2 =>
  (w_toEntryS a.C).bind fun r_3 =>
  some (System.mk a.Rows a.Cols a.Publics r_ r_2 r_3)
theorem w_toSystem_c {a r} (h : w_toSystem a = some r) : Call tab ow 21 [.agg [I a.Rows, I a.Cols, I a.Publics, sl eEntry a.A, sl eEntry a.B, sl eEntry a.C]] [] = some (.agg [I r.Rows, I r.Cols, I r.Publics, sl eEntry r.A, sl eEntry r.B, sl eEntry r.C], []) := by
  rw [Call_run (af := a_w_toSystem) rfl]
  unfold w_toSystem at h
  simp +decide only [a_w_toSystem, b_w_toSystem, go_sem, reduceIte, Nat.reduceAdd]
  have d1 := @w_toEntryS_c
  all_goals exact go
noncomputable def w_toExt (a : Ext) : Option (Ext) :=
  some a
theorem w_toExt_c {a r} (h : w_toExt a = some r) : Call tab ow 23 [.agg [I a.A, I a.B]] [] = some (.agg [I r.A, I r.B], []) := by
  rw [Call_run (af := a_w_toExt) rfl]
  unfold w_toExt at h
  simp +decide only [a_w_toExt, b_w_toExt, go_sem, reduceIte, Nat.reduceAdd]
  all_goals exact go
section
theorem w_toExtS_k0 : ∀ k, repR 2002 k [I (0 : Int), I (0 : Int)] = rws eExt (List.replicate k (Ext.mk (0 : Int) (0 : Int))) := fun _ => repT eExt (Ext.mk (0 : Int) (0 : Int)) _ _
attribute [local go_sem] w_toExtS_k0
noncomputable def w_toExtS_1_s (a2 : List Ext) : (List Ext) × Int → Option (((List Ext) × Int) ⊕ (((List Ext) × Int × Bool)))
  | (l, i) =>
    br (decide (i < ((a2.length : Nat) : Int))) (
      (atL a2 i).bind fun x =>
      (w_toExt x).bind fun r_ =>
      br (decide (0 ≤ i)) (
        br (decide (i.toNat < l.length)) (
          (l[i.toNat]?).bind fun x2 =>
          some (.inl ((l.set i.toNat r_), (IntKind.wrap .i64 (i + (1 : Int)))))) (
          none)) (
        none)) (
      some (.inr (l, i, decide (i < ((a2.length : Nat) : Int)))))
@[reducible] def w_toExtS_1_S (a2 : List Ext) (s : (List Ext) × Int) : St := ⟨[(0, sl eExt a2), (3, .sl 2002 0 s.1.length), (4, I s.2)], [(2002, ⟨2, false, rws eExt s.1⟩)]⟩
@[reducible] def w_toExtS_1_E (a2 : List Ext) : ((List Ext) × Int × Bool) → AExit × St := fun e => (.exit 0, ⟨[(0, sl eExt a2), (3, .sl 2002 0 e.1.length), (4, I e.2.1), (11, B e.2.2)], [(2002, ⟨2, false, rws eExt e.1⟩)]⟩)
theorem w_toExtS_1_l {a2 s e} (h : Loop (w_toExtS_1_s a2) s = some e) : LoopX tab ow (.close [6006]) b_w_toExtS_3 (w_toExtS_1_S a2 s) = some (w_toExtS_1_E a2 e) := by
  refine lrG (fun s o h => ?_) h
  obtain ⟨_, _⟩ := s
  simp only [w_toExtS_1_s] at h
  simp +decide only [w_toExtS_1_S, w_toExtS_1_E, b_w_toExtS_3, go_sem, reduceIte, Nat.reduceAdd]
  have d1 := @w_toExt_c
  all_goals exact go
noncomputable def w_toExtS (a : (List Ext)) : Option ((List Ext)) :=
  br (mkOK ((a.length : Nat) : Int) ((a.length : Nat) : Int) 16) (
    (Loop (w_toExtS_1_s a) ((List.replicate (((a.length : Nat) : Int).toNat) (Ext.mk (0 : Int) (0 : Int))), (0 : Int))).bind fun e_ =>
    some e_.1) (
    none)
theorem w_toExtS_c {a r} (h : w_toExtS a = some r) : Call tab ow 22 [sl eExt a] [] = some (sl eExt r, []) := by
  rw [Call_run (af := a_w_toExtS) rfl]
  unfold w_toExtS at h
  simp +decide only [a_w_toExtS, b_w_toExtS, go_sem, reduceIte, Nat.reduceAdd]
  have d1 := @w_toExtS_1_l
  all_goals exact go
end
noncomputable def s_l10List_1_s (ListtoArray2 : List Entry) (t : Int) (t2 : Int) : Int → Option ((Int) ⊕ ((Int × Int × Int) ⊕ (Int × Bool)))
  | t3 =>
    br (decide (t3 < ((ListtoArray2.length : Nat) : Int))) (
      (atL ListtoArray2 t3).bind fun x =>
      br (decide (0 ≤ (IntKind.wrap .u64 t))) (
        (s_l01In x.Row (0 : Int) (IntKind.wrap .i64 ((shl64 .i64 (1 : Int) (IntKind.wrap .u64 t)) - (1 : Int)))).bind fun r_ =>
        br (!r_) (
          some (.inr (.inl (x.Row, x.Col, x.Value)))) (
          br (decide (0 ≤ (IntKind.wrap .u64 t2))) (
            (s_l01In x.Col (0 : Int) (IntKind.wrap .i64 ((shl64 .i64 (1 : Int) (IntKind.wrap .u64 t2)) - (1 : Int)))).bind fun r_2 =>
            br (!r_2) (
              some (.inr (.inl (x.Row, x.Col, x.Value)))) (
              (s_l01In x.Value (1 : Int) (2130706432 : Int)).bind fun r_3 =>
              br (!r_3) (
                some (.inr (.inl (x.Row, x.Col, x.Value)))) (
                br (decide (t3 > (0 : Int))) (
                  (atL ListtoArray2 (IntKind.wrap .i64 (t3 - (1 : Int)))).bind fun x2 =>
                  br (decide (x2.Row > x.Row)) (
                    some (.inr (.inl (x.Row, x.Col, x.Value)))) (
                    (atL ListtoArray2 (IntKind.wrap .i64 (t3 - (1 : Int)))).bind fun x3 =>
                    br (x3.Row == x.Row) (
                      (atL ListtoArray2 (IntKind.wrap .i64 (t3 - (1 : Int)))).bind fun x4 =>
                      br (decide (x4.Col ≥ x.Col)) (
                        some (.inr (.inl (x.Row, x.Col, x.Value)))) (
                        some (.inl (IntKind.wrap .i64 (t3 + (1 : Int)))))) (
                      some (.inl (IntKind.wrap .i64 (t3 + (1 : Int))))))) (
                  some (.inl (IntKind.wrap .i64 (t3 + (1 : Int)))))))) (
            none))) (
        none)) (
      some (.inr (.inr (t3, decide (t3 < ((ListtoArray2.length : Nat) : Int))))))
@[reducible] def s_l10List_1_S (ListtoArray2 : List Entry) (t : Int) (t2 : Int) (s : Int) : St := ⟨[(0, sl eEntry ListtoArray2), (1, I t), (2, I t2), (7, I s)], []⟩
@[reducible] def s_l10List_1_E (ListtoArray2 : List Entry) (t : Int) (t2 : Int) : ((Int × Int × Int) ⊕ (Int × Bool)) → AExit × St := alt (fun e => ((.ret, ⟨[(6, B false)], [(7004, ⟨3, true, [[I e.1, I e.2.1, I e.2.2]]⟩)]⟩) : AExit × St)) (fun e => (.exit 0, ⟨[(0, sl eEntry ListtoArray2), (1, I t), (2, I t2), (7, I e.1), (15, B e.2)], []⟩))
theorem s_l10List_1_l {ListtoArray2 t t2 s e} (h : Loop (s_l10List_1_s ListtoArray2 t t2) s = some e) : LoopX tab ow (.close [7004,8006,8015,8021]) b_s_l10List_4 (s_l10List_1_S ListtoArray2 t t2 s) = some (s_l10List_1_E ListtoArray2 t t2 e) := by
  refine lrG (fun s o h => ?_) h
  simp only [s_l10List_1_s] at h
  simp +decide only [s_l10List_1_S, s_l10List_1_E, b_s_l10List_4, go_sem, reduceIte, Nat.reduceAdd]
  have d1 := @s_l01In_c
  all_goals exact go
noncomputable def s_l10List (ListtoArray : (List Entry)) (a : Int) (a2 : Int) : Option (Bool) :=
  br (decide (((ListtoArray.length : Nat) : Int) > (200 : Int))) (
    some false) (
    (Loop (s_l10List_1_s ListtoArray a a2) (0 : Int)).bind (alt (fun e_2 =>
      some false) (fun e_3 =>
      some true)))
theorem s_l10List_c {ListtoArray a a2 r} (h : s_l10List ListtoArray a a2 = some r) : Call tab ow 140 [sl eEntry ListtoArray, I a, I a2] [] = some (B r, []) := by
  rw [Call_run (af := a_s_l10List) rfl]
  unfold s_l10List at h
  simp +decide only [a_s_l10List, b_s_l10List, go_sem, reduceIte, Nat.reduceAdd]
  have d1 := @s_l10List_1_l
  all_goals exact go
noncomputable def s_SystemOK (s : System) : Option (Bool) :=
  (s_l01In s.Rows (1 : Int) (5 : Int)).bind fun r_ =>
  br r_ (
    (s_l01In s.Cols (2 : Int) (5 : Int)).bind fun r_2 =>
    br r_2 (
      br (decide (0 ≤ (IntKind.wrap .u64 (IntKind.wrap .i64 (s.Cols - (1 : Int)))))) (
        (s_l01In s.Publics (0 : Int) (IntKind.wrap .i64 ((shl64 .i64 (1 : Int) (IntKind.wrap .u64 (IntKind.wrap .i64 (s.Cols - (1 : Int))))) - (1 : Int)))).bind fun r_3 =>
        br r_3 (
          (s_l10List s.A s.Rows s.Cols).bind fun r_4 =>
          br r_4 (
            (s_l10List s.B s.Rows s.Cols).bind fun r_5 =>
            br r_5 (
              (s_l10List s.C s.Rows s.Cols).bind fun r_6 =>
              some r_6) (
              some false)) (
            some false)) (
          some false)) (
        none)) (
      some false)) (
    some false)
theorem s_SystemOK_c {s r} (h : s_SystemOK s = some r) : Call tab ow 78 [.agg [I s.Rows, I s.Cols, I s.Publics, sl eEntry s.A, sl eEntry s.B, sl eEntry s.C]] [] = some (B r, []) := by
  rw [Call_run (af := a_s_SystemOK) rfl]
  unfold s_SystemOK at h
  simp +decide only [a_s_SystemOK, b_s_SystemOK, go_sem, reduceIte, Nat.reduceAdd]
  have d1 := @s_l01In_c
  have d2 := @s_l10List_c
  all_goals exact go
noncomputable def i_System_half (s : System) : Option (Int) :=
  br (decide (0 ≤ (IntKind.wrap .i64 (s.Cols - (1 : Int))))) (
    some (shl64 .i64 (1 : Int) (IntKind.wrap .i64 (s.Cols - (1 : Int))))) (
    none)
theorem i_System_half_c {s r} (h : i_System_half s = some r) : Call tab ow 144 [.agg [I s.Rows, I s.Cols, I s.Publics, sl eEntry s.A, sl eEntry s.B, sl eEntry s.C]] [] = some (I r, []) := by
  rw [Call_run (af := a_i_System_half) rfl]
  unfold i_System_half at h
  simp +decide only [a_i_System_half, b_i_System_half, go_sem, reduceIte, Nat.reduceAdd]
  all_goals exact go
noncomputable def i_System_matrices (s : System) : Option (((List Entry) × (List Entry) × (List Entry))) :=
  some (s.A, s.B, s.C)
theorem i_System_matrices_c {s r} (h : i_System_matrices s = some r) : Call tab ow 145 [.agg [I s.Rows, I s.Cols, I s.Publics, sl eEntry s.A, sl eEntry s.B, sl eEntry s.C]] [] = some (.agg [sl eEntry r.1, sl eEntry r.2.1, sl eEntry r.2.2], []) := by
  rw [Call_run (af := a_i_System_matrices) rfl]
  unfold i_System_matrices at h
  simp +decide only [a_i_System_matrices, b_i_System_matrices, go_sem, reduceIte, Nat.reduceAdd]
  all_goals exact go
noncomputable def cmp_isNaN_int (x : Int) : Option (Bool) :=
  some (x != x)
theorem cmp_isNaN_int_c {x r} (h : cmp_isNaN_int x = some r) : Call tab ow 228 [I x] [] = some (B r, []) := by
  rw [Call_run (af := a_cmp_isNaN_int) rfl]
  unfold cmp_isNaN_int at h
  simp +decide only [a_cmp_isNaN_int, b_cmp_isNaN_int, go_sem, reduceIte, Nat.reduceAdd]
  all_goals exact go
noncomputable def cmp_Compare_int (x : Int) (y : Int) : Option (Int) :=
  (cmp_isNaN_int x).bind fun r_ =>
  (cmp_isNaN_int y).bind fun r_2 =>
  br r_ (
    br r_2 (
      some (0 : Int)) (
      some (-1 : Int))) (
    br r_2 (
      some (1 : Int)) (
      br (decide (x < y)) (
        some (-1 : Int)) (
        br (decide (x > y)) (
          some (1 : Int)) (
          some (0 : Int)))))
theorem cmp_Compare_int_c {x y r} (h : cmp_Compare_int x y = some r) : Call tab ow 219 [I x, I y] [] = some (I r, []) := by
  rw [Call_run (af := a_cmp_Compare_int) rfl]
  unfold cmp_Compare_int at h
  simp +decide only [a_cmp_Compare_int, b_cmp_Compare_int, go_sem, reduceIte, Nat.reduceAdd]
  have d1 := @cmp_isNaN_int_c
  all_goals exact go
noncomputable def cmp_Or_int_1_s (zero : Int) (t : List Int) (t2 : Int) : Int → Option ((Int) ⊕ (Int ⊕ (Int × Bool)))
  | t3 =>
    br (decide (t3 < t2)) (
      (atL t t3).bind fun x =>
      br (x != zero) (
        some (.inr (.inl x))) (
        some (.inl (IntKind.wrap .i64 (t3 + (1 : Int)))))) (
      some (.inr (.inr (t3, decide (t3 < t2)))))
@[reducible] def cmp_Or_int_1_S (zero : Int) (t : List Int) (t2 : Int) (s : Int) : St := ⟨[(3, I zero), (6, sl eI t), (7, I t2), (8, I s)], []⟩
@[reducible] def cmp_Or_int_1_E (zero : Int) (t : List Int) (t2 : Int) : (Int ⊕ (Int × Bool)) → AExit × St := alt (fun e => ((.ret, ⟨[(2, I e)], []⟩) : AExit × St)) (fun e => (.exit 0, ⟨[(3, I zero), (6, sl eI t), (7, I t2), (8, I e.1), (9, B e.2)], []⟩))
theorem cmp_Or_int_1_l {zero t t2 s e} (h : Loop (cmp_Or_int_1_s zero t t2) s = some e) : LoopX tab ow (.close []) b_cmp_Or_int_3 (cmp_Or_int_1_S zero t t2 s) = some (cmp_Or_int_1_E zero t t2 e) := by
  refine lrG (fun s o h => ?_) h
  simp only [cmp_Or_int_1_s] at h
  simp +decide only [cmp_Or_int_1_S, cmp_Or_int_1_E, b_cmp_Or_int_3, go_sem, reduceIte, Nat.reduceAdd]
  all_goals exact go
noncomputable def cmp_Or_int (vals : (List Int)) : Option (Int) :=
  (Loop (cmp_Or_int_1_s (0 : Int) vals ((vals.length : Nat) : Int)) (0 : Int)).bind (alt (fun e_2 =>
    some e_2) (fun e_3 =>
    some (0 : Int)))
theorem cmp_Or_int_c {vals r} (h : cmp_Or_int vals = some r) : Call tab ow 218 [sl eI vals] [] = some (I r, []) := by
  rw [Call_run (af := a_cmp_Or_int) rfl]
  unfold cmp_Or_int at h
  simp +decide only [a_cmp_Or_int, b_cmp_Or_int, go_sem, reduceIte, Nat.reduceAdd]
  have d1 := @cmp_Or_int_1_l
  all_goals exact go
section
theorem i_Entry_order_k0 : mkR 2010 [] = rws eI [] := rfl
attribute [local go_sem] i_Entry_order_k0
noncomputable def i_Entry_order (e_ : Entry) (f : Entry) : Option (Int) :=
  (cmp_Compare_int e_.Row f.Row).bind fun r_ =>
  (cmp_Compare_int e_.Col f.Col).bind fun r_2 =>
  (cmp_Or_int ([r_, r_2] : List Int)).bind fun r_3 =>
  some r_3
theorem i_Entry_order_c {e_ f r} (h : i_Entry_order e_ f = some r) : Call tab ow 196 [.agg [I e_.Row, I e_.Col, I e_.Value], .agg [I f.Row, I f.Col, I f.Value]] [] = some (I r, []) := by
  rw [Call_run (af := a_i_Entry_order) rfl]
  unfold i_Entry_order at h
  simp +decide only [a_i_Entry_order, b_i_Entry_order, go_sem, reduceIte, Nat.reduceAdd]
  have d1 := @cmp_Compare_int_c
  have d2 := @cmp_Or_int_c
  all_goals exact go
end
noncomputable def i_isMatrix_1_s (list2 : List Entry) (rows2 : Int) (cols2 : Int) (t : List Entry) (t2 : Int) : Int → Option ((Int) ⊕ ((Int × Int × Int) ⊕ (Int × Bool)))
  | t3 =>
    br (decide (t3 < t2)) (
      (atL t t3).bind fun x =>
      (i_in x.Row (0 : Int) (IntKind.wrap .i64 (rows2 - (1 : Int)))).bind fun r_ =>
      br (!r_) (
        some (.inr (.inl (x.Row, x.Col, x.Value)))) (
        (i_in x.Col (0 : Int) (IntKind.wrap .i64 (cols2 - (1 : Int)))).bind fun r_2 =>
        br (!r_2) (
          some (.inr (.inl (x.Row, x.Col, x.Value)))) (
          (i_in x.Value (1 : Int) (2130706432 : Int)).bind fun r_3 =>
          br (!r_3) (
            some (.inr (.inl (x.Row, x.Col, x.Value)))) (
            br (decide (t3 > (0 : Int))) (
              (atL list2 (IntKind.wrap .i64 (t3 - (1 : Int)))).bind fun x2 =>
              (i_Entry_order x2 x).bind fun r_4 =>
              br (decide (r_4 ≥ (0 : Int))) (
                some (.inr (.inl (x.Row, x.Col, x.Value)))) (
                some (.inl (IntKind.wrap .i64 (t3 + (1 : Int)))))) (
              some (.inl (IntKind.wrap .i64 (t3 + (1 : Int))))))))) (
      some (.inr (.inr (t3, decide (t3 < t2)))))
@[reducible] def i_isMatrix_1_S (list2 : List Entry) (rows2 : Int) (cols2 : Int) (t : List Entry) (t2 : Int) (s : Int) : St := ⟨[(0, sl eEntry list2), (1, I rows2), (2, I cols2), (9, sl eEntry t), (10, I t2), (11, I s)], []⟩
@[reducible] def i_isMatrix_1_E (list2 : List Entry) (rows2 : Int) (cols2 : Int) (t : List Entry) (t2 : Int) : ((Int × Int × Int) ⊕ (Int × Bool)) → AExit × St := alt (fun e => ((.ret, ⟨[(6, B false)], [(4003, ⟨3, true, [[I e.1, I e.2.1, I e.2.2]]⟩)]⟩) : AExit × St)) (fun e => (.exit 0, ⟨[(0, sl eEntry list2), (1, I rows2), (2, I cols2), (9, sl eEntry t), (10, I t2), (11, I e.1), (12, B e.2)], []⟩))
theorem i_isMatrix_1_l {list2 rows2 cols2 t t2 s e} (h : Loop (i_isMatrix_1_s list2 rows2 cols2 t t2) s = some e) : LoopX tab ow (.close [4003,5004,5011,5017,5030]) b_i_isMatrix_2 (i_isMatrix_1_S list2 rows2 cols2 t t2 s) = some (i_isMatrix_1_E list2 rows2 cols2 t t2 e) := by
  refine lrG (fun s o h => ?_) h
  simp only [i_isMatrix_1_s] at h
  simp +decide only [i_isMatrix_1_S, i_isMatrix_1_E, b_i_isMatrix_2, go_sem, reduceIte, Nat.reduceAdd]
  have d1 := @i_in_c
  have d2 := @i_Entry_order_c
  all_goals exact go
noncomputable def i_isMatrix (list : (List Entry)) (rows : Int) (cols : Int) : Option (Bool) :=
  (Loop (i_isMatrix_1_s list rows cols list ((list.length : Nat) : Int)) (0 : Int)).bind (alt (fun e_2 =>
    some false) (fun e_3 =>
    some (decide (((list.length : Nat) : Int) ≤ (200 : Int)))))
theorem i_isMatrix_c {list rows cols r} (h : i_isMatrix list rows cols = some r) : Call tab ow 146 [sl eEntry list, I rows, I cols] [] = some (B r, []) := by
  rw [Call_run (af := a_i_isMatrix) rfl]
  unfold i_isMatrix at h
  simp +decide only [a_i_isMatrix, b_i_isMatrix, go_sem, reduceIte, Nat.reduceAdd]
  have d1 := @i_isMatrix_1_l
  all_goals exact go
noncomputable def i_SystemOK (s : System) : Option (Bool) :=
  (i_in s.Rows (1 : Int) (5 : Int)).bind fun r_ =>
  br (!r_) (
    some false) (
    (i_in s.Cols (2 : Int) (5 : Int)).bind fun r_2 =>
    br (!r_2) (
      some false) (
      (i_System_half s).bind fun r_3 =>
      (i_in s.Publics (0 : Int) (IntKind.wrap .i64 (r_3 - (1 : Int)))).bind fun r_4 =>
      br (!r_4) (
        some false) (
        (i_System_matrices s).bind fun r_5 =>
        br (decide (0 ≤ s.Rows)) (
          br (decide (0 ≤ s.Cols)) (
            (i_isMatrix r_5.1 (shl64 .i64 (1 : Int) s.Rows) (shl64 .i64 (1 : Int) s.Cols)).bind fun r_6 =>
            br (!r_6) (
              some false) (
              br (decide (0 ≤ s.Rows)) (
                br (decide (0 ≤ s.Cols)) (
                  (i_isMatrix r_5.2.1 (shl64 .i64 (1 : Int) s.Rows) (shl64 .i64 (1 : Int) s.Cols)).bind fun r_7 =>
                  br (!r_7) (
                    some false) (
                    br (decide (0 ≤ s.Rows)) (
                      br (decide (0 ≤ s.Cols)) (
                        (i_isMatrix r_5.2.2 (shl64 .i64 (1 : Int) s.Rows) (shl64 .i64 (1 : Int) s.Cols)).bind fun r_8 =>
                        br (!r_8) (
                          some false) (
                          some true)) (
                        none)) (
                      none))) (
                  none)) (
                none))) (
            none)) (
          none))))
theorem i_SystemOK_c {s r} (h : i_SystemOK s = some r) : Call tab ow 82 [.agg [I s.Rows, I s.Cols, I s.Publics, sl eEntry s.A, sl eEntry s.B, sl eEntry s.C]] [] = some (B r, []) := by
  rw [Call_run (af := a_i_SystemOK) rfl]
  unfold i_SystemOK at h
  simp +decide only [a_i_SystemOK, b_i_SystemOK, go_sem, reduceIte, Nat.reduceAdd, Int.reduceAdd, Int.reduceMul, Int.reduceSub]
  obtain ⟨r_, h1, h⟩ := bd h
  refine call_aftD (i_in_c h1) ?_
  simp +decide only [go_sem, reduceIte, Nat.reduceAdd, Int.reduceAdd, Int.reduceMul, Int.reduceSub]
  rcases brc h with ⟨hb, h⟩ | ⟨hb, h⟩
  · refine br_t hb ?_
    obtain rfl := Option.some.inj h
    first | rfl | (simp only [List.length_set, go_sem]; done)
  · refine br_f hb ?_
    obtain ⟨r_2, h1, h⟩ := bd h
    refine call_aftD (i_in_c h1) ?_
    simp +decide only [go_sem, reduceIte, Nat.reduceAdd, Int.reduceAdd, Int.reduceMul, Int.reduceSub]
    rcases brc h with ⟨hb, h⟩ | ⟨hb, h⟩
    · refine br_t hb ?_
      obtain rfl := Option.some.inj h
      first | rfl | (simp only [List.length_set, go_sem]; done)
    · refine br_f hb ?_
      obtain ⟨r_3, h1, h⟩ := bd h
      refine call_aftD (i_System_half_c h1) ?_
      simp +decide only [go_sem, reduceIte, Nat.reduceAdd, Int.reduceAdd, Int.reduceMul, Int.reduceSub]
      obtain ⟨r_4, h1, h⟩ := bd h
      refine call_aftD (i_in_c h1) ?_
      simp +decide only [go_sem, reduceIte, Nat.reduceAdd, Int.reduceAdd, Int.reduceMul, Int.reduceSub]
      rcases brc h with ⟨hb, h⟩ | ⟨hb, h⟩
      · refine br_t hb ?_
        obtain rfl := Option.some.inj h
        first | rfl | (simp only [List.length_set, go_sem]; done)
      · refine br_f hb ?_
        obtain ⟨r_5, h1, h⟩ := bd h
        refine call_aft (i_System_matrices_c h1) ?_
        simp +decide only [go_sem, reduceIte, Nat.reduceAdd, Int.reduceAdd, Int.reduceMul, Int.reduceSub]
        refine unroll_of ?_
        simp +decide only [b_i_SystemOK_4, go_sem, reduceIte, Nat.reduceAdd, Int.reduceAdd, Int.reduceMul, Int.reduceSub]
        obtain ⟨hb, h⟩ := brg h
        refine br_t hb ?_
        obtain ⟨hb, h⟩ := brg h
        refine br_t hb ?_
        obtain ⟨r_6, h1, h⟩ := bd h
        refine call_aftD (i_isMatrix_c h1) ?_
        simp +decide only [go_sem, reduceIte, Nat.reduceAdd, Int.reduceAdd, Int.reduceMul, Int.reduceSub]
        rcases brc h with ⟨hb, h⟩ | ⟨hb, h⟩
        · refine br_t hb ?_
          obtain rfl := Option.some.inj h
          first | rfl | (simp only [List.length_set, go_sem]; done)
        · refine br_f hb ?_
          refine unroll_of ?_
          simp +decide only [b_i_SystemOK_4, go_sem, reduceIte, Nat.reduceAdd, Int.reduceAdd, Int.reduceMul, Int.reduceSub]
          obtain ⟨hb, h⟩ := brg h
          refine br_t hb ?_
          obtain ⟨hb, h⟩ := brg h
          refine br_t hb ?_
          obtain ⟨r_7, h1, h⟩ := bd h
          refine call_aftD (i_isMatrix_c h1) ?_
          simp +decide only [go_sem, reduceIte, Nat.reduceAdd, Int.reduceAdd, Int.reduceMul, Int.reduceSub]
          rcases brc h with ⟨hb, h⟩ | ⟨hb, h⟩
          · refine br_t hb ?_
            obtain rfl := Option.some.inj h
            first | rfl | (simp only [List.length_set, go_sem]; done)
          · refine br_f hb ?_
            refine unroll_of ?_
            simp +decide only [b_i_SystemOK_4, go_sem, reduceIte, Nat.reduceAdd, Int.reduceAdd, Int.reduceMul, Int.reduceSub]
            obtain ⟨hb, h⟩ := brg h
            refine br_t hb ?_
            obtain ⟨hb, h⟩ := brg h
            refine br_t hb ?_
            obtain ⟨r_8, h1, h⟩ := bd h
            refine call_aftD (i_isMatrix_c h1) ?_
            simp +decide only [go_sem, reduceIte, Nat.reduceAdd, Int.reduceAdd, Int.reduceMul, Int.reduceSub]
            rcases brc h with ⟨hb, h⟩ | ⟨hb, h⟩
            · refine br_t hb ?_
              obtain rfl := Option.some.inj h
              first | rfl | (simp only [List.length_set, go_sem]; done)
            · refine br_f hb ?_
              refine unroll_of ?_
              simp +decide only [b_i_SystemOK_4, go_sem, reduceIte, Nat.reduceAdd, Int.reduceAdd, Int.reduceMul, Int.reduceSub]
              obtain rfl := Option.some.inj h
              first | rfl | (simp only [List.length_set, go_sem]; done)
noncomputable def w_eqExt (a : Ext) (b : Ext) : Option (Bool) :=
  br (a.A != b.A) (
    some false) (
    br (a.B != b.B) (
      some false) (
      some true))
theorem w_eqExt_c {a b r} (h : w_eqExt a b = some r) : Call tab ow 84 [.agg [I a.A, I a.B], .agg [I b.A, I b.B]] [] = some (B r, []) := by
  rw [Call_run (af := a_w_eqExt) rfl]
  unfold w_eqExt at h
  simp +decide only [a_w_eqExt, b_w_eqExt, go_sem, reduceIte, Nat.reduceAdd]
  all_goals exact go
noncomputable def w_eqExtS_1_s (a2 : List Ext) (b2 : List Ext) : Int → Option ((Int) ⊕ (Unit ⊕ (Int × Bool)))
  | i =>
    br (decide (i < ((a2.length : Nat) : Int))) (
      (atL a2 i).bind fun x =>
      (atL b2 i).bind fun x2 =>
      (w_eqExt x x2).bind fun r_ =>
      br (!r_) (
        some (.inr (.inl ()))) (
        some (.inl (IntKind.wrap .i64 (i + (1 : Int)))))) (
      some (.inr (.inr (i, decide (i < ((a2.length : Nat) : Int))))))
@[reducible] def w_eqExtS_1_S (a2 : List Ext) (b2 : List Ext) (s : Int) : St := ⟨[(0, sl eExt a2), (1, sl eExt b2), (5, I s)], []⟩
@[reducible] def w_eqExtS_1_E (a2 : List Ext) (b2 : List Ext) : (Unit ⊕ (Int × Bool)) → AExit × St := alt (fun e => ((.ret, ⟨[(4, B false)], []⟩) : AExit × St)) (fun e => (.exit 0, ⟨[(0, sl eExt a2), (1, sl eExt b2), (5, I e.1), (14, B e.2)], []⟩))
theorem w_eqExtS_1_l {a2 b2 s e} (h : Loop (w_eqExtS_1_s a2 b2) s = some e) : LoopX tab ow (.close [7008]) b_w_eqExtS_4 (w_eqExtS_1_S a2 b2 s) = some (w_eqExtS_1_E a2 b2 e) := by
  refine lrG (fun s o h => ?_) h
  simp only [w_eqExtS_1_s] at h
  simp +decide only [w_eqExtS_1_S, w_eqExtS_1_E, b_w_eqExtS_4, go_sem, reduceIte, Nat.reduceAdd]
  have d1 := @w_eqExt_c
  all_goals exact go
noncomputable def w_eqExtS (a : (List Ext)) (b : (List Ext)) : Option (Bool) :=
  br (((a.length : Nat) : Int) != ((b.length : Nat) : Int)) (
    some false) (
    (Loop (w_eqExtS_1_s a b) (0 : Int)).bind (alt (fun e_2 =>
      some false) (fun e_3 =>
      some true)))
theorem w_eqExtS_c {a b r} (h : w_eqExtS a b = some r) : Call tab ow 25 [sl eExt a, sl eExt b] [] = some (B r, []) := by
  rw [Call_run (af := a_w_eqExtS) rfl]
  unfold w_eqExtS at h
  simp +decide only [a_w_eqExtS, b_w_eqExtS, go_sem, reduceIte, Nat.reduceAdd]
  have d1 := @w_eqExtS_1_l
  all_goals exact go
noncomputable def w_eqEntry (a : Entry) (b : Entry) : Option (Bool) :=
  br (a.Row != b.Row) (
    some false) (
    br (a.Col != b.Col) (
      some false) (
      br (a.Value != b.Value) (
        some false) (
        some true)))
theorem w_eqEntry_c {a b r} (h : w_eqEntry a b = some r) : Call tab ow 148 [.agg [I a.Row, I a.Col, I a.Value], .agg [I b.Row, I b.Col, I b.Value]] [] = some (B r, []) := by
  rw [Call_run (af := a_w_eqEntry) rfl]
  unfold w_eqEntry at h
  simp +decide only [a_w_eqEntry, b_w_eqEntry, go_sem, reduceIte, Nat.reduceAdd]
  all_goals exact go
noncomputable def w_eqEntryS_1_s (a2 : List Entry) (b2 : List Entry) : Int → Option ((Int) ⊕ (Unit ⊕ (Int × Bool)))
  | i =>
    br (decide (i < ((a2.length : Nat) : Int))) (
      (atL a2 i).bind fun x =>
      (atL b2 i).bind fun x2 =>
      (w_eqEntry x x2).bind fun r_ =>
      br (!r_) (
        some (.inr (.inl ()))) (
        some (.inl (IntKind.wrap .i64 (i + (1 : Int)))))) (
      some (.inr (.inr (i, decide (i < ((a2.length : Nat) : Int))))))
@[reducible] def w_eqEntryS_1_S (a2 : List Entry) (b2 : List Entry) (s : Int) : St := ⟨[(0, sl eEntry a2), (1, sl eEntry b2), (5, I s)], []⟩
@[reducible] def w_eqEntryS_1_E (a2 : List Entry) (b2 : List Entry) : (Unit ⊕ (Int × Bool)) → AExit × St := alt (fun e => ((.ret, ⟨[(4, B false)], []⟩) : AExit × St)) (fun e => (.exit 0, ⟨[(0, sl eEntry a2), (1, sl eEntry b2), (5, I e.1), (14, B e.2)], []⟩))
theorem w_eqEntryS_1_l {a2 b2 s e} (h : Loop (w_eqEntryS_1_s a2 b2) s = some e) : LoopX tab ow (.close [7008]) b_w_eqEntryS_4 (w_eqEntryS_1_S a2 b2 s) = some (w_eqEntryS_1_E a2 b2 e) := by
  refine lrG (fun s o h => ?_) h
  simp only [w_eqEntryS_1_s] at h
  simp +decide only [w_eqEntryS_1_S, w_eqEntryS_1_E, b_w_eqEntryS_4, go_sem, reduceIte, Nat.reduceAdd]
  have d1 := @w_eqEntry_c
  all_goals exact go
noncomputable def w_eqEntryS (a : (List Entry)) (b : (List Entry)) : Option (Bool) :=
  br (((a.length : Nat) : Int) != ((b.length : Nat) : Int)) (
    some false) (
    (Loop (w_eqEntryS_1_s a b) (0 : Int)).bind (alt (fun e_2 =>
      some false) (fun e_3 =>
      some true)))
theorem w_eqEntryS_c {a b r} (h : w_eqEntryS a b = some r) : Call tab ow 85 [sl eEntry a, sl eEntry b] [] = some (B r, []) := by
  rw [Call_run (af := a_w_eqEntryS) rfl]
  unfold w_eqEntryS at h
  simp +decide only [a_w_eqEntryS, b_w_eqEntryS, go_sem, reduceIte, Nat.reduceAdd]
  have d1 := @w_eqEntryS_1_l
  all_goals exact go
noncomputable def w_eqSystem (a : System) (b : System) : Option (Bool) :=
  br (a.Rows != b.Rows) (
    some false) (
    br (a.Cols != b.Cols) (
      some false) (
      br (a.Publics != b.Publics) (
        some false) (
        (w_eqEntryS a.A b.A).bind fun r_ =>
        br (!r_) (
          some false) (
          (w_eqEntryS a.B b.B).bind fun r_2 =>
          br (!r_2) (
            some false) (
            (w_eqEntryS a.C b.C).bind fun r_3 =>
            br (!r_3) (
              some false) (
              some true))))))
theorem w_eqSystem_c {a b r} (h : w_eqSystem a b = some r) : Call tab ow 26 [.agg [I a.Rows, I a.Cols, I a.Publics, sl eEntry a.A, sl eEntry a.B, sl eEntry a.C], .agg [I b.Rows, I b.Cols, I b.Publics, sl eEntry b.A, sl eEntry b.B, sl eEntry b.C]] [] = some (B r, []) := by
  rw [Call_run (af := a_w_eqSystem) rfl]
  unfold w_eqSystem at h
  simp +decide only [a_w_eqSystem, b_w_eqSystem, go_sem, reduceIte, Nat.reduceAdd]
  have d1 := @w_eqEntryS_c
  all_goals exact go
noncomputable def w_szExtSS_1_s (a2 : List (List Ext)) : Int × Int → Option ((Int × Int) ⊕ (Unit ⊕ (Int × Int × Bool)))
  | (left2, i) =>
    br (decide (i < ((a2.length : Nat) : Int))) (
      (atL a2 i).bind fun x =>
      (w_szExtS x left2).bind fun r_ =>
      br (decide (r_ < (0 : Int))) (
        some (.inr (.inl ()))) (
        some (.inl (r_, (IntKind.wrap .i64 (i + (1 : Int))))))) (
      some (.inr (.inr (left2, i, decide (i < ((a2.length : Nat) : Int))))))
@[reducible] def w_szExtSS_1_S (a2 : List (List Ext)) (s : Int × Int) : St := ⟨[(0, sl (eL eExt) a2), (1, I s.1), (5, I s.2)], []⟩
@[reducible] def w_szExtSS_1_E (a2 : List (List Ext)) : (Unit ⊕ (Int × Int × Bool)) → AExit × St := alt (fun e => ((.ret, ⟨[(4, I (-1 : Int))], []⟩) : AExit × St)) (fun e => (.exit 0, ⟨[(0, sl (eL eExt) a2), (1, I e.1), (5, I e.2.1), (15, B e.2.2)], []⟩))
theorem w_szExtSS_1_l {a2 s e} (h : Loop (w_szExtSS_1_s a2) s = some e) : LoopX tab ow (.close [8005]) b_w_szExtSS_5 (w_szExtSS_1_S a2 s) = some (w_szExtSS_1_E a2 e) := by
  refine lrG (fun s o h => ?_) h
  obtain ⟨_, _⟩ := s
  simp only [w_szExtSS_1_s] at h
  simp +decide only [w_szExtSS_1_S, w_szExtSS_1_E, b_w_szExtSS_5, go_sem, reduceIte, Nat.reduceAdd]
  have d1 := @w_szExtS_c
  all_goals exact go
noncomputable def w_szExtSS (a : (List (List Ext))) (left : Int) : Option (Int) :=
  br (decide ((IntKind.wrap .i64 (left - ((a.length : Nat) : Int))) < (0 : Int))) (
    some (-1 : Int)) (
    (Loop (w_szExtSS_1_s a) ((IntKind.wrap .i64 (left - ((a.length : Nat) : Int))), (0 : Int))).bind (alt (fun e_2 =>
      some (-1 : Int)) (fun e_3 =>
      some e_3.1)))
theorem w_szExtSS_c {a left r} (h : w_szExtSS a left = some r) : Call tab ow 87 [sl (eL eExt) a, I left] [] = some (I r, []) := by
  rw [Call_run (af := a_w_szExtSS) rfl]
  unfold w_szExtSS at h
  simp +decide only [a_w_szExtSS, b_w_szExtSS, go_sem, reduceIte, Nat.reduceAdd]
  have d1 := @w_szExtSS_1_l
  all_goals exact go
noncomputable def w_szStringS_1_s (a2 : List (List UInt8)) : Int × Int → Option ((Int × Int) ⊕ (Unit ⊕ (Int × Int × Bool)))
  | (left2, i) =>
    br (decide (i < ((a2.length : Nat) : Int))) (
      (atL a2 i).bind fun x =>
      br (decide ((IntKind.wrap .i64 (left2 - ((x.length : Nat) : Int))) < (0 : Int))) (
        some (.inr (.inl ()))) (
        some (.inl ((IntKind.wrap .i64 (left2 - ((x.length : Nat) : Int))), (IntKind.wrap .i64 (i + (1 : Int))))))) (
      some (.inr (.inr (left2, i, decide (i < ((a2.length : Nat) : Int))))))
@[reducible] def w_szStringS_1_S (a2 : List (List UInt8)) (s : Int × Int) : St := ⟨[(0, sl eS a2), (1, I s.1), (5, I s.2)], []⟩
@[reducible] def w_szStringS_1_E (a2 : List (List UInt8)) : (Unit ⊕ (Int × Int × Bool)) → AExit × St := alt (fun e => ((.ret, ⟨[(4, I (-1 : Int))], []⟩) : AExit × St)) (fun e => (.exit 0, ⟨[(0, sl eS a2), (1, I e.1), (5, I e.2.1), (15, B e.2.2)], []⟩))
theorem w_szStringS_1_l {a2 s e} (h : Loop (w_szStringS_1_s a2) s = some e) : LoopX tab ow (.close []) b_w_szStringS_5 (w_szStringS_1_S a2 s) = some (w_szStringS_1_E a2 e) := by
  refine lrG (fun s o h => ?_) h
  obtain ⟨_, _⟩ := s
  simp only [w_szStringS_1_s] at h
  simp +decide only [w_szStringS_1_S, w_szStringS_1_E, b_w_szStringS_5, go_sem, reduceIte, Nat.reduceAdd]
  all_goals exact go
noncomputable def w_szStringS (a : (List (List UInt8))) (left : Int) : Option (Int) :=
  br (decide ((IntKind.wrap .i64 (left - ((a.length : Nat) : Int))) < (0 : Int))) (
    some (-1 : Int)) (
    (Loop (w_szStringS_1_s a) ((IntKind.wrap .i64 (left - ((a.length : Nat) : Int))), (0 : Int))).bind (alt (fun e_2 =>
      some (-1 : Int)) (fun e_3 =>
      some e_3.1)))
theorem w_szStringS_c {a left r} (h : w_szStringS a left = some r) : Call tab ow 88 [sl eS a, I left] [] = some (I r, []) := by
  rw [Call_run (af := a_w_szStringS) rfl]
  unfold w_szStringS at h
  simp +decide only [a_w_szStringS, b_w_szStringS, go_sem, reduceIte, Nat.reduceAdd]
  have d1 := @w_szStringS_1_l
  all_goals exact go
noncomputable def w_szStringSS_1_s (a2 : List (List (List UInt8))) : Int × Int → Option ((Int × Int) ⊕ (Unit ⊕ (Int × Int × Bool)))
  | (left2, i) =>
    br (decide (i < ((a2.length : Nat) : Int))) (
      (atL a2 i).bind fun x =>
      (w_szStringS x left2).bind fun r_ =>
      br (decide (r_ < (0 : Int))) (
        some (.inr (.inl ()))) (
        some (.inl (r_, (IntKind.wrap .i64 (i + (1 : Int))))))) (
      some (.inr (.inr (left2, i, decide (i < ((a2.length : Nat) : Int))))))
@[reducible] def w_szStringSS_1_S (a2 : List (List (List UInt8))) (s : Int × Int) : St := ⟨[(0, sl (eL eS) a2), (1, I s.1), (5, I s.2)], []⟩
@[reducible] def w_szStringSS_1_E (a2 : List (List (List UInt8))) : (Unit ⊕ (Int × Int × Bool)) → AExit × St := alt (fun e => ((.ret, ⟨[(4, I (-1 : Int))], []⟩) : AExit × St)) (fun e => (.exit 0, ⟨[(0, sl (eL eS) a2), (1, I e.1), (5, I e.2.1), (15, B e.2.2)], []⟩))
theorem w_szStringSS_1_l {a2 s e} (h : Loop (w_szStringSS_1_s a2) s = some e) : LoopX tab ow (.close [8005]) b_w_szStringSS_5 (w_szStringSS_1_S a2 s) = some (w_szStringSS_1_E a2 e) := by
  refine lrG (fun s o h => ?_) h
  obtain ⟨_, _⟩ := s
  simp only [w_szStringSS_1_s] at h
  simp +decide only [w_szStringSS_1_S, w_szStringSS_1_E, b_w_szStringSS_5, go_sem, reduceIte, Nat.reduceAdd]
  have d1 := @w_szStringS_c
  all_goals exact go
noncomputable def w_szStringSS (a : (List (List (List UInt8)))) (left : Int) : Option (Int) :=
  br (decide ((IntKind.wrap .i64 (left - ((a.length : Nat) : Int))) < (0 : Int))) (
    some (-1 : Int)) (
    (Loop (w_szStringSS_1_s a) ((IntKind.wrap .i64 (left - ((a.length : Nat) : Int))), (0 : Int))).bind (alt (fun e_2 =>
      some (-1 : Int)) (fun e_3 =>
      some e_3.1)))
theorem w_szStringSS_c {a left r} (h : w_szStringSS a left = some r) : Call tab ow 198 [sl (eL eS) a, I left] [] = some (I r, []) := by
  rw [Call_run (af := a_w_szStringSS) rfl]
  unfold w_szStringSS at h
  simp +decide only [a_w_szStringSS, b_w_szStringSS, go_sem, reduceIte, Nat.reduceAdd]
  have d1 := @w_szStringSS_1_l
  all_goals exact go
noncomputable def w_szQuery (a : Query) (left : Int) : Option (Int) :=
  (w_szExtS a.Pairs left).bind fun r_ =>
  br (decide (r_ < (0 : Int))) (
    some (-1 : Int)) (
    (w_szStringSS a.Paths r_).bind fun r_2 =>
    br (decide (r_2 < (0 : Int))) (
      some (-1 : Int)) (
      some r_2))
theorem w_szQuery_c {a left r} (h : w_szQuery a left = some r) : Call tab ow 149 [.agg [sl eExt a.Pairs, sl (eL eS) a.Paths], I left] [] = some (I r, []) := by
  rw [Call_run (af := a_w_szQuery) rfl]
  unfold w_szQuery at h
  simp +decide only [a_w_szQuery, b_w_szQuery, go_sem, reduceIte, Nat.reduceAdd]
  have d1 := @w_szExtS_c
  have d2 := @w_szStringSS_c
  all_goals exact go
noncomputable def w_szQueryS_1_s (a2 : List Query) : Int × Int → Option ((Int × Int) ⊕ (Unit ⊕ (Int × Int × Bool)))
  | (left2, i) =>
    br (decide (i < ((a2.length : Nat) : Int))) (
      (atL a2 i).bind fun x =>
      (w_szQuery x left2).bind fun r_ =>
      br (decide (r_ < (0 : Int))) (
        some (.inr (.inl ()))) (
        some (.inl (r_, (IntKind.wrap .i64 (i + (1 : Int))))))) (
      some (.inr (.inr (left2, i, decide (i < ((a2.length : Nat) : Int))))))
@[reducible] def w_szQueryS_1_S (a2 : List Query) (s : Int × Int) : St := ⟨[(0, sl eQuery a2), (1, I s.1), (5, I s.2)], []⟩
@[reducible] def w_szQueryS_1_E (a2 : List Query) : (Unit ⊕ (Int × Int × Bool)) → AExit × St := alt (fun e => ((.ret, ⟨[(4, I (-1 : Int))], []⟩) : AExit × St)) (fun e => (.exit 0, ⟨[(0, sl eQuery a2), (1, I e.1), (5, I e.2.1), (15, B e.2.2)], []⟩))
theorem w_szQueryS_1_l {a2 s e} (h : Loop (w_szQueryS_1_s a2) s = some e) : LoopX tab ow (.close [8005]) b_w_szQueryS_5 (w_szQueryS_1_S a2 s) = some (w_szQueryS_1_E a2 e) := by
  refine lrG (fun s o h => ?_) h
  obtain ⟨_, _⟩ := s
  simp only [w_szQueryS_1_s] at h
  simp +decide only [w_szQueryS_1_S, w_szQueryS_1_E, b_w_szQueryS_5, go_sem, reduceIte, Nat.reduceAdd]
  have d1 := @w_szQuery_c
  all_goals exact go
noncomputable def w_szQueryS (a : (List Query)) (left : Int) : Option (Int) :=
  br (decide ((IntKind.wrap .i64 (left - ((a.length : Nat) : Int))) < (0 : Int))) (
    some (-1 : Int)) (
    (Loop (w_szQueryS_1_s a) ((IntKind.wrap .i64 (left - ((a.length : Nat) : Int))), (0 : Int))).bind (alt (fun e_2 =>
      some (-1 : Int)) (fun e_3 =>
      some e_3.1)))
theorem w_szQueryS_c {a left r} (h : w_szQueryS a left = some r) : Call tab ow 89 [sl eQuery a, I left] [] = some (I r, []) := by
  rw [Call_run (af := a_w_szQueryS) rfl]
  unfold w_szQueryS at h
  simp +decide only [a_w_szQueryS, b_w_szQueryS, go_sem, reduceIte, Nat.reduceAdd]
  have d1 := @w_szQueryS_1_l
  all_goals exact go
noncomputable def w_szOpening (a : Opening) (left : Int) : Option (Int) :=
  (w_szExtSS a.Rounds left).bind fun r_ =>
  br (decide (r_ < (0 : Int))) (
    some (-1 : Int)) (
    (w_szStringS a.Roots r_).bind fun r_2 =>
    br (decide (r_2 < (0 : Int))) (
      some (-1 : Int)) (
      (w_szQueryS a.Queries r_2).bind fun r_3 =>
      br (decide (r_3 < (0 : Int))) (
        some (-1 : Int)) (
        some r_3)))
theorem w_szOpening_c {a left r} (h : w_szOpening a left = some r) : Call tab ow 30 [.agg [sl (eL eExt) a.Rounds, sl eS a.Roots, I a.Last.A, I a.Last.B, I a.Nonce, sl eQuery a.Queries], I left] [] = some (I r, []) := by
  rw [Call_run (af := a_w_szOpening) rfl]
  unfold w_szOpening at h
  simp +decide only [a_w_szOpening, b_w_szOpening, go_sem, reduceIte, Nat.reduceAdd]
  have d1 := @w_szExtSS_c
  have d2 := @w_szStringS_c
  have d3 := @w_szQueryS_c
  all_goals exact go
section
theorem w_toExtSS_k0 : ∀ k, repR 2002 k [.imm 1 []] = rws (eL eExt) (List.replicate k ([] : List Ext)) := fun _ => repT (eL eExt) ([] : List Ext) _ _
attribute [local go_sem] w_toExtSS_k0
noncomputable def w_toExtSS_1_s (a2 : List (List Ext)) : (List (List Ext)) × Int → Option (((List (List Ext)) × Int) ⊕ (((List (List Ext)) × Int × Bool)))
  | (l, i) =>
    br (decide (i < ((a2.length : Nat) : Int))) (
      (atL a2 i).bind fun x =>
      (w_toExtS x).bind fun r_ =>
      br (decide (0 ≤ i)) (
        br (decide (i.toNat < l.length)) (
          (l[i.toNat]?).bind fun x2 =>
          some (.inl ((l.set i.toNat r_), (IntKind.wrap .i64 (i + (1 : Int)))))) (
          none)) (
        none)) (
      some (.inr (l, i, decide (i < ((a2.length : Nat) : Int)))))
@[reducible] def w_toExtSS_1_S (a2 : List (List Ext)) (s : (List (List Ext)) × Int) : St := ⟨[(0, sl (eL eExt) a2), (3, .sl 2002 0 s.1.length), (4, I s.2)], [(2002, ⟨1, false, rws (eL eExt) s.1⟩)]⟩
@[reducible] def w_toExtSS_1_E (a2 : List (List Ext)) : ((List (List Ext)) × Int × Bool) → AExit × St := fun e => (.exit 0, ⟨[(0, sl (eL eExt) a2), (3, .sl 2002 0 e.1.length), (4, I e.2.1), (11, B e.2.2)], [(2002, ⟨1, false, rws (eL eExt) e.1⟩)]⟩)
theorem w_toExtSS_1_l {a2 s e} (h : Loop (w_toExtSS_1_s a2) s = some e) : LoopX tab ow (.close [6006]) b_w_toExtSS_3 (w_toExtSS_1_S a2 s) = some (w_toExtSS_1_E a2 e) := by
  refine lrG (fun s o h => ?_) h
  obtain ⟨_, _⟩ := s
  simp only [w_toExtSS_1_s] at h
  simp +decide only [w_toExtSS_1_S, w_toExtSS_1_E, b_w_toExtSS_3, go_sem, reduceIte, Nat.reduceAdd]
  have d1 := @w_toExtS_c
  all_goals exact go
noncomputable def w_toExtSS (a : (List (List Ext))) : Option ((List (List Ext))) :=
  br (mkOK ((a.length : Nat) : Int) ((a.length : Nat) : Int) 24) (
    (Loop (w_toExtSS_1_s a) ((List.replicate (((a.length : Nat) : Int).toNat) ([] : List Ext)), (0 : Int))).bind fun e_ =>
    some e_.1) (
    none)
theorem w_toExtSS_c {a r} (h : w_toExtSS a = some r) : Call tab ow 92 [sl (eL eExt) a] [] = some (sl (eL eExt) r, []) := by
  rw [Call_run (af := a_w_toExtSS) rfl]
  unfold w_toExtSS at h
  simp +decide only [a_w_toExtSS, b_w_toExtSS, go_sem, reduceIte, Nat.reduceAdd]
  have d1 := @w_toExtSS_1_l
  all_goals exact go
end
section
theorem w_toStringS_k0 : ∀ k, repR 2002 k [S (([] : List UInt8))] = rws eS (List.replicate k (([] : List UInt8))) := fun _ => repT eS (([] : List UInt8)) _ _
attribute [local go_sem] w_toStringS_k0
noncomputable def w_toStringS_1_s (a2 : List (List UInt8)) : (List (List UInt8)) × Int → Option (((List (List UInt8)) × Int) ⊕ (((List (List UInt8)) × Int × Bool)))
  | (l, i) =>
    br (decide (i < ((a2.length : Nat) : Int))) (
      (atL a2 i).bind fun x =>
      br (decide (0 ≤ i)) (
        br (decide (i.toNat < l.length)) (
          (l[i.toNat]?).bind fun x2 =>
          some (.inl ((l.set i.toNat x), (IntKind.wrap .i64 (i + (1 : Int)))))) (
          none)) (
        none)) (
      some (.inr (l, i, decide (i < ((a2.length : Nat) : Int)))))
@[reducible] def w_toStringS_1_S (a2 : List (List UInt8)) (s : (List (List UInt8)) × Int) : St := ⟨[(0, sl eS a2), (3, .sl 2002 0 s.1.length), (4, I s.2)], [(2002, ⟨1, false, rws eS s.1⟩)]⟩
@[reducible] def w_toStringS_1_E (a2 : List (List UInt8)) : ((List (List UInt8)) × Int × Bool) → AExit × St := fun e => (.exit 0, ⟨[(0, sl eS a2), (3, .sl 2002 0 e.1.length), (4, I e.2.1), (11, B e.2.2)], [(2002, ⟨1, false, rws eS e.1⟩)]⟩)
theorem w_toStringS_1_l {a2 s e} (h : Loop (w_toStringS_1_s a2) s = some e) : LoopX tab ow (.close []) b_w_toStringS_3 (w_toStringS_1_S a2 s) = some (w_toStringS_1_E a2 e) := by
  refine lrG (fun s o h => ?_) h
  obtain ⟨_, _⟩ := s
  simp only [w_toStringS_1_s] at h
  simp +decide only [w_toStringS_1_S, w_toStringS_1_E, b_w_toStringS_3, go_sem, reduceIte, Nat.reduceAdd]
  all_goals exact go
noncomputable def w_toStringS (a : (List (List UInt8))) : Option ((List (List UInt8))) :=
  br (mkOK ((a.length : Nat) : Int) ((a.length : Nat) : Int) 16) (
    (Loop (w_toStringS_1_s a) ((List.replicate (((a.length : Nat) : Int).toNat) (([] : List UInt8))), (0 : Int))).bind fun e_ =>
    some e_.1) (
    none)
theorem w_toStringS_c {a r} (h : w_toStringS a = some r) : Call tab ow 93 [sl eS a] [] = some (sl eS r, []) := by
  rw [Call_run (af := a_w_toStringS) rfl]
  unfold w_toStringS at h
  simp +decide only [a_w_toStringS, b_w_toStringS, go_sem, reduceIte, Nat.reduceAdd]
  have d1 := @w_toStringS_1_l
  all_goals exact go
end
section
theorem w_toStringSS_k0 : ∀ k, repR 2002 k [.imm 1 []] = rws (eL eS) (List.replicate k ([] : List (List UInt8))) := fun _ => repT (eL eS) ([] : List (List UInt8)) _ _
attribute [local go_sem] w_toStringSS_k0
noncomputable def w_toStringSS_1_s (a2 : List (List (List UInt8))) : (List (List (List UInt8))) × Int → Option (((List (List (List UInt8))) × Int) ⊕ (((List (List (List UInt8))) × Int × Bool)))
  | (l, i) =>
    br (decide (i < ((a2.length : Nat) : Int))) (
      (atL a2 i).bind fun x =>
      (w_toStringS x).bind fun r_ =>
      br (decide (0 ≤ i)) (
        br (decide (i.toNat < l.length)) (
          (l[i.toNat]?).bind fun x2 =>
          some (.inl ((l.set i.toNat r_), (IntKind.wrap .i64 (i + (1 : Int)))))) (
          none)) (
        none)) (
      some (.inr (l, i, decide (i < ((a2.length : Nat) : Int)))))
@[reducible] def w_toStringSS_1_S (a2 : List (List (List UInt8))) (s : (List (List (List UInt8))) × Int) : St := ⟨[(0, sl (eL eS) a2), (3, .sl 2002 0 s.1.length), (4, I s.2)], [(2002, ⟨1, false, rws (eL eS) s.1⟩)]⟩
@[reducible] def w_toStringSS_1_E (a2 : List (List (List UInt8))) : ((List (List (List UInt8))) × Int × Bool) → AExit × St := fun e => (.exit 0, ⟨[(0, sl (eL eS) a2), (3, .sl 2002 0 e.1.length), (4, I e.2.1), (11, B e.2.2)], [(2002, ⟨1, false, rws (eL eS) e.1⟩)]⟩)
theorem w_toStringSS_1_l {a2 s e} (h : Loop (w_toStringSS_1_s a2) s = some e) : LoopX tab ow (.close [6006]) b_w_toStringSS_3 (w_toStringSS_1_S a2 s) = some (w_toStringSS_1_E a2 e) := by
  refine lrG (fun s o h => ?_) h
  obtain ⟨_, _⟩ := s
  simp only [w_toStringSS_1_s] at h
  simp +decide only [w_toStringSS_1_S, w_toStringSS_1_E, b_w_toStringSS_3, go_sem, reduceIte, Nat.reduceAdd]
  have d1 := @w_toStringS_c
  all_goals exact go
noncomputable def w_toStringSS (a : (List (List (List UInt8)))) : Option ((List (List (List UInt8)))) :=
  br (mkOK ((a.length : Nat) : Int) ((a.length : Nat) : Int) 24) (
    (Loop (w_toStringSS_1_s a) ((List.replicate (((a.length : Nat) : Int).toNat) ([] : List (List UInt8))), (0 : Int))).bind fun e_ =>
    some e_.1) (
    none)
theorem w_toStringSS_c {a r} (h : w_toStringSS a = some r) : Call tab ow 199 [sl (eL eS) a] [] = some (sl (eL eS) r, []) := by
  rw [Call_run (af := a_w_toStringSS) rfl]
  unfold w_toStringSS at h
  simp +decide only [a_w_toStringSS, b_w_toStringSS, go_sem, reduceIte, Nat.reduceAdd]
  have d1 := @w_toStringSS_1_l
  all_goals exact go
end
noncomputable def w_toQuery (a : Query) : Option (Query) :=
  (w_toExtS a.Pairs).bind fun r_ =>
  (w_toStringSS a.Paths).bind fun r_2 =>
  some (Query.mk r_ r_2)
theorem w_toQuery_c {a r} (h : w_toQuery a = some r) : Call tab ow 152 [.agg [sl eExt a.Pairs, sl (eL eS) a.Paths]] [] = some (.agg [sl eExt r.Pairs, sl (eL eS) r.Paths], []) := by
  rw [Call_run (af := a_w_toQuery) rfl]
  unfold w_toQuery at h
  simp +decide only [a_w_toQuery, b_w_toQuery, go_sem, reduceIte, Nat.reduceAdd]
  have d1 := @w_toExtS_c
  have d2 := @w_toStringSS_c
  all_goals exact go
end Go.AI.Fn

set_option linter.unusedVariables false
set_option linter.unusedSimpArgs false
set_option maxRecDepth 100000
set_option maxHeartbeats 1000000
namespace Go.AI.Fn
section
theorem w_toQueryS_k0 : ∀ k, repR 2002 k [.imm 1 [], .imm 1 []] = rws eQuery (List.replicate k (Query.mk ([] : List Ext) ([] : List (List (List UInt8))))) := fun _ => repT eQuery (Query.mk ([] : List Ext) ([] : List (List (List UInt8)))) _ _
attribute [local go_sem] w_toQueryS_k0
noncomputable def w_toQueryS_1_s (a2 : List Query) : (List Query) × Int → Option (((List Query) × Int) ⊕ (((List Query) × Int × Bool)))
  | (l, i) =>
    br (decide (i < ((a2.length : Nat) : Int))) (
      (atL a2 i).bind fun x =>
      (w_toQuery x).bind fun r_ =>
      br (decide (0 ≤ i)) (
        br (decide (i.toNat < l.length)) (
          (l[i.toNat]?).bind fun x2 =>
          some (.inl ((l.set i.toNat r_), (IntKind.wrap .i64 (i + (1 : Int)))))) (
          none)) (
        none)) (
      some (.inr (l, i, decide (i < ((a2.length : Nat) : Int)))))
@[reducible] def w_toQueryS_1_S (a2 : List Query) (s : (List Query) × Int) : St := ⟨[(0, sl eQuery a2), (3, .sl 2002 0 s.1.length), (4, I s.2)], [(2002, ⟨2, false, rws eQuery s.1⟩)]⟩
@[reducible] def w_toQueryS_1_E (a2 : List Query) : ((List Query) × Int × Bool) → AExit × St := fun e => (.exit 0, ⟨[(0, sl eQuery a2), (3, .sl 2002 0 e.1.length), (4, I e.2.1), (11, B e.2.2)], [(2002, ⟨2, false, rws eQuery e.1⟩)]⟩)
theorem w_toQueryS_1_l {a2 s e} (h : Loop (w_toQueryS_1_s a2) s = some e) : LoopX tab ow (.close [6006]) b_w_toQueryS_3 (w_toQueryS_1_S a2 s) = some (w_toQueryS_1_E a2 e) := by
  refine lrG (fun s o h => ?_) h
  obtain ⟨_, _⟩ := s
  simp only [w_toQueryS_1_s] at h
  simp +decide only [w_toQueryS_1_S, w_toQueryS_1_E, b_w_toQueryS_3, go_sem, reduceIte, Nat.reduceAdd]
  have d1 := @w_toQuery_c
  all_goals exact go
noncomputable def w_toQueryS (a : (List Query)) : Option ((List Query)) :=
  br (mkOK ((a.length : Nat) : Int) ((a.length : Nat) : Int) 48) (
    (Loop (w_toQueryS_1_s a) ((List.replicate (((a.length : Nat) : Int).toNat) (Query.mk ([] : List Ext) ([] : List (List (List UInt8))))), (0 : Int))).bind fun e_ =>
    some e_.1) (
    none)
theorem w_toQueryS_c {a r} (h : w_toQueryS a = some r) : Call tab ow 94 [sl eQuery a] [] = some (sl eQuery r, []) := by
  rw [Call_run (af := a_w_toQueryS) rfl]
  unfold w_toQueryS at h
  simp +decide only [a_w_toQueryS, b_w_toQueryS, go_sem, reduceIte, Nat.reduceAdd]
  have d1 := @w_toQueryS_1_l
  all_goals exact go
end
noncomputable def w_toOpening (a : Opening) : Option (Opening) :=
  (w_toExtSS a.Rounds).bind fun r_ =>
  (w_toStringS a.Roots).bind fun r_2 =>
  (w_toExt a.Last).bind fun r_3 =>
  (w_toQueryS a.Queries).bind fun r_4 =>
  some (Opening.mk r_ r_2 r_3 a.Nonce r_4)
theorem w_toOpening_c {a r} (h : w_toOpening a = some r) : Call tab ow 32 [.agg [sl (eL eExt) a.Rounds, sl eS a.Roots, I a.Last.A, I a.Last.B, I a.Nonce, sl eQuery a.Queries]] [] = some (.agg [sl (eL eExt) r.Rounds, sl eS r.Roots, I r.Last.A, I r.Last.B, I r.Nonce, sl eQuery r.Queries], []) := by
  rw [Call_run (af := a_w_toOpening) rfl]
  unfold w_toOpening at h
  simp +decide only [a_w_toOpening, b_w_toOpening, go_sem, reduceIte, Nat.reduceAdd]
  have d1 := @w_toExtSS_c
  have d2 := @w_toStringS_c
  have d3 := @w_toExt_c
  have d4 := @w_toQueryS_c
  all_goals exact go
noncomputable def w_toSetting (a : Setting) : Option (Setting) :=
  some a
theorem w_toSetting_c {a r} (h : w_toSetting a = some r) : Call tab ow 33 [.agg [I a.Rate, I a.Queries, I a.Grind]] [] = some (.agg [I r.Rate, I r.Queries, I r.Grind], []) := by
  rw [Call_run (af := a_w_toSetting) rfl]
  unfold w_toSetting at h
  simp +decide only [a_w_toSetting, b_w_toSetting, go_sem, reduceIte, Nat.reduceAdd]
  all_goals exact go
noncomputable def s_SettingOK (t : Setting) : Option (Bool) :=
  (s_l01In t.Rate (1 : Int) (3 : Int)).bind fun r_ =>
  br r_ (
    (s_l01In t.Queries (1 : Int) (8 : Int)).bind fun r_2 =>
    br r_2 (
      (s_l01In t.Grind (0 : Int) (12 : Int)).bind fun r_3 =>
      some r_3) (
      some false)) (
    some false)
theorem s_SettingOK_c {t r} (h : s_SettingOK t = some r) : Call tab ow 103 [.agg [I t.Rate, I t.Queries, I t.Grind]] [] = some (B r, []) := by
  rw [Call_run (af := a_s_SettingOK) rfl]
  unfold s_SettingOK at h
  simp +decide only [a_s_SettingOK, b_s_SettingOK, go_sem, reduceIte, Nat.reduceAdd]
  have d1 := @s_l01In_c
  all_goals exact go
noncomputable def s_OpeningOK_1_s (t : Int) (c : List (List Ext)) (c2 : List (List UInt8)) (c3 : Int) (c4 : Int) (c5 : Int) (c6 : List Query) (c7 : Int) (c8 : Int) (c9 : Int) : Int → Option ((Int) ⊕ (Unit ⊕ (Int × Bool)))
  | t2 =>
    br (decide (t2 < t)) (
      (atL c t2).bind fun x =>
      br (((x.length : Nat) : Int) != (3 : Int)) (
        some (.inr (.inl ()))) (
        (atL c t2).bind fun x2 =>
        (s_l02List x2).bind fun r_5 =>
        br (!r_5) (
          some (.inr (.inl ()))) (
          br (decide (t2 > (0 : Int))) (
            (atL c2 (IntKind.wrap .i64 (t2 - (1 : Int)))).bind fun x3 =>
            br (((x3.length : Nat) : Int) != (32 : Int)) (
              some (.inr (.inl ()))) (
              some (.inl (IntKind.wrap .i64 (t2 + (1 : Int)))))) (
            some (.inl (IntKind.wrap .i64 (t2 + (1 : Int)))))))) (
      some (.inr (.inr (t2, decide (t2 < t)))))
@[reducible] def s_OpeningOK_1_S (t : Int) (c : List (List Ext)) (c2 : List (List UInt8)) (c3 : Int) (c4 : Int) (c5 : Int) (c6 : List Query) (c7 : Int) (c8 : Int) (c9 : Int) (s : Int) : St := ⟨[(1, I t), (3, .ptr 1000 0 0 1), (5, .ptr 1001 0 0 1), (7, I s)], [(1000, ⟨6, true, [[sl (eL eExt) c, sl eS c2, I c3, I c4, I c5, sl eQuery c6]]⟩), (1001, ⟨3, true, [[I c7, I c8, I c9]]⟩)]⟩
@[reducible] def s_OpeningOK_1_E (t : Int) (c : List (List Ext)) (c2 : List (List UInt8)) (c3 : Int) (c4 : Int) (c5 : Int) (c6 : List Query) (c7 : Int) (c8 : Int) (c9 : Int) : (Unit ⊕ (Int × Bool)) → AExit × St := alt (fun e => ((.ret, ⟨[(6, B false)], [(1000, ⟨6, true, [[sl (eL eExt) c, sl eS c2, I c3, I c4, I c5, sl eQuery c6]]⟩), (1001, ⟨3, true, [[I c7, I c8, I c9]]⟩)]⟩) : AExit × St)) (fun e => (.exit 0, ⟨[(1, I t), (3, .ptr 1000 0 0 1), (5, .ptr 1001 0 0 1), (7, I e.1), (57, B e.2)], [(1000, ⟨6, true, [[sl (eL eExt) c, sl eS c2, I c3, I c4, I c5, sl eQuery c6]]⟩), (1001, ⟨3, true, [[I c7, I c8, I c9]]⟩)]⟩))
theorem s_OpeningOK_1_l {t c c2 c3 c4 c5 c6 c7 c8 c9 s e} (h : Loop (s_OpeningOK_1_s t c c2 c3 c4 c5 c6 c7 c8 c9) s = some e) : LoopX tab ow (.close [7013]) b_s_OpeningOK_4 (s_OpeningOK_1_S t c c2 c3 c4 c5 c6 c7 c8 c9 s) = some (s_OpeningOK_1_E t c c2 c3 c4 c5 c6 c7 c8 c9 e) := by
  refine lrG (fun s o h => ?_) h
  simp only [s_OpeningOK_1_s] at h
  simp +decide only [s_OpeningOK_1_S, s_OpeningOK_1_E, b_s_OpeningOK_4, go_sem, reduceIte, Nat.reduceAdd]
  have d1 := @s_l02List_c
  all_goals exact go
noncomputable def s_OpeningOK_4_s (t8 : Int) (t9 : Int) (t10 : Int) (c30 : List (List Ext)) (c31 : List (List UInt8)) (c32 : Int) (c33 : Int) (c34 : Int) (c35 : List Query) (c36 : Int) (c37 : Int) (c38 : Int) (c39 : List Ext) (c40 : List (List (List UInt8))) : Int → Option ((Int) ⊕ (Unit ⊕ (Int × Bool)))
  | t11 =>
    (atL c40 t10).bind fun x6 =>
    br (decide (t11 < ((x6.length : Nat) : Int))) (
      (atL c40 t10).bind fun x7 =>
      (atL x7 t11).bind fun x8 =>
      br (((x8.length : Nat) : Int) != (32 : Int)) (
        some (.inr (.inl ()))) (
        some (.inl (IntKind.wrap .i64 (t11 + (1 : Int)))))) (
      some (.inr (.inr (t11, decide (t11 < ((x6.length : Nat) : Int))))))
@[reducible] def s_OpeningOK_4_S (t8 : Int) (t9 : Int) (t10 : Int) (c30 : List (List Ext)) (c31 : List (List UInt8)) (c32 : Int) (c33 : Int) (c34 : Int) (c35 : List Query) (c36 : Int) (c37 : Int) (c38 : Int) (c39 : List Ext) (c40 : List (List (List UInt8))) (s : Int) : St := ⟨[(1, I t8), (3, .ptr 1000 0 0 1), (5, .ptr 1001 0 0 1), (8, I t9), (9, .ptr 12005 0 0 1), (10, I t10), (11, I s)], [(1000, ⟨6, true, [[sl (eL eExt) c30, sl eS c31, I c32, I c33, I c34, sl eQuery c35]]⟩), (1001, ⟨3, true, [[I c36, I c37, I c38]]⟩), (12005, ⟨2, true, [[sl eExt c39, sl (eL eS) c40]]⟩)]⟩
@[reducible] def s_OpeningOK_4_E (t8 : Int) (t9 : Int) (t10 : Int) (c30 : List (List Ext)) (c31 : List (List UInt8)) (c32 : Int) (c33 : Int) (c34 : Int) (c35 : List Query) (c36 : Int) (c37 : Int) (c38 : Int) (c39 : List Ext) (c40 : List (List (List UInt8))) : (Unit ⊕ (Int × Bool)) → AExit × St := alt (fun e => ((.ret, ⟨[(6, B false)], [(1000, ⟨6, true, [[sl (eL eExt) c30, sl eS c31, I c32, I c33, I c34, sl eQuery c35]]⟩), (1001, ⟨3, true, [[I c36, I c37, I c38]]⟩), (12005, ⟨2, true, [[sl eExt c39, sl (eL eS) c40]]⟩)]⟩) : AExit × St)) (fun e => (.exit 6, ⟨[(1, I t8), (3, .ptr 1000 0 0 1), (5, .ptr 1001 0 0 1), (8, I t9), (9, .ptr 12005 0 0 1), (10, I t10), (11, I e.1), (147, B e.2)], [(1000, ⟨6, true, [[sl (eL eExt) c30, sl eS c31, I c32, I c33, I c34, sl eQuery c35]]⟩), (1001, ⟨3, true, [[I c36, I c37, I c38]]⟩), (12005, ⟨2, true, [[sl eExt c39, sl (eL eS) c40]]⟩)]⟩))
theorem s_OpeningOK_4_l {t8 t9 t10 c30 c31 c32 c33 c34 c35 c36 c37 c38 c39 c40 s e} (h : Loop (s_OpeningOK_4_s t8 t9 t10 c30 c31 c32 c33 c34 c35 c36 c37 c38 c39 c40) s = some e) : LoopX tab ow (.close []) b_s_OpeningOK_20 (s_OpeningOK_4_S t8 t9 t10 c30 c31 c32 c33 c34 c35 c36 c37 c38 c39 c40 s) = some (s_OpeningOK_4_E t8 t9 t10 c30 c31 c32 c33 c34 c35 c36 c37 c38 c39 c40 e) := by
  refine lrG (fun s o h => ?_) h
  simp only [s_OpeningOK_4_s] at h
  simp +decide only [s_OpeningOK_4_S, s_OpeningOK_4_E, b_s_OpeningOK_20, go_sem, reduceIte, Nat.reduceAdd]
  all_goals exact go
noncomputable def s_OpeningOK_3_s (t5 : Int) (t6 : Int) (c19 : List (List Ext)) (c20 : List (List UInt8)) (c21 : Int) (c22 : Int) (c23 : Int) (c24 : List Query) (c25 : Int) (c26 : Int) (c27 : Int) (c28 : List Ext) (c29 : List (List (List UInt8))) : Int → Option ((Int) ⊕ (Unit ⊕ (Int × Bool)))
  | t7 =>
    br (decide (t7 < t5)) (
      (atL c29 t7).bind fun x5 =>
      br (((x5.length : Nat) : Int) != (IntKind.wrap .i64 ((IntKind.wrap .i64 ((IntKind.wrap .i64 (t5 + c25)) - (1 : Int))) - t7))) (
        some (.inr (.inl ()))) (
        (Loop (s_OpeningOK_4_s t5 t6 t7 c19 c20 c21 c22 c23 c24 c25 c26 c27 c28 c29) (0 : Int)).bind (alt (fun e_5 =>
          some (.inr (.inl ()))) (fun e_6 =>
          some (.inl (IntKind.wrap .i64 (t7 + (1 : Int)))))))) (
      some (.inr (.inr (t7, decide (t7 < t5)))))
@[reducible] def s_OpeningOK_3_S (t5 : Int) (t6 : Int) (c19 : List (List Ext)) (c20 : List (List UInt8)) (c21 : Int) (c22 : Int) (c23 : Int) (c24 : List Query) (c25 : Int) (c26 : Int) (c27 : Int) (c28 : List Ext) (c29 : List (List (List UInt8))) (s : Int) : St := ⟨[(1, I t5), (3, .ptr 1000 0 0 1), (5, .ptr 1001 0 0 1), (8, I t6), (9, .ptr 12005 0 0 1), (10, I s)], [(1000, ⟨6, true, [[sl (eL eExt) c19, sl eS c20, I c21, I c22, I c23, sl eQuery c24]]⟩), (1001, ⟨3, true, [[I c25, I c26, I c27]]⟩), (12005, ⟨2, true, [[sl eExt c28, sl (eL eS) c29]]⟩)]⟩
@[reducible] def s_OpeningOK_3_E (t5 : Int) (t6 : Int) (c19 : List (List Ext)) (c20 : List (List UInt8)) (c21 : Int) (c22 : Int) (c23 : Int) (c24 : List Query) (c25 : Int) (c26 : Int) (c27 : Int) (c28 : List Ext) (c29 : List (List (List UInt8))) : (Unit ⊕ (Int × Bool)) → AExit × St := alt (fun e => ((.ret, ⟨[(6, B false)], [(1000, ⟨6, true, [[sl (eL eExt) c19, sl eS c20, I c21, I c22, I c23, sl eQuery c24]]⟩), (1001, ⟨3, true, [[I c25, I c26, I c27]]⟩), (12005, ⟨2, true, [[sl eExt c28, sl (eL eS) c29]]⟩)]⟩) : AExit × St)) (fun e => (.exit 4, ⟨[(1, I t5), (3, .ptr 1000 0 0 1), (5, .ptr 1001 0 0 1), (8, I t6), (9, .ptr 12005 0 0 1), (10, I e.1), (123, B e.2)], [(1000, ⟨6, true, [[sl (eL eExt) c19, sl eS c20, I c21, I c22, I c23, sl eQuery c24]]⟩), (1001, ⟨3, true, [[I c25, I c26, I c27]]⟩), (12005, ⟨2, true, [[sl eExt c28, sl (eL eS) c29]]⟩)]⟩))
theorem s_OpeningOK_3_l {t5 t6 c19 c20 c21 c22 c23 c24 c25 c26 c27 c28 c29 s e} (h : Loop (s_OpeningOK_3_s t5 t6 c19 c20 c21 c22 c23 c24 c25 c26 c27 c28 c29) s = some e) : LoopX tab ow (.close []) b_s_OpeningOK_15 (s_OpeningOK_3_S t5 t6 c19 c20 c21 c22 c23 c24 c25 c26 c27 c28 c29 s) = some (s_OpeningOK_3_E t5 t6 c19 c20 c21 c22 c23 c24 c25 c26 c27 c28 c29 e) := by
  refine lrG (fun s o h => ?_) h
  simp only [s_OpeningOK_3_s] at h
  simp +decide only [s_OpeningOK_3_S, s_OpeningOK_3_E, b_s_OpeningOK_15, go_sem, reduceIte, Nat.reduceAdd]
  have d1 := @s_OpeningOK_4_l
  all_goals exact go
noncomputable def s_OpeningOK_2_s (t3 : Int) (c10 : List (List Ext)) (c11 : List (List UInt8)) (c12 : Int) (c13 : Int) (c14 : Int) (c15 : List Query) (c16 : Int) (c17 : Int) (c18 : Int) : Int → Option ((Int) ⊕ (((List Ext) × (List (List (List UInt8)))) ⊕ (Int × Bool)))
  | t4 =>
    br (decide (t4 < ((c15.length : Nat) : Int))) (
      (atL c15 t4).bind fun x4 =>
      br (((x4.Pairs.length : Nat) : Int) != (IntKind.wrap .i64 ((2 : Int) * t3))) (
        some (.inr (.inl (x4.Pairs, x4.Paths)))) (
        (s_l02List x4.Pairs).bind fun r_6 =>
        br (!r_6) (
          some (.inr (.inl (x4.Pairs, x4.Paths)))) (
          br (((x4.Paths.length : Nat) : Int) != t3) (
            some (.inr (.inl (x4.Pairs, x4.Paths)))) (
            (Loop (s_OpeningOK_3_s t3 t4 c10 c11 c12 c13 c14 c15 c16 c17 c18 x4.Pairs x4.Paths) (0 : Int)).bind (alt (fun e_8 =>
              some (.inr (.inl (x4.Pairs, x4.Paths)))) (fun e_9 =>
              some (.inl (IntKind.wrap .i64 (t4 + (1 : Int)))))))))) (
      some (.inr (.inr (t4, decide (t4 < ((c15.length : Nat) : Int))))))
@[reducible] def s_OpeningOK_2_S (t3 : Int) (c10 : List (List Ext)) (c11 : List (List UInt8)) (c12 : Int) (c13 : Int) (c14 : Int) (c15 : List Query) (c16 : Int) (c17 : Int) (c18 : Int) (s : Int) : St := ⟨[(1, I t3), (3, .ptr 1000 0 0 1), (5, .ptr 1001 0 0 1), (8, I s)], [(1000, ⟨6, true, [[sl (eL eExt) c10, sl eS c11, I c12, I c13, I c14, sl eQuery c15]]⟩), (1001, ⟨3, true, [[I c16, I c17, I c18]]⟩)]⟩
@[reducible] def s_OpeningOK_2_E (t3 : Int) (c10 : List (List Ext)) (c11 : List (List UInt8)) (c12 : Int) (c13 : Int) (c14 : Int) (c15 : List Query) (c16 : Int) (c17 : Int) (c18 : Int) : (((List Ext) × (List (List (List UInt8)))) ⊕ (Int × Bool)) → AExit × St := alt (fun e => ((.ret, ⟨[(6, B false)], [(1000, ⟨6, true, [[sl (eL eExt) c10, sl eS c11, I c12, I c13, I c14, sl eQuery c15]]⟩), (1001, ⟨3, true, [[I c16, I c17, I c18]]⟩), (12005, ⟨2, true, [[sl eExt e.1, sl (eL eS) e.2]]⟩)]⟩) : AExit × St)) (fun e => (.exit 2, ⟨[(1, I t3), (3, .ptr 1000 0 0 1), (5, .ptr 1001 0 0 1), (8, I e.1), (94, B e.2)], [(1000, ⟨6, true, [[sl (eL eExt) c10, sl eS c11, I c12, I c13, I c14, sl eQuery c15]]⟩), (1001, ⟨3, true, [[I c16, I c17, I c18]]⟩)]⟩))
theorem s_OpeningOK_2_l {t3 c10 c11 c12 c13 c14 c15 c16 c17 c18 s e} (h : Loop (s_OpeningOK_2_s t3 c10 c11 c12 c13 c14 c15 c16 c17 c18) s = some e) : LoopX tab ow (.close [12005,13009]) b_s_OpeningOK_9 (s_OpeningOK_2_S t3 c10 c11 c12 c13 c14 c15 c16 c17 c18 s) = some (s_OpeningOK_2_E t3 c10 c11 c12 c13 c14 c15 c16 c17 c18 e) := by
  refine lrG (fun s o h => ?_) h
  simp only [s_OpeningOK_2_s] at h
  simp +decide only [s_OpeningOK_2_S, s_OpeningOK_2_E, b_s_OpeningOK_9, go_sem, reduceIte, Nat.reduceAdd]
  have d1 := @s_l02List_c
  have d2 := @s_OpeningOK_3_l
  all_goals exact go
noncomputable def s_OpeningOK (ListtoArray : Opening) (a : Int) (a2 : Setting) : Option (Bool) :=
  (s_l01In a (1 : Int) (6 : Int)).bind fun r_ =>
  br (!r_) (
    some false) (
    (s_SettingOK a2).bind fun r_2 =>
    br (!r_2) (
      some false) (
      br (((ListtoArray.Rounds.length : Nat) : Int) != a) (
        some false) (
        br (((ListtoArray.Roots.length : Nat) : Int) != (IntKind.wrap .i64 (a - (1 : Int)))) (
          some false) (
          br (((ListtoArray.Queries.length : Nat) : Int) != a2.Queries) (
            some false) (
            (s_ExtOK ListtoArray.Last).bind fun r_3 =>
            br (!r_3) (
              some false) (
              (s_l01In ListtoArray.Nonce (0 : Int) (65535 : Int)).bind fun r_4 =>
              br (!r_4) (
                some false) (
                (Loop (s_OpeningOK_1_s a ListtoArray.Rounds ListtoArray.Roots ListtoArray.Last.A ListtoArray.Last.B ListtoArray.Nonce ListtoArray.Queries a2.Rate a2.Queries a2.Grind) (0 : Int)).bind (alt (fun e_2 =>
                  some false) (fun e_3 =>
                  (Loop (s_OpeningOK_2_s a ListtoArray.Rounds ListtoArray.Roots ListtoArray.Last.A ListtoArray.Last.B ListtoArray.Nonce ListtoArray.Queries a2.Rate a2.Queries a2.Grind) (0 : Int)).bind (alt (fun e_11 =>
                    some false) (fun e_12 =>
                    some true)))))))))))
theorem s_OpeningOK_c {ListtoArray a a2 r} (h : s_OpeningOK ListtoArray a a2 = some r) : Call tab ow 90 [.agg [sl (eL eExt) ListtoArray.Rounds, sl eS ListtoArray.Roots, I ListtoArray.Last.A, I ListtoArray.Last.B, I ListtoArray.Nonce, sl eQuery ListtoArray.Queries], I a, .agg [I a2.Rate, I a2.Queries, I a2.Grind]] [] = some (B r, []) := by
  rw [Call_run (af := a_s_OpeningOK) rfl]
  unfold s_OpeningOK at h
  simp +decide only [a_s_OpeningOK, b_s_OpeningOK, go_sem, reduceIte, Nat.reduceAdd]
  have d1 := @s_l01In_c
  have d2 := @s_SettingOK_c
  have d3 := @s_ExtOK_c
  have d4 := @s_OpeningOK_1_l
  have d5 := @s_OpeningOK_2_l
  all_goals exact go
noncomputable def i_SettingOK (t : Setting) : Option (Bool) :=
  (i_in t.Rate (1 : Int) (3 : Int)).bind fun r_ =>
  br r_ (
    (i_in t.Queries (1 : Int) (8 : Int)).bind fun r_2 =>
    br r_2 (
      (i_in t.Grind (0 : Int) (12 : Int)).bind fun r_3 =>
      some r_3) (
      some false)) (
    some false)
theorem i_SettingOK_c {t r} (h : i_SettingOK t = some r) : Call tab ow 112 [.agg [I t.Rate, I t.Queries, I t.Grind]] [] = some (B r, []) := by
  rw [Call_run (af := a_i_SettingOK) rfl]
  unfold i_SettingOK at h
  simp +decide only [a_i_SettingOK, b_i_SettingOK, go_sem, reduceIte, Nat.reduceAdd]
  have d1 := @i_in_c
  all_goals exact go
noncomputable def i_areRounds_1 (round : (List Ext)) (m : Int) : Option (Bool × Int) :=
  br (((round.length : Nat) : Int) != m) (
    some (true, m)) (
    (i_are_i_Ext_ExtOK round).bind fun r_ =>
    some ((!r_), m))
theorem i_areRounds_1_c {round m r} (h : i_areRounds_1 round m = some r) : Call tab ow 173 [sl eExt round, .ptr 0 0 0 1] [⟨1, true, [[I m]]⟩] = some (B r.1, [⟨1, true, [[I r.2]]⟩]) := by
  rw [Call_run (af := a_i_areRounds_1) rfl]
  unfold i_areRounds_1 at h
  simp +decide only [a_i_areRounds_1, b_i_areRounds_1, go_sem, reduceIte, Nat.reduceAdd]
  have d1 := @i_are_i_Ext_ExtOK_c
  all_goals exact go
noncomputable def slices_IndexFunc_LLi_Ext_Li_Ext_areRounds_1_1_s (s2 : List (List Ext)) (t : Int) : Int × Int → Option ((Int × Int) ⊕ ((Int × Int) ⊕ (Int × Bool × Int)))
  | (t2, c) =>
    br (decide (t2 < t)) (
      (atL s2 t2).bind fun x =>
      (i_areRounds_1 x c).bind fun r_ =>
      br r_.1 (
        some (.inr (.inl (t2, r_.2)))) (
        some (.inl ((IntKind.wrap .i64 (t2 + (1 : Int))), r_.2)))) (
      some (.inr (.inr (t2, decide (t2 < t), c))))
@[reducible] def slices_IndexFunc_LLi_Ext_Li_Ext_areRounds_1_1_S (s2 : List (List Ext)) (t : Int) (s : Int × Int) : St := ⟨[(0, sl (eL eExt) s2), (1, .fn 173 [.ptr 0 0 0 1]), (7, I t), (8, I s.1)], [(0, ⟨1, true, [[I s.2]]⟩)]⟩
@[reducible] def slices_IndexFunc_LLi_Ext_Li_Ext_areRounds_1_1_E (s2 : List (List Ext)) (t : Int) : ((Int × Int) ⊕ (Int × Bool × Int)) → AExit × St := alt (fun e => ((.ret, ⟨[(4, I e.1)], [(0, ⟨1, true, [[I e.2]]⟩)]⟩) : AExit × St)) (fun e => (.exit 0, ⟨[(0, sl (eL eExt) s2), (1, .fn 173 [.ptr 0 0 0 1]), (7, I t), (8, I e.1), (9, B e.2.1)], [(0, ⟨1, true, [[I e.2.2]]⟩)]⟩))
theorem slices_IndexFunc_LLi_Ext_Li_Ext_areRounds_1_1_l {s2 t s e} (h : Loop (slices_IndexFunc_LLi_Ext_Li_Ext_areRounds_1_1_s s2 t) s = some e) : LoopX tab ow (.close [5005]) b_slices_IndexFunc_LLi_Ext_Li_Ext_2 (slices_IndexFunc_LLi_Ext_Li_Ext_areRounds_1_1_S s2 t s) = some (slices_IndexFunc_LLi_Ext_Li_Ext_areRounds_1_1_E s2 t e) := by
  refine lrG (fun s o h => ?_) h
  obtain ⟨_, _⟩ := s
  simp only [slices_IndexFunc_LLi_Ext_Li_Ext_areRounds_1_1_s] at h
  simp +decide only [slices_IndexFunc_LLi_Ext_Li_Ext_areRounds_1_1_S, slices_IndexFunc_LLi_Ext_Li_Ext_areRounds_1_1_E, b_slices_IndexFunc_LLi_Ext_Li_Ext_2, go_sem, reduceIte, Nat.reduceAdd]
  have d1 := @i_areRounds_1_c
  all_goals exact go
noncomputable def slices_IndexFunc_LLi_Ext_Li_Ext_areRounds_1 (s : (List (List Ext))) (m : Int) : Option (Int × Int) :=
  (Loop (slices_IndexFunc_LLi_Ext_Li_Ext_areRounds_1_1_s s ((s.length : Nat) : Int)) ((0 : Int), m)).bind (alt (fun e_2 =>
    some (e_2.1, e_2.2)) (fun e_3 =>
    some ((-1 : Int), e_3.2.2)))
theorem slices_IndexFunc_LLi_Ext_Li_Ext_areRounds_1_c {s m r} (h : slices_IndexFunc_LLi_Ext_Li_Ext_areRounds_1 s m = some r) : Call tab ow 207 [sl (eL eExt) s, .fn 173 [.ptr 0 0 0 1]] [⟨1, true, [[I m]]⟩] = some (I r.1, [⟨1, true, [[I r.2]]⟩]) := by
  rw [Call_run (af := a_slices_IndexFunc_LLi_Ext_Li_Ext) rfl]
  unfold slices_IndexFunc_LLi_Ext_Li_Ext_areRounds_1 at h
  simp +decide only [a_slices_IndexFunc_LLi_Ext_Li_Ext, b_slices_IndexFunc_LLi_Ext_Li_Ext, go_sem, reduceIte, Nat.reduceAdd]
  have d1 := @slices_IndexFunc_LLi_Ext_Li_Ext_areRounds_1_1_l
  all_goals exact go
noncomputable def slices_ContainsFunc_LLi_Ext_Li_Ext_areRounds_1 (s : (List (List Ext))) (m : Int) : Option (Bool × Int) :=
  (slices_IndexFunc_LLi_Ext_Li_Ext_areRounds_1 s m).bind fun r_ =>
  some (decide (r_.1 ≥ (0 : Int)), r_.2)
theorem slices_ContainsFunc_LLi_Ext_Li_Ext_areRounds_1_c {s m r} (h : slices_ContainsFunc_LLi_Ext_Li_Ext_areRounds_1 s m = some r) : Call tab ow 172 [sl (eL eExt) s, .fn 173 [.ptr 0 0 0 1]] [⟨1, true, [[I m]]⟩] = some (B r.1, [⟨1, true, [[I r.2]]⟩]) := by
  rw [Call_run (af := a_slices_ContainsFunc_LLi_Ext_Li_Ext) rfl]
  unfold slices_ContainsFunc_LLi_Ext_Li_Ext_areRounds_1 at h
  simp +decide only [a_slices_ContainsFunc_LLi_Ext_Li_Ext, b_slices_ContainsFunc_LLi_Ext_Li_Ext, go_sem, reduceIte, Nat.reduceAdd]
  have d1 := @slices_IndexFunc_LLi_Ext_Li_Ext_areRounds_1_c
  all_goals exact go
noncomputable def i_areRounds (rounds : (List (List Ext))) (many : Int) (size : Int) : Option (Bool) :=
  br (((rounds.length : Nat) : Int) == many) (
    (slices_ContainsFunc_LLi_Ext_Li_Ext_areRounds_1 rounds size).bind fun r_ =>
    some (!r_.1)) (
    some false)
theorem i_areRounds_c {rounds many size r} (h : i_areRounds rounds many size = some r) : Call tab ow 114 [sl (eL eExt) rounds, I many, I size] [] = some (B r, []) := by
  rw [Call_run (af := a_i_areRounds) rfl]
  unfold i_areRounds at h
  simp +decide only [a_i_areRounds, b_i_areRounds, go_sem, reduceIte, Nat.reduceAdd]
  have d1 := @slices_ContainsFunc_LLi_Ext_Li_Ext_areRounds_1_c
  all_goals exact go
noncomputable def i_isHash (h_ : (List UInt8)) : Option (Bool) :=
  some (((h_.length : Nat) : Int) == (32 : Int))
theorem i_isHash_c {h_ r} (h : i_isHash h_ = some r) : Call tab ow 113 [S h_] [] = some (B r, []) := by
  rw [Call_run (af := a_i_isHash) rfl]
  unfold i_isHash at h
  simp +decide only [a_i_isHash, b_i_isHash, go_sem, reduceIte, Nat.reduceAdd]
  all_goals exact go
noncomputable def i_are_string_1_isHash (x : (List UInt8)) : Option (Bool) :=
  (i_isHash x).bind fun r_ =>
  some (!r_)
theorem i_are_string_1_isHash_c {x r} (h : i_are_string_1_isHash x = some r) : Call tab ow 201 [S x, .ptr 0 0 0 1] [⟨1, true, [[.fn 113 []]]⟩] = some (B r, [⟨1, true, [[.fn 113 []]]⟩]) := by
  rw [Call_run (af := a_i_are_string_1) rfl]
  unfold i_are_string_1_isHash at h
  simp +decide only [a_i_are_string_1, b_i_are_string_1, go_sem, reduceIte, Nat.reduceAdd]
  have d1 := @i_isHash_c
  all_goals exact go
noncomputable def slices_IndexFunc_Lstring_string_are_string_1_isHash_1_s (s2 : List (List UInt8)) (t : Int) : Int → Option ((Int) ⊕ (Int ⊕ (Int × Bool)))
  | t2 =>
    br (decide (t2 < t)) (
      (atL s2 t2).bind fun x =>
      (i_are_string_1_isHash x).bind fun r_ =>
      br r_ (
        some (.inr (.inl t2))) (
        some (.inl (IntKind.wrap .i64 (t2 + (1 : Int)))))) (
      some (.inr (.inr (t2, decide (t2 < t)))))
@[reducible] def slices_IndexFunc_Lstring_string_are_string_1_isHash_1_S (s2 : List (List UInt8)) (t : Int) (s : Int) : St := ⟨[(0, sl eS s2), (1, .fn 201 [.ptr 0 0 0 1]), (7, I t), (8, I s)], [(0, ⟨1, true, [[.fn 113 []]]⟩)]⟩
@[reducible] def slices_IndexFunc_Lstring_string_are_string_1_isHash_1_E (s2 : List (List UInt8)) (t : Int) : (Int ⊕ (Int × Bool)) → AExit × St := alt (fun e => ((.ret, ⟨[(4, I e)], [(0, ⟨1, true, [[.fn 113 []]]⟩)]⟩) : AExit × St)) (fun e => (.exit 0, ⟨[(0, sl eS s2), (1, .fn 201 [.ptr 0 0 0 1]), (7, I t), (8, I e.1), (9, B e.2)], [(0, ⟨1, true, [[.fn 113 []]]⟩)]⟩))
theorem slices_IndexFunc_Lstring_string_are_string_1_isHash_1_l {s2 t s e} (h : Loop (slices_IndexFunc_Lstring_string_are_string_1_isHash_1_s s2 t) s = some e) : LoopX tab ow (.close [5005]) b_slices_IndexFunc_Lstring_string_2 (slices_IndexFunc_Lstring_string_are_string_1_isHash_1_S s2 t s) = some (slices_IndexFunc_Lstring_string_are_string_1_isHash_1_E s2 t e) := by
  refine lrG (fun s o h => ?_) h
  simp only [slices_IndexFunc_Lstring_string_are_string_1_isHash_1_s] at h
  simp +decide only [slices_IndexFunc_Lstring_string_are_string_1_isHash_1_S, slices_IndexFunc_Lstring_string_are_string_1_isHash_1_E, b_slices_IndexFunc_Lstring_string_2, go_sem, reduceIte, Nat.reduceAdd]
  have d1 := @i_are_string_1_isHash_c
  all_goals exact go
noncomputable def slices_IndexFunc_Lstring_string_are_string_1_isHash (s : (List (List UInt8))) : Option (Int) :=
  (Loop (slices_IndexFunc_Lstring_string_are_string_1_isHash_1_s s ((s.length : Nat) : Int)) (0 : Int)).bind (alt (fun e_2 =>
    some e_2) (fun e_3 =>
    some (-1 : Int)))
theorem slices_IndexFunc_Lstring_string_are_string_1_isHash_c {s r} (h : slices_IndexFunc_Lstring_string_are_string_1_isHash s = some r) : Call tab ow 220 [sl eS s, .fn 201 [.ptr 0 0 0 1]] [⟨1, true, [[.fn 113 []]]⟩] = some (I r, [⟨1, true, [[.fn 113 []]]⟩]) := by
  rw [Call_run (af := a_slices_IndexFunc_Lstring_string) rfl]
  unfold slices_IndexFunc_Lstring_string_are_string_1_isHash at h
  simp +decide only [a_slices_IndexFunc_Lstring_string, b_slices_IndexFunc_Lstring_string, go_sem, reduceIte, Nat.reduceAdd]
  have d1 := @slices_IndexFunc_Lstring_string_are_string_1_isHash_1_l
  all_goals exact go
noncomputable def slices_ContainsFunc_Lstring_string_are_string_1_isHash (s : (List (List UInt8))) : Option (Bool) :=
  (slices_IndexFunc_Lstring_string_are_string_1_isHash s).bind fun r_ =>
  some (decide (r_ ≥ (0 : Int)))
theorem slices_ContainsFunc_Lstring_string_are_string_1_isHash_c {s r} (h : slices_ContainsFunc_Lstring_string_are_string_1_isHash s = some r) : Call tab ow 200 [sl eS s, .fn 201 [.ptr 0 0 0 1]] [⟨1, true, [[.fn 113 []]]⟩] = some (B r, [⟨1, true, [[.fn 113 []]]⟩]) := by
  rw [Call_run (af := a_slices_ContainsFunc_Lstring_string) rfl]
  unfold slices_ContainsFunc_Lstring_string_are_string_1_isHash at h
  simp +decide only [a_slices_ContainsFunc_Lstring_string, b_slices_ContainsFunc_Lstring_string, go_sem, reduceIte, Nat.reduceAdd]
  have d1 := @slices_IndexFunc_Lstring_string_are_string_1_isHash_c
  all_goals exact go
noncomputable def i_are_string_isHash (list : (List (List UInt8))) : Option (Bool) :=
  (slices_ContainsFunc_Lstring_string_are_string_1_isHash list).bind fun r_ =>
  some (!r_)
theorem i_are_string_isHash_c {list r} (h : i_are_string_isHash list = some r) : Call tab ow 153 [.fn 113 [], sl eS list] [] = some (B r, []) := by
  rw [Call_run (af := a_i_are_string) rfl]
  unfold i_are_string_isHash at h
  simp +decide only [a_i_are_string, b_i_are_string, go_sem, reduceIte, Nat.reduceAdd]
  have d1 := @slices_ContainsFunc_Lstring_string_are_string_1_isHash_c
  all_goals exact go
noncomputable def i_isQuery_1_s (vars2 : Int) (t2 : List (List (List UInt8))) (t3 : Int) (c : List Ext) (c2 : List (List (List UInt8))) (c3 : Int) (c4 : Int) (c5 : Int) : Int → Option ((Int) ⊕ (Unit ⊕ (Int × Bool)))
  | t4 =>
    br (decide (t4 < t3)) (
      (atL t2 t4).bind fun x =>
      br (((x.length : Nat) : Int) != (IntKind.wrap .i64 ((IntKind.wrap .i64 ((IntKind.wrap .i64 (vars2 + c3)) - (1 : Int))) - t4))) (
        some (.inr (.inl ()))) (
        (i_are_string_isHash x).bind fun r_2 =>
        br (!r_2) (
          some (.inr (.inl ()))) (
          some (.inl (IntKind.wrap .i64 (t4 + (1 : Int))))))) (
      some (.inr (.inr (t4, decide (t4 < t3)))))
@[reducible] def i_isQuery_1_S (vars2 : Int) (t2 : List (List (List UInt8))) (t3 : Int) (c : List Ext) (c2 : List (List (List UInt8))) (c3 : Int) (c4 : Int) (c5 : Int) (s : Int) : St := ⟨[(1, I vars2), (5, .ptr 1001 0 0 1), (29, sl (eL eS) t2), (30, I t3), (31, I s)], [(1000, ⟨2, true, [[sl eExt c, sl (eL eS) c2]]⟩), (1001, ⟨3, true, [[I c3, I c4, I c5]]⟩)]⟩
@[reducible] def i_isQuery_1_E (vars2 : Int) (t2 : List (List (List UInt8))) (t3 : Int) (c : List Ext) (c2 : List (List (List UInt8))) (c3 : Int) (c4 : Int) (c5 : Int) : (Unit ⊕ (Int × Bool)) → AExit × St := alt (fun e => ((.ret, ⟨[(6, B false)], [(1000, ⟨2, true, [[sl eExt c, sl (eL eS) c2]]⟩), (1001, ⟨3, true, [[I c3, I c4, I c5]]⟩)]⟩) : AExit × St)) (fun e => (.exit 0, ⟨[(1, I vars2), (5, .ptr 1001 0 0 1), (29, sl (eL eS) t2), (30, I t3), (31, I e.1), (32, B e.2)], [(1000, ⟨2, true, [[sl eExt c, sl (eL eS) c2]]⟩), (1001, ⟨3, true, [[I c3, I c4, I c5]]⟩)]⟩))
theorem i_isQuery_1_l {vars2 t2 t3 c c2 c3 c4 c5 s e} (h : Loop (i_isQuery_1_s vars2 t2 t3 c c2 c3 c4 c5) s = some e) : LoopX tab ow (.close [7012]) b_i_isQuery_4 (i_isQuery_1_S vars2 t2 t3 c c2 c3 c4 c5 s) = some (i_isQuery_1_E vars2 t2 t3 c c2 c3 c4 c5 e) := by
  refine lrG (fun s o h => ?_) h
  simp only [i_isQuery_1_s] at h
  simp +decide only [i_isQuery_1_S, i_isQuery_1_E, b_i_isQuery_4, go_sem, reduceIte, Nat.reduceAdd]
  have d1 := @i_are_string_isHash_c
  all_goals exact go
noncomputable def i_isQuery (q : Query) (vars : Int) (t : Setting) : Option (Bool) :=
  br (((q.Pairs.length : Nat) : Int) != (IntKind.wrap .i64 ((2 : Int) * vars))) (
    some false) (
    (i_are_i_Ext_ExtOK q.Pairs).bind fun r_ =>
    br (!r_) (
      some false) (
      br (((q.Paths.length : Nat) : Int) != vars) (
        some false) (
        (Loop (i_isQuery_1_s vars q.Paths ((q.Paths.length : Nat) : Int) q.Pairs q.Paths t.Rate t.Queries t.Grind) (0 : Int)).bind (alt (fun e_2 =>
          some false) (fun e_3 =>
          some true)))))
theorem i_isQuery_c {q vars t r} (h : i_isQuery q vars t = some r) : Call tab ow 156 [.agg [sl eExt q.Pairs, sl (eL eS) q.Paths], I vars, .agg [I t.Rate, I t.Queries, I t.Grind]] [] = some (B r, []) := by
  rw [Call_run (af := a_i_isQuery) rfl]
  unfold i_isQuery at h
  simp +decide only [a_i_isQuery, b_i_isQuery, go_sem, reduceIte, Nat.reduceAdd]
  have d1 := @i_are_i_Ext_ExtOK_c
  have d2 := @i_isQuery_1_l
  all_goals exact go
noncomputable def i_OpeningOK_1 (q : Query) (m : Int) (m2 : Setting) : Option (Bool × Int × Setting) :=
  (i_isQuery q m m2).bind fun r_ =>
  some (r_, m, m2)
theorem i_OpeningOK_1_c {q m m2 r} (h : i_OpeningOK_1 q m m2 = some r) : Call tab ow 155 [.agg [sl eExt q.Pairs, sl (eL eS) q.Paths], .ptr 0 0 0 1, .ptr 1 0 0 1] [⟨1, true, [[I m]]⟩, ⟨3, true, [[I m2.Rate, I m2.Queries, I m2.Grind]]⟩] = some (B r.1, [⟨1, true, [[I r.2.1]]⟩, ⟨3, true, [[I r.2.2.Rate, I r.2.2.Queries, I r.2.2.Grind]]⟩]) := by
  rw [Call_run (af := a_i_OpeningOK_1) rfl]
  unfold i_OpeningOK_1 at h
  simp +decide only [a_i_OpeningOK_1, b_i_OpeningOK_1, go_sem, reduceIte, Nat.reduceAdd]
  have d1 := @i_isQuery_c
  all_goals exact go
noncomputable def i_are_i_Query_1_OpeningOK_1 (x : Query) (m : Int) (m2 : Setting) : Option (Bool × Int × Setting) :=
  (i_OpeningOK_1 x m m2).bind fun r_ =>
  some ((!r_.1), r_.2.1, r_.2.2)
theorem i_are_i_Query_1_OpeningOK_1_c {x m m2 r} (h : i_are_i_Query_1_OpeningOK_1 x m m2 = some r) : Call tab ow 203 [.agg [sl eExt x.Pairs, sl (eL eS) x.Paths], .ptr 0 0 0 1] [⟨1, true, [[.fn 155 [.ptr 1 0 0 1, .ptr 2 0 0 1]]]⟩, ⟨1, true, [[I m]]⟩, ⟨3, true, [[I m2.Rate, I m2.Queries, I m2.Grind]]⟩] = some (B r.1, [⟨1, true, [[.fn 155 [.ptr 1 0 0 1, .ptr 2 0 0 1]]]⟩, ⟨1, true, [[I r.2.1]]⟩, ⟨3, true, [[I r.2.2.Rate, I r.2.2.Queries, I r.2.2.Grind]]⟩]) := by
  rw [Call_run (af := a_i_are_i_Query_1) rfl]
  unfold i_are_i_Query_1_OpeningOK_1 at h
  simp +decide only [a_i_are_i_Query_1, b_i_are_i_Query_1, go_sem, reduceIte, Nat.reduceAdd]
  have d1 := @i_OpeningOK_1_c
  all_goals exact go
noncomputable def slices_IndexFunc_Li_Query_i_Query_are_i_Query_1_OpeningOK_1_1_s (s2 : List Query) (t : Int) : Int × Int × Int × Int × Int → Option ((Int × Int × Int × Int × Int) ⊕ ((Int × Int × Int × Int × Int) ⊕ (Int × Bool × Int × Int × Int × Int)))
  | (t2, c, c2, c3, c4) =>
    br (decide (t2 < t)) (
      (atL s2 t2).bind fun x =>
      (i_are_i_Query_1_OpeningOK_1 x c (Setting.mk c2 c3 c4)).bind fun r_ =>
      br r_.1 (
        some (.inr (.inl (t2, r_.2.1, r_.2.2.Rate, r_.2.2.Queries, r_.2.2.Grind)))) (
        some (.inl ((IntKind.wrap .i64 (t2 + (1 : Int))), r_.2.1, r_.2.2.Rate, r_.2.2.Queries, r_.2.2.Grind)))) (
      some (.inr (.inr (t2, decide (t2 < t), c, c2, c3, c4))))
@[reducible] def slices_IndexFunc_Li_Query_i_Query_are_i_Query_1_OpeningOK_1_1_S (s2 : List Query) (t : Int) (s : Int × Int × Int × Int × Int) : St := ⟨[(0, sl eQuery s2), (1, .fn 203 [.ptr 0 0 0 1]), (7, I t), (8, I s.1)], [(0, ⟨1, true, [[.fn 155 [.ptr 1 0 0 1, .ptr 2 0 0 1]]]⟩), (1, ⟨1, true, [[I s.2.1]]⟩), (2, ⟨3, true, [[I s.2.2.1, I s.2.2.2.1, I s.2.2.2.2]]⟩)]⟩
@[reducible] def slices_IndexFunc_Li_Query_i_Query_are_i_Query_1_OpeningOK_1_1_E (s2 : List Query) (t : Int) : ((Int × Int × Int × Int × Int) ⊕ (Int × Bool × Int × Int × Int × Int)) → AExit × St := alt (fun e => ((.ret, ⟨[(4, I e.1)], [(0, ⟨1, true, [[.fn 155 [.ptr 1 0 0 1, .ptr 2 0 0 1]]]⟩), (1, ⟨1, true, [[I e.2.1]]⟩), (2, ⟨3, true, [[I e.2.2.1, I e.2.2.2.1, I e.2.2.2.2]]⟩)]⟩) : AExit × St)) (fun e => (.exit 0, ⟨[(0, sl eQuery s2), (1, .fn 203 [.ptr 0 0 0 1]), (7, I t), (8, I e.1), (9, B e.2.1)], [(0, ⟨1, true, [[.fn 155 [.ptr 1 0 0 1, .ptr 2 0 0 1]]]⟩), (1, ⟨1, true, [[I e.2.2.1]]⟩), (2, ⟨3, true, [[I e.2.2.2.1, I e.2.2.2.2.1, I e.2.2.2.2.2]]⟩)]⟩))
theorem slices_IndexFunc_Li_Query_i_Query_are_i_Query_1_OpeningOK_1_1_l {s2 t s e} (h : Loop (slices_IndexFunc_Li_Query_i_Query_are_i_Query_1_OpeningOK_1_1_s s2 t) s = some e) : LoopX tab ow (.close [5005]) b_slices_IndexFunc_Li_Query_i_Query_2 (slices_IndexFunc_Li_Query_i_Query_are_i_Query_1_OpeningOK_1_1_S s2 t s) = some (slices_IndexFunc_Li_Query_i_Query_are_i_Query_1_OpeningOK_1_1_E s2 t e) := by
  refine lrG (fun s o h => ?_) h
  obtain ⟨_, _, _, _, _⟩ := s
  simp only [slices_IndexFunc_Li_Query_i_Query_are_i_Query_1_OpeningOK_1_1_s] at h
  simp +decide only [slices_IndexFunc_Li_Query_i_Query_are_i_Query_1_OpeningOK_1_1_S, slices_IndexFunc_Li_Query_i_Query_are_i_Query_1_OpeningOK_1_1_E, b_slices_IndexFunc_Li_Query_i_Query_2, go_sem, reduceIte, Nat.reduceAdd]
  have d1 := @i_are_i_Query_1_OpeningOK_1_c
  all_goals exact go
noncomputable def slices_IndexFunc_Li_Query_i_Query_are_i_Query_1_OpeningOK_1 (s : (List Query)) (m : Int) (m2 : Setting) : Option (Int × Int × Setting) :=
  (Loop (slices_IndexFunc_Li_Query_i_Query_are_i_Query_1_OpeningOK_1_1_s s ((s.length : Nat) : Int)) ((0 : Int), m, m2.Rate, m2.Queries, m2.Grind)).bind (alt (fun e_2 =>
    some (e_2.1, e_2.2.1, (Setting.mk e_2.2.2.1 e_2.2.2.2.1 e_2.2.2.2.2))) (fun e_3 =>
    some ((-1 : Int), e_3.2.2.1, (Setting.mk e_3.2.2.2.1 e_3.2.2.2.2.1 e_3.2.2.2.2.2))))
theorem slices_IndexFunc_Li_Query_i_Query_are_i_Query_1_OpeningOK_1_c {s m m2 r} (h : slices_IndexFunc_Li_Query_i_Query_are_i_Query_1_OpeningOK_1 s m m2 = some r) : Call tab ow 221 [sl eQuery s, .fn 203 [.ptr 0 0 0 1]] [⟨1, true, [[.fn 155 [.ptr 1 0 0 1, .ptr 2 0 0 1]]]⟩, ⟨1, true, [[I m]]⟩, ⟨3, true, [[I m2.Rate, I m2.Queries, I m2.Grind]]⟩] = some (I r.1, [⟨1, true, [[.fn 155 [.ptr 1 0 0 1, .ptr 2 0 0 1]]]⟩, ⟨1, true, [[I r.2.1]]⟩, ⟨3, true, [[I r.2.2.Rate, I r.2.2.Queries, I r.2.2.Grind]]⟩]) := by
  rw [Call_run (af := a_slices_IndexFunc_Li_Query_i_Query) rfl]
  unfold slices_IndexFunc_Li_Query_i_Query_are_i_Query_1_OpeningOK_1 at h
  simp +decide only [a_slices_IndexFunc_Li_Query_i_Query, b_slices_IndexFunc_Li_Query_i_Query, go_sem, reduceIte, Nat.reduceAdd]
  have d1 := @slices_IndexFunc_Li_Query_i_Query_are_i_Query_1_OpeningOK_1_1_l
  all_goals exact go
noncomputable def slices_ContainsFunc_Li_Query_i_Query_are_i_Query_1_OpeningOK_1 (s : (List Query)) (m : Int) (m2 : Setting) : Option (Bool × Int × Setting) :=
  (slices_IndexFunc_Li_Query_i_Query_are_i_Query_1_OpeningOK_1 s m m2).bind fun r_ =>
  some (decide (r_.1 ≥ (0 : Int)), r_.2.1, r_.2.2)
theorem slices_ContainsFunc_Li_Query_i_Query_are_i_Query_1_OpeningOK_1_c {s m m2 r} (h : slices_ContainsFunc_Li_Query_i_Query_are_i_Query_1_OpeningOK_1 s m m2 = some r) : Call tab ow 202 [sl eQuery s, .fn 203 [.ptr 0 0 0 1]] [⟨1, true, [[.fn 155 [.ptr 1 0 0 1, .ptr 2 0 0 1]]]⟩, ⟨1, true, [[I m]]⟩, ⟨3, true, [[I m2.Rate, I m2.Queries, I m2.Grind]]⟩] = some (B r.1, [⟨1, true, [[.fn 155 [.ptr 1 0 0 1, .ptr 2 0 0 1]]]⟩, ⟨1, true, [[I r.2.1]]⟩, ⟨3, true, [[I r.2.2.Rate, I r.2.2.Queries, I r.2.2.Grind]]⟩]) := by
  rw [Call_run (af := a_slices_ContainsFunc_Li_Query_i_Query) rfl]
  unfold slices_ContainsFunc_Li_Query_i_Query_are_i_Query_1_OpeningOK_1 at h
  simp +decide only [a_slices_ContainsFunc_Li_Query_i_Query, b_slices_ContainsFunc_Li_Query_i_Query, go_sem, reduceIte, Nat.reduceAdd]
  have d1 := @slices_IndexFunc_Li_Query_i_Query_are_i_Query_1_OpeningOK_1_c
  all_goals exact go
noncomputable def i_are_i_Query_OpeningOK_1 (list : (List Query)) (m : Int) (m2 : Setting) : Option (Bool × Int × Setting) :=
  (slices_ContainsFunc_Li_Query_i_Query_are_i_Query_1_OpeningOK_1 list m m2).bind fun r_ =>
  some ((!r_.1), r_.2.1, r_.2.2)
theorem i_are_i_Query_OpeningOK_1_c {list m m2 r} (h : i_are_i_Query_OpeningOK_1 list m m2 = some r) : Call tab ow 154 [.fn 155 [.ptr 0 0 0 1, .ptr 1 0 0 1], sl eQuery list] [⟨1, true, [[I m]]⟩, ⟨3, true, [[I m2.Rate, I m2.Queries, I m2.Grind]]⟩] = some (B r.1, [⟨1, true, [[I r.2.1]]⟩, ⟨3, true, [[I r.2.2.Rate, I r.2.2.Queries, I r.2.2.Grind]]⟩]) := by
  rw [Call_run (af := a_i_are_i_Query) rfl]
  unfold i_are_i_Query_OpeningOK_1 at h
  simp +decide only [a_i_are_i_Query, b_i_are_i_Query, go_sem, reduceIte, Nat.reduceAdd]
  have d1 := @slices_ContainsFunc_Li_Query_i_Query_are_i_Query_1_OpeningOK_1_c
  all_goals exact go
noncomputable def i_OpeningOK (o_ : Opening) (vars : Int) (t : Setting) : Option (Bool) :=
  (i_in vars (1 : Int) (6 : Int)).bind fun r_ =>
  br r_ (
    (i_SettingOK t).bind fun r_2 =>
    br r_2 (
      (i_areRounds o_.Rounds vars (3 : Int)).bind fun r_3 =>
      br r_3 (
        br (((o_.Roots.length : Nat) : Int) == (IntKind.wrap .i64 (vars - (1 : Int)))) (
          (i_are_string_isHash o_.Roots).bind fun r_4 =>
          br r_4 (
            (i_ExtOK o_.Last).bind fun r_5 =>
            br r_5 (
              (i_in o_.Nonce (0 : Int) (65535 : Int)).bind fun r_6 =>
              br r_6 (
                br (((o_.Queries.length : Nat) : Int) == t.Queries) (
                  (i_are_i_Query_OpeningOK_1 o_.Queries vars t).bind fun r_7 =>
                  some r_7.1) (
                  some false)) (
                some false)) (
              some false)) (
            some false)) (
          some false)) (
        some false)) (
      some false)) (
    some false)
theorem i_OpeningOK_c {o_ vars t r} (h : i_OpeningOK o_ vars t = some r) : Call tab ow 95 [.agg [sl (eL eExt) o_.Rounds, sl eS o_.Roots, I o_.Last.A, I o_.Last.B, I o_.Nonce, sl eQuery o_.Queries], I vars, .agg [I t.Rate, I t.Queries, I t.Grind]] [] = some (B r, []) := by
  rw [Call_run (af := a_i_OpeningOK) rfl]
  unfold i_OpeningOK at h
  simp +decide only [a_i_OpeningOK, b_i_OpeningOK, go_sem, reduceIte, Nat.reduceAdd]
  have d1 := @i_in_c
  have d2 := @i_SettingOK_c
  have d3 := @i_areRounds_c
  have d4 := @i_are_string_isHash_c
  have d5 := @i_ExtOK_c
  have d6 := @i_are_i_Query_OpeningOK_1_c
  all_goals exact go
noncomputable def w_eqExtSS_1_s (a2 : List (List Ext)) (b2 : List (List Ext)) : Int → Option ((Int) ⊕ (Unit ⊕ (Int × Bool)))
  | i =>
    br (decide (i < ((a2.length : Nat) : Int))) (
      (atL a2 i).bind fun x =>
      (atL b2 i).bind fun x2 =>
      (w_eqExtS x x2).bind fun r_ =>
      br (!r_) (
        some (.inr (.inl ()))) (
        some (.inl (IntKind.wrap .i64 (i + (1 : Int)))))) (
      some (.inr (.inr (i, decide (i < ((a2.length : Nat) : Int))))))
@[reducible] def w_eqExtSS_1_S (a2 : List (List Ext)) (b2 : List (List Ext)) (s : Int) : St := ⟨[(0, sl (eL eExt) a2), (1, sl (eL eExt) b2), (5, I s)], []⟩
@[reducible] def w_eqExtSS_1_E (a2 : List (List Ext)) (b2 : List (List Ext)) : (Unit ⊕ (Int × Bool)) → AExit × St := alt (fun e => ((.ret, ⟨[(4, B false)], []⟩) : AExit × St)) (fun e => (.exit 0, ⟨[(0, sl (eL eExt) a2), (1, sl (eL eExt) b2), (5, I e.1), (14, B e.2)], []⟩))
theorem w_eqExtSS_1_l {a2 b2 s e} (h : Loop (w_eqExtSS_1_s a2 b2) s = some e) : LoopX tab ow (.close [7008]) b_w_eqExtSS_4 (w_eqExtSS_1_S a2 b2 s) = some (w_eqExtSS_1_E a2 b2 e) := by
  refine lrG (fun s o h => ?_) h
  simp only [w_eqExtSS_1_s] at h
  simp +decide only [w_eqExtSS_1_S, w_eqExtSS_1_E, b_w_eqExtSS_4, go_sem, reduceIte, Nat.reduceAdd]
  have d1 := @w_eqExtS_c
  all_goals exact go
noncomputable def w_eqExtSS (a : (List (List Ext))) (b : (List (List Ext))) : Option (Bool) :=
  br (((a.length : Nat) : Int) != ((b.length : Nat) : Int)) (
    some false) (
    (Loop (w_eqExtSS_1_s a b) (0 : Int)).bind (alt (fun e_2 =>
      some false) (fun e_3 =>
      some true)))
theorem w_eqExtSS_c {a b r} (h : w_eqExtSS a b = some r) : Call tab ow 97 [sl (eL eExt) a, sl (eL eExt) b] [] = some (B r, []) := by
  rw [Call_run (af := a_w_eqExtSS) rfl]
  unfold w_eqExtSS at h
  simp +decide only [a_w_eqExtSS, b_w_eqExtSS, go_sem, reduceIte, Nat.reduceAdd]
  have d1 := @w_eqExtSS_1_l
  all_goals exact go
noncomputable def w_eqStringS_1_s (a2 : List (List UInt8)) (b2 : List (List UInt8)) : Int → Option ((Int) ⊕ (Unit ⊕ (Int × Bool)))
  | i =>
    br (decide (i < ((a2.length : Nat) : Int))) (
      (atL a2 i).bind fun x =>
      (atL b2 i).bind fun x2 =>
      br (x != x2) (
        some (.inr (.inl ()))) (
        some (.inl (IntKind.wrap .i64 (i + (1 : Int)))))) (
      some (.inr (.inr (i, decide (i < ((a2.length : Nat) : Int))))))
@[reducible] def w_eqStringS_1_S (a2 : List (List UInt8)) (b2 : List (List UInt8)) (s : Int) : St := ⟨[(0, sl eS a2), (1, sl eS b2), (5, I s)], []⟩
@[reducible] def w_eqStringS_1_E (a2 : List (List UInt8)) (b2 : List (List UInt8)) : (Unit ⊕ (Int × Bool)) → AExit × St := alt (fun e => ((.ret, ⟨[(4, B false)], []⟩) : AExit × St)) (fun e => (.exit 0, ⟨[(0, sl eS a2), (1, sl eS b2), (5, I e.1), (14, B e.2)], []⟩))
theorem w_eqStringS_1_l {a2 b2 s e} (h : Loop (w_eqStringS_1_s a2 b2) s = some e) : LoopX tab ow (.close []) b_w_eqStringS_4 (w_eqStringS_1_S a2 b2 s) = some (w_eqStringS_1_E a2 b2 e) := by
  refine lrG (fun s o h => ?_) h
  simp only [w_eqStringS_1_s] at h
  simp +decide only [w_eqStringS_1_S, w_eqStringS_1_E, b_w_eqStringS_4, go_sem, reduceIte, Nat.reduceAdd]
  all_goals exact go
noncomputable def w_eqStringS (a : (List (List UInt8))) (b : (List (List UInt8))) : Option (Bool) :=
  br (((a.length : Nat) : Int) != ((b.length : Nat) : Int)) (
    some false) (
    (Loop (w_eqStringS_1_s a b) (0 : Int)).bind (alt (fun e_2 =>
      some false) (fun e_3 =>
      some true)))
theorem w_eqStringS_c {a b r} (h : w_eqStringS a b = some r) : Call tab ow 98 [sl eS a, sl eS b] [] = some (B r, []) := by
  rw [Call_run (af := a_w_eqStringS) rfl]
  unfold w_eqStringS at h
  simp +decide only [a_w_eqStringS, b_w_eqStringS, go_sem, reduceIte, Nat.reduceAdd]
  have d1 := @w_eqStringS_1_l
  all_goals exact go
noncomputable def w_eqStringSS_1_s (a2 : List (List (List UInt8))) (b2 : List (List (List UInt8))) : Int → Option ((Int) ⊕ (Unit ⊕ (Int × Bool)))
  | i =>
    br (decide (i < ((a2.length : Nat) : Int))) (
      (atL a2 i).bind fun x =>
      (atL b2 i).bind fun x2 =>
      (w_eqStringS x x2).bind fun r_ =>
      br (!r_) (
        some (.inr (.inl ()))) (
        some (.inl (IntKind.wrap .i64 (i + (1 : Int)))))) (
      some (.inr (.inr (i, decide (i < ((a2.length : Nat) : Int))))))
@[reducible] def w_eqStringSS_1_S (a2 : List (List (List UInt8))) (b2 : List (List (List UInt8))) (s : Int) : St := ⟨[(0, sl (eL eS) a2), (1, sl (eL eS) b2), (5, I s)], []⟩
@[reducible] def w_eqStringSS_1_E (a2 : List (List (List UInt8))) (b2 : List (List (List UInt8))) : (Unit ⊕ (Int × Bool)) → AExit × St := alt (fun e => ((.ret, ⟨[(4, B false)], []⟩) : AExit × St)) (fun e => (.exit 0, ⟨[(0, sl (eL eS) a2), (1, sl (eL eS) b2), (5, I e.1), (14, B e.2)], []⟩))
theorem w_eqStringSS_1_l {a2 b2 s e} (h : Loop (w_eqStringSS_1_s a2 b2) s = some e) : LoopX tab ow (.close [7008]) b_w_eqStringSS_4 (w_eqStringSS_1_S a2 b2 s) = some (w_eqStringSS_1_E a2 b2 e) := by
  refine lrG (fun s o h => ?_) h
  simp only [w_eqStringSS_1_s] at h
  simp +decide only [w_eqStringSS_1_S, w_eqStringSS_1_E, b_w_eqStringSS_4, go_sem, reduceIte, Nat.reduceAdd]
  have d1 := @w_eqStringS_c
  all_goals exact go
noncomputable def w_eqStringSS (a : (List (List (List UInt8)))) (b : (List (List (List UInt8)))) : Option (Bool) :=
  br (((a.length : Nat) : Int) != ((b.length : Nat) : Int)) (
    some false) (
    (Loop (w_eqStringSS_1_s a b) (0 : Int)).bind (alt (fun e_2 =>
      some false) (fun e_3 =>
      some true)))
theorem w_eqStringSS_c {a b r} (h : w_eqStringSS a b = some r) : Call tab ow 204 [sl (eL eS) a, sl (eL eS) b] [] = some (B r, []) := by
  rw [Call_run (af := a_w_eqStringSS) rfl]
  unfold w_eqStringSS at h
  simp +decide only [a_w_eqStringSS, b_w_eqStringSS, go_sem, reduceIte, Nat.reduceAdd]
  have d1 := @w_eqStringSS_1_l
  all_goals exact go
noncomputable def w_eqQuery (a : Query) (b : Query) : Option (Bool) :=
  (w_eqExtS a.Pairs b.Pairs).bind fun r_ =>
  br (!r_) (
    some false) (
    (w_eqStringSS a.Paths b.Paths).bind fun r_2 =>
    br (!r_2) (
      some false) (
      some true))
theorem w_eqQuery_c {a b r} (h : w_eqQuery a b = some r) : Call tab ow 159 [.agg [sl eExt a.Pairs, sl (eL eS) a.Paths], .agg [sl eExt b.Pairs, sl (eL eS) b.Paths]] [] = some (B r, []) := by
  rw [Call_run (af := a_w_eqQuery) rfl]
  unfold w_eqQuery at h
  simp +decide only [a_w_eqQuery, b_w_eqQuery, go_sem, reduceIte, Nat.reduceAdd]
  have d1 := @w_eqExtS_c
  have d2 := @w_eqStringSS_c
  all_goals exact go
noncomputable def w_eqQueryS_1_s (a2 : List Query) (b2 : List Query) : Int → Option ((Int) ⊕ (Unit ⊕ (Int × Bool)))
  | i =>
    br (decide (i < ((a2.length : Nat) : Int))) (
      (atL a2 i).bind fun x =>
      (atL b2 i).bind fun x2 =>
      (w_eqQuery x x2).bind fun r_ =>
      br (!r_) (
        some (.inr (.inl ()))) (
        some (.inl (IntKind.wrap .i64 (i + (1 : Int)))))) (
      some (.inr (.inr (i, decide (i < ((a2.length : Nat) : Int))))))
@[reducible] def w_eqQueryS_1_S (a2 : List Query) (b2 : List Query) (s : Int) : St := ⟨[(0, sl eQuery a2), (1, sl eQuery b2), (5, I s)], []⟩
@[reducible] def w_eqQueryS_1_E (a2 : List Query) (b2 : List Query) : (Unit ⊕ (Int × Bool)) → AExit × St := alt (fun e => ((.ret, ⟨[(4, B false)], []⟩) : AExit × St)) (fun e => (.exit 0, ⟨[(0, sl eQuery a2), (1, sl eQuery b2), (5, I e.1), (14, B e.2)], []⟩))
theorem w_eqQueryS_1_l {a2 b2 s e} (h : Loop (w_eqQueryS_1_s a2 b2) s = some e) : LoopX tab ow (.close [7008]) b_w_eqQueryS_4 (w_eqQueryS_1_S a2 b2 s) = some (w_eqQueryS_1_E a2 b2 e) := by
  refine lrG (fun s o h => ?_) h
  simp only [w_eqQueryS_1_s] at h
  simp +decide only [w_eqQueryS_1_S, w_eqQueryS_1_E, b_w_eqQueryS_4, go_sem, reduceIte, Nat.reduceAdd]
  have d1 := @w_eqQuery_c
  all_goals exact go
noncomputable def w_eqQueryS (a : (List Query)) (b : (List Query)) : Option (Bool) :=
  br (((a.length : Nat) : Int) != ((b.length : Nat) : Int)) (
    some false) (
    (Loop (w_eqQueryS_1_s a b) (0 : Int)).bind (alt (fun e_2 =>
      some false) (fun e_3 =>
      some true)))
theorem w_eqQueryS_c {a b r} (h : w_eqQueryS a b = some r) : Call tab ow 99 [sl eQuery a, sl eQuery b] [] = some (B r, []) := by
  rw [Call_run (af := a_w_eqQueryS) rfl]
  unfold w_eqQueryS at h
  simp +decide only [a_w_eqQueryS, b_w_eqQueryS, go_sem, reduceIte, Nat.reduceAdd]
  have d1 := @w_eqQueryS_1_l
  all_goals exact go
noncomputable def w_eqOpening (a : Opening) (b : Opening) : Option (Bool) :=
  (w_eqExtSS a.Rounds b.Rounds).bind fun r_ =>
  br (!r_) (
    some false) (
    (w_eqStringS a.Roots b.Roots).bind fun r_2 =>
    br (!r_2) (
      some false) (
      (w_eqExt a.Last b.Last).bind fun r_3 =>
      br (!r_3) (
        some false) (
        br (a.Nonce != b.Nonce) (
          some false) (
          (w_eqQueryS a.Queries b.Queries).bind fun r_4 =>
          br (!r_4) (
            some false) (
            some true)))))
theorem w_eqOpening_c {a b r} (h : w_eqOpening a b = some r) : Call tab ow 36 [.agg [sl (eL eExt) a.Rounds, sl eS a.Roots, I a.Last.A, I a.Last.B, I a.Nonce, sl eQuery a.Queries], .agg [sl (eL eExt) b.Rounds, sl eS b.Roots, I b.Last.A, I b.Last.B, I b.Nonce, sl eQuery b.Queries]] [] = some (B r, []) := by
  rw [Call_run (af := a_w_eqOpening) rfl]
  unfold w_eqOpening at h
  simp +decide only [a_w_eqOpening, b_w_eqOpening, go_sem, reduceIte, Nat.reduceAdd]
  have d1 := @w_eqExtSS_c
  have d2 := @w_eqStringS_c
  have d3 := @w_eqExt_c
  have d4 := @w_eqQueryS_c
  all_goals exact go
noncomputable def w_szProof (a : Proof) (left : Int) : Option (Int) :=
  br (decide ((IntKind.wrap .i64 (left - ((a.Root.length : Nat) : Int))) < (0 : Int))) (
    some (-1 : Int)) (
    (w_szExtSS a.Gates (IntKind.wrap .i64 (left - ((a.Root.length : Nat) : Int)))).bind fun r_ =>
    br (decide (r_ < (0 : Int))) (
      some (-1 : Int)) (
      (w_szExtSS a.Wires r_).bind fun r_2 =>
      br (decide (r_2 < (0 : Int))) (
        some (-1 : Int)) (
        (w_szOpening a.Open r_2).bind fun r_3 =>
        br (decide (r_3 < (0 : Int))) (
          some (-1 : Int)) (
          some r_3))))
theorem w_szProof_c {a left r} (h : w_szProof a left = some r) : Call tab ow 44 [.agg [S a.Root, sl (eL eExt) a.Gates, I a.VA.A, I a.VA.B, I a.VB.A, I a.VB.B, I a.VC.A, I a.VC.B, sl (eL eExt) a.Wires, I a.VW.A, I a.VW.B, sl (eL eExt) a.Open.Rounds, sl eS a.Open.Roots, I a.Open.Last.A, I a.Open.Last.B, I a.Open.Nonce, sl eQuery a.Open.Queries], I left] [] = some (I r, []) := by
  rw [Call_run (af := a_w_szProof) rfl]
  unfold w_szProof at h
  simp +decide only [a_w_szProof, b_w_szProof, go_sem, reduceIte, Nat.reduceAdd]
  have d1 := @w_szExtSS_c
  have d2 := @w_szOpening_c
  all_goals exact go
noncomputable def w_toProof (a : Proof) : Option (Proof) :=
  (w_toExtSS a.Gates).bind fun r_ =>
  (w_toExt a.VA).bind fun r_2 =>
  (w_toExt a.VB).bind fun r_3 =>
  (w_toExt a.VC).bind fun r_4 =>
  (w_toExtSS a.Wires).bind fun r_5 =>
  (w_toExt a.VW).bind fun r_6 =>
  (w_toOpening a.Open).bind fun r_7 =>
  some (Proof.mk a.Root r_ r_2 r_3 r_4 r_5 r_6 r_7)
theorem w_toProof_c {a r} (h : w_toProof a = some r) : Call tab ow 46 [.agg [S a.Root, sl (eL eExt) a.Gates, I a.VA.A, I a.VA.B, I a.VB.A, I a.VB.B, I a.VC.A, I a.VC.B, sl (eL eExt) a.Wires, I a.VW.A, I a.VW.B, sl (eL eExt) a.Open.Rounds, sl eS a.Open.Roots, I a.Open.Last.A, I a.Open.Last.B, I a.Open.Nonce, sl eQuery a.Open.Queries]] [] = some (.agg [S r.Root, sl (eL eExt) r.Gates, I r.VA.A, I r.VA.B, I r.VB.A, I r.VB.B, I r.VC.A, I r.VC.B, sl (eL eExt) r.Wires, I r.VW.A, I r.VW.B, sl (eL eExt) r.Open.Rounds, sl eS r.Open.Roots, I r.Open.Last.A, I r.Open.Last.B, I r.Open.Nonce, sl eQuery r.Open.Queries], []) := by
  rw [Call_run (af := a_w_toProof) rfl]
  unfold w_toProof at h
  simp +decide only [a_w_toProof, b_w_toProof, go_sem, reduceIte, Nat.reduceAdd]
  have d1 := @w_toExtSS_c
  have d2 := @w_toExt_c
  have d3 := @w_toOpening_c
  all_goals exact go
end Go.AI.Fn

set_option linter.unusedVariables false
set_option linter.unusedSimpArgs false
set_option maxRecDepth 100000
set_option maxHeartbeats 1000000
namespace Go.AI.Fn
section
theorem s_ProofOK_k0 : mkR 2039 [] = rws eExt [] := rfl
attribute [local go_sem] s_ProofOK_k0
noncomputable def s_ProofOK_1_s (l : List Ext) (c : List UInt8) (c2 : List (List Ext)) (c3 : Int) (c4 : Int) (c5 : Int) (c6 : Int) (c7 : Int) (c8 : Int) (c9 : List (List Ext)) (c10 : Int) (c11 : Int) (c12 : List (List Ext)) (c13 : List (List UInt8)) (c14 : Int) (c15 : Int) (c16 : Int) (c17 : List Query) (c18 : Int) (c19 : Int) (c20 : Int) (c21 : List Entry) (c22 : List Entry) (c23 : List Entry) (c24 : Int) (c25 : Int) (c26 : Int) : Int → Option ((Int) ⊕ (Unit ⊕ (Int × Bool)))
  | t =>
    br (decide (t < ((c2.length : Nat) : Int))) (
      (atL c2 t).bind fun x =>
      br (((x.length : Nat) : Int) != (4 : Int)) (
        some (.inr (.inl ()))) (
        (atL c2 t).bind fun x2 =>
        (s_l02List x2).bind fun r_4 =>
        br (!r_4) (
          some (.inr (.inl ()))) (
          some (.inl (IntKind.wrap .i64 (t + (1 : Int))))))) (
      some (.inr (.inr (t, decide (t < ((c2.length : Nat) : Int))))))
@[reducible] def s_ProofOK_1_S (l : List Ext) (c : List UInt8) (c2 : List (List Ext)) (c3 : Int) (c4 : Int) (c5 : Int) (c6 : Int) (c7 : Int) (c8 : Int) (c9 : List (List Ext)) (c10 : Int) (c11 : Int) (c12 : List (List Ext)) (c13 : List (List UInt8)) (c14 : Int) (c15 : Int) (c16 : Int) (c17 : List Query) (c18 : Int) (c19 : Int) (c20 : Int) (c21 : List Entry) (c22 : List Entry) (c23 : List Entry) (c24 : Int) (c25 : Int) (c26 : Int) (s : Int) : St := ⟨[(3, .ptr 1000 0 0 1), (4, .ptr 1001 0 0 1), (5, .ptr 1002 0 0 1), (7, I s)], [(1000, ⟨17, true, [[S c, sl (eL eExt) c2, I c3, I c4, I c5, I c6, I c7, I c8, sl (eL eExt) c9, I c10, I c11, sl (eL eExt) c12, sl eS c13, I c14, I c15, I c16, sl eQuery c17]]⟩), (1001, ⟨6, true, [[I c18, I c19, I c20, sl eEntry c21, sl eEntry c22, sl eEntry c23]]⟩), (1002, ⟨3, true, [[I c24, I c25, I c26]]⟩), (2039, ⟨2, false, rws eExt l⟩)]⟩
@[reducible] def s_ProofOK_1_E (l : List Ext) (c : List UInt8) (c2 : List (List Ext)) (c3 : Int) (c4 : Int) (c5 : Int) (c6 : Int) (c7 : Int) (c8 : Int) (c9 : List (List Ext)) (c10 : Int) (c11 : Int) (c12 : List (List Ext)) (c13 : List (List UInt8)) (c14 : Int) (c15 : Int) (c16 : Int) (c17 : List Query) (c18 : Int) (c19 : Int) (c20 : Int) (c21 : List Entry) (c22 : List Entry) (c23 : List Entry) (c24 : Int) (c25 : Int) (c26 : Int) : (Unit ⊕ (Int × Bool)) → AExit × St := alt (fun e => ((.ret, ⟨[(6, B false)], [(1000, ⟨17, true, [[S c, sl (eL eExt) c2, I c3, I c4, I c5, I c6, I c7, I c8, sl (eL eExt) c9, I c10, I c11, sl (eL eExt) c12, sl eS c13, I c14, I c15, I c16, sl eQuery c17]]⟩), (1001, ⟨6, true, [[I c18, I c19, I c20, sl eEntry c21, sl eEntry c22, sl eEntry c23]]⟩), (1002, ⟨3, true, [[I c24, I c25, I c26]]⟩), (2039, ⟨2, false, rws eExt l⟩)]⟩) : AExit × St)) (fun e => (.exit 0, ⟨[(3, .ptr 1000 0 0 1), (4, .ptr 1001 0 0 1), (5, .ptr 1002 0 0 1), (7, I e.1), (56, B e.2)], [(1000, ⟨17, true, [[S c, sl (eL eExt) c2, I c3, I c4, I c5, I c6, I c7, I c8, sl (eL eExt) c9, I c10, I c11, sl (eL eExt) c12, sl eS c13, I c14, I c15, I c16, sl eQuery c17]]⟩), (1001, ⟨6, true, [[I c18, I c19, I c20, sl eEntry c21, sl eEntry c22, sl eEntry c23]]⟩), (1002, ⟨3, true, [[I c24, I c25, I c26]]⟩), (2039, ⟨2, false, rws eExt l⟩)]⟩))
theorem s_ProofOK_1_l {l c c2 c3 c4 c5 c6 c7 c8 c9 c10 c11 c12 c13 c14 c15 c16 c17 c18 c19 c20 c21 c22 c23 c24 c25 c26 s e} (h : Loop (s_ProofOK_1_s l c c2 c3 c4 c5 c6 c7 c8 c9 c10 c11 c12 c13 c14 c15 c16 c17 c18 c19 c20 c21 c22 c23 c24 c25 c26) s = some e) : LoopX tab ow (.close [7013]) b_s_ProofOK_4 (s_ProofOK_1_S l c c2 c3 c4 c5 c6 c7 c8 c9 c10 c11 c12 c13 c14 c15 c16 c17 c18 c19 c20 c21 c22 c23 c24 c25 c26 s) = some (s_ProofOK_1_E l c c2 c3 c4 c5 c6 c7 c8 c9 c10 c11 c12 c13 c14 c15 c16 c17 c18 c19 c20 c21 c22 c23 c24 c25 c26 e) := by
  refine lrG (fun s o h => ?_) h
  simp only [s_ProofOK_1_s] at h
  simp +decide only [s_ProofOK_1_S, s_ProofOK_1_E, b_s_ProofOK_4, go_sem, reduceIte, Nat.reduceAdd]
  have d1 := @s_l02List_c
  all_goals exact go
noncomputable def s_ProofOK_2_s (l2 : List Ext) (c27 : List UInt8) (c28 : List (List Ext)) (c29 : Int) (c30 : Int) (c31 : Int) (c32 : Int) (c33 : Int) (c34 : Int) (c35 : List (List Ext)) (c36 : Int) (c37 : Int) (c38 : List (List Ext)) (c39 : List (List UInt8)) (c40 : Int) (c41 : Int) (c42 : Int) (c43 : List Query) (c44 : Int) (c45 : Int) (c46 : Int) (c47 : List Entry) (c48 : List Entry) (c49 : List Entry) (c50 : Int) (c51 : Int) (c52 : Int) : Int → Option ((Int) ⊕ (Unit ⊕ (Int × Bool)))
  | t2 =>
    br (decide (t2 < ((c35.length : Nat) : Int))) (
      (atL c35 t2).bind fun x3 =>
      br (((x3.length : Nat) : Int) != (3 : Int)) (
        some (.inr (.inl ()))) (
        (atL c35 t2).bind fun x4 =>
        (s_l02List x4).bind fun r_5 =>
        br (!r_5) (
          some (.inr (.inl ()))) (
          some (.inl (IntKind.wrap .i64 (t2 + (1 : Int))))))) (
      some (.inr (.inr (t2, decide (t2 < ((c35.length : Nat) : Int))))))
@[reducible] def s_ProofOK_2_S (l2 : List Ext) (c27 : List UInt8) (c28 : List (List Ext)) (c29 : Int) (c30 : Int) (c31 : Int) (c32 : Int) (c33 : Int) (c34 : Int) (c35 : List (List Ext)) (c36 : Int) (c37 : Int) (c38 : List (List Ext)) (c39 : List (List UInt8)) (c40 : Int) (c41 : Int) (c42 : Int) (c43 : List Query) (c44 : Int) (c45 : Int) (c46 : Int) (c47 : List Entry) (c48 : List Entry) (c49 : List Entry) (c50 : Int) (c51 : Int) (c52 : Int) (s : Int) : St := ⟨[(3, .ptr 1000 0 0 1), (4, .ptr 1001 0 0 1), (5, .ptr 1002 0 0 1), (8, I s)], [(1000, ⟨17, true, [[S c27, sl (eL eExt) c28, I c29, I c30, I c31, I c32, I c33, I c34, sl (eL eExt) c35, I c36, I c37, sl (eL eExt) c38, sl eS c39, I c40, I c41, I c42, sl eQuery c43]]⟩), (1001, ⟨6, true, [[I c44, I c45, I c46, sl eEntry c47, sl eEntry c48, sl eEntry c49]]⟩), (1002, ⟨3, true, [[I c50, I c51, I c52]]⟩), (2039, ⟨2, false, rws eExt l2⟩)]⟩
@[reducible] def s_ProofOK_2_E (l2 : List Ext) (c27 : List UInt8) (c28 : List (List Ext)) (c29 : Int) (c30 : Int) (c31 : Int) (c32 : Int) (c33 : Int) (c34 : Int) (c35 : List (List Ext)) (c36 : Int) (c37 : Int) (c38 : List (List Ext)) (c39 : List (List UInt8)) (c40 : Int) (c41 : Int) (c42 : Int) (c43 : List Query) (c44 : Int) (c45 : Int) (c46 : Int) (c47 : List Entry) (c48 : List Entry) (c49 : List Entry) (c50 : Int) (c51 : Int) (c52 : Int) : (Unit ⊕ (Int × Bool)) → AExit × St := alt (fun e => ((.ret, ⟨[(6, B false)], [(1000, ⟨17, true, [[S c27, sl (eL eExt) c28, I c29, I c30, I c31, I c32, I c33, I c34, sl (eL eExt) c35, I c36, I c37, sl (eL eExt) c38, sl eS c39, I c40, I c41, I c42, sl eQuery c43]]⟩), (1001, ⟨6, true, [[I c44, I c45, I c46, sl eEntry c47, sl eEntry c48, sl eEntry c49]]⟩), (1002, ⟨3, true, [[I c50, I c51, I c52]]⟩), (2039, ⟨2, false, rws eExt l2⟩)]⟩) : AExit × St)) (fun e => (.exit 2, ⟨[(3, .ptr 1000 0 0 1), (4, .ptr 1001 0 0 1), (5, .ptr 1002 0 0 1), (8, I e.1), (79, B e.2)], [(1000, ⟨17, true, [[S c27, sl (eL eExt) c28, I c29, I c30, I c31, I c32, I c33, I c34, sl (eL eExt) c35, I c36, I c37, sl (eL eExt) c38, sl eS c39, I c40, I c41, I c42, sl eQuery c43]]⟩), (1001, ⟨6, true, [[I c44, I c45, I c46, sl eEntry c47, sl eEntry c48, sl eEntry c49]]⟩), (1002, ⟨3, true, [[I c50, I c51, I c52]]⟩), (2039, ⟨2, false, rws eExt l2⟩)]⟩))
theorem s_ProofOK_2_l {l2 c27 c28 c29 c30 c31 c32 c33 c34 c35 c36 c37 c38 c39 c40 c41 c42 c43 c44 c45 c46 c47 c48 c49 c50 c51 c52 s e} (h : Loop (s_ProofOK_2_s l2 c27 c28 c29 c30 c31 c32 c33 c34 c35 c36 c37 c38 c39 c40 c41 c42 c43 c44 c45 c46 c47 c48 c49 c50 c51 c52) s = some e) : LoopX tab ow (.close [12013]) b_s_ProofOK_9 (s_ProofOK_2_S l2 c27 c28 c29 c30 c31 c32 c33 c34 c35 c36 c37 c38 c39 c40 c41 c42 c43 c44 c45 c46 c47 c48 c49 c50 c51 c52 s) = some (s_ProofOK_2_E l2 c27 c28 c29 c30 c31 c32 c33 c34 c35 c36 c37 c38 c39 c40 c41 c42 c43 c44 c45 c46 c47 c48 c49 c50 c51 c52 e) := by
  refine lrG (fun s o h => ?_) h
  simp only [s_ProofOK_2_s] at h
  simp +decide only [s_ProofOK_2_S, s_ProofOK_2_E, b_s_ProofOK_9, go_sem, reduceIte, Nat.reduceAdd]
  have d1 := @s_l02List_c
  all_goals exact go
noncomputable def s_ProofOK (ListtoArray : Proof) (a : System) (a2 : Setting) : Option (Bool) :=
  (s_SystemOK a).bind fun r_ =>
  br (!r_) (
    some false) (
    (s_SettingOK a2).bind fun r_2 =>
    br (!r_2) (
      some false) (
      br (((ListtoArray.Root.length : Nat) : Int) != (32 : Int)) (
        some false) (
        br (((ListtoArray.Gates.length : Nat) : Int) != a.Rows) (
          some false) (
          br (((ListtoArray.Wires.length : Nat) : Int) != a.Cols) (
            some false) (
            (s_l02List ([ListtoArray.VA, ListtoArray.VB, ListtoArray.VC, ListtoArray.VW] : List Ext)).bind fun r_3 =>
            br (!r_3) (
              some false) (
              (Loop (s_ProofOK_1_s ([ListtoArray.VA, ListtoArray.VB, ListtoArray.VC, ListtoArray.VW] : List Ext) ListtoArray.Root ListtoArray.Gates ListtoArray.VA.A ListtoArray.VA.B ListtoArray.VB.A ListtoArray.VB.B ListtoArray.VC.A ListtoArray.VC.B ListtoArray.Wires ListtoArray.VW.A ListtoArray.VW.B ListtoArray.Open.Rounds ListtoArray.Open.Roots ListtoArray.Open.Last.A ListtoArray.Open.Last.B ListtoArray.Open.Nonce ListtoArray.Open.Queries a.Rows a.Cols a.Publics a.A a.B a.C a2.Rate a2.Queries a2.Grind) (0 : Int)).bind (alt (fun e_2 =>
                some false) (fun e_3 =>
                (Loop (s_ProofOK_2_s ([ListtoArray.VA, ListtoArray.VB, ListtoArray.VC, ListtoArray.VW] : List Ext) ListtoArray.Root ListtoArray.Gates ListtoArray.VA.A ListtoArray.VA.B ListtoArray.VB.A ListtoArray.VB.B ListtoArray.VC.A ListtoArray.VC.B ListtoArray.Wires ListtoArray.VW.A ListtoArray.VW.B ListtoArray.Open.Rounds ListtoArray.Open.Roots ListtoArray.Open.Last.A ListtoArray.Open.Last.B ListtoArray.Open.Nonce ListtoArray.Open.Queries a.Rows a.Cols a.Publics a.A a.B a.C a2.Rate a2.Queries a2.Grind) (0 : Int)).bind (alt (fun e_5 =>
                  some false) (fun e_6 =>
                  (s_OpeningOK ListtoArray.Open (IntKind.wrap .i64 (a.Cols - (1 : Int))) a2).bind fun r_6 =>
                  some r_6))))))))))
theorem s_ProofOK_c {ListtoArray a a2 r} (h : s_ProofOK ListtoArray a a2 = some r) : Call tab ow 45 [.agg [S ListtoArray.Root, sl (eL eExt) ListtoArray.Gates, I ListtoArray.VA.A, I ListtoArray.VA.B, I ListtoArray.VB.A, I ListtoArray.VB.B, I ListtoArray.VC.A, I ListtoArray.VC.B, sl (eL eExt) ListtoArray.Wires, I ListtoArray.VW.A, I ListtoArray.VW.B, sl (eL eExt) ListtoArray.Open.Rounds, sl eS ListtoArray.Open.Roots, I ListtoArray.Open.Last.A, I ListtoArray.Open.Last.B, I ListtoArray.Open.Nonce, sl eQuery ListtoArray.Open.Queries], .agg [I a.Rows, I a.Cols, I a.Publics, sl eEntry a.A, sl eEntry a.B, sl eEntry a.C], .agg [I a2.Rate, I a2.Queries, I a2.Grind]] [] = some (B r, []) := by
  rw [Call_run (af := a_s_ProofOK) rfl]
  unfold s_ProofOK at h
  simp +decide only [a_s_ProofOK, b_s_ProofOK, go_sem, reduceIte, Nat.reduceAdd]
  have d1 := @s_SystemOK_c
  have d2 := @s_SettingOK_c
  have d3 := @s_l02List_c
  have d4 := @s_ProofOK_1_l
  have d5 := @s_ProofOK_2_l
  have d6 := @s_OpeningOK_c
  all_goals exact go
end
noncomputable def i_ProofOK (p : Proof) (s : System) (t : Setting) : Option (Bool) :=
  (i_SystemOK s).bind fun r_ =>
  br r_ (
    (i_SettingOK t).bind fun r_2 =>
    br r_2 (
      (i_isHash p.Root).bind fun r_3 =>
      br r_3 (
        (i_areRounds p.Gates s.Rows (4 : Int)).bind fun r_4 =>
        br r_4 (
          (i_ExtOK p.VA).bind fun r_5 =>
          br r_5 (
            (i_ExtOK p.VB).bind fun r_6 =>
            br r_6 (
              (i_ExtOK p.VC).bind fun r_7 =>
              br r_7 (
                (i_areRounds p.Wires s.Cols (3 : Int)).bind fun r_8 =>
                br r_8 (
                  (i_ExtOK p.VW).bind fun r_9 =>
                  br r_9 (
                    (i_OpeningOK p.Open (IntKind.wrap .i64 (s.Cols - (1 : Int))) t).bind fun r_10 =>
                    some r_10) (
                    some false)) (
                  some false)) (
                some false)) (
              some false)) (
            some false)) (
          some false)) (
        some false)) (
      some false)) (
    some false)
theorem i_ProofOK_c {p s t r} (h : i_ProofOK p s t = some r) : Call tab ow 47 [.agg [S p.Root, sl (eL eExt) p.Gates, I p.VA.A, I p.VA.B, I p.VB.A, I p.VB.B, I p.VC.A, I p.VC.B, sl (eL eExt) p.Wires, I p.VW.A, I p.VW.B, sl (eL eExt) p.Open.Rounds, sl eS p.Open.Roots, I p.Open.Last.A, I p.Open.Last.B, I p.Open.Nonce, sl eQuery p.Open.Queries], .agg [I s.Rows, I s.Cols, I s.Publics, sl eEntry s.A, sl eEntry s.B, sl eEntry s.C], .agg [I t.Rate, I t.Queries, I t.Grind]] [] = some (B r, []) := by
  rw [Call_run (af := a_i_ProofOK) rfl]
  unfold i_ProofOK at h
  simp +decide only [a_i_ProofOK, b_i_ProofOK, go_sem, reduceIte, Nat.reduceAdd]
  have d1 := @i_SystemOK_c
  have d2 := @i_SettingOK_c
  have d3 := @i_isHash_c
  have d4 := @i_areRounds_c
  have d5 := @i_ExtOK_c
  have d6 := @i_OpeningOK_c
  all_goals exact go
noncomputable def w_eqProof (a : Proof) (b : Proof) : Option (Bool) :=
  br (a.Root != b.Root) (
    some false) (
    (w_eqExtSS a.Gates b.Gates).bind fun r_ =>
    br (!r_) (
      some false) (
      (w_eqExt a.VA b.VA).bind fun r_2 =>
      br (!r_2) (
        some false) (
        (w_eqExt a.VB b.VB).bind fun r_3 =>
        br (!r_3) (
          some false) (
          (w_eqExt a.VC b.VC).bind fun r_4 =>
          br (!r_4) (
            some false) (
            (w_eqExtSS a.Wires b.Wires).bind fun r_5 =>
            br (!r_5) (
              some false) (
              (w_eqExt a.VW b.VW).bind fun r_6 =>
              br (!r_6) (
                some false) (
                (w_eqOpening a.Open b.Open).bind fun r_7 =>
                br (!r_7) (
                  some false) (
                  some true))))))))
theorem w_eqProof_c {a b r} (h : w_eqProof a b = some r) : Call tab ow 48 [.agg [S a.Root, sl (eL eExt) a.Gates, I a.VA.A, I a.VA.B, I a.VB.A, I a.VB.B, I a.VC.A, I a.VC.B, sl (eL eExt) a.Wires, I a.VW.A, I a.VW.B, sl (eL eExt) a.Open.Rounds, sl eS a.Open.Roots, I a.Open.Last.A, I a.Open.Last.B, I a.Open.Nonce, sl eQuery a.Open.Queries], .agg [S b.Root, sl (eL eExt) b.Gates, I b.VA.A, I b.VA.B, I b.VB.A, I b.VB.B, I b.VC.A, I b.VC.B, sl (eL eExt) b.Wires, I b.VW.A, I b.VW.B, sl (eL eExt) b.Open.Rounds, sl eS b.Open.Roots, I b.Open.Last.A, I b.Open.Last.B, I b.Open.Nonce, sl eQuery b.Open.Queries]] [] = some (B r, []) := by
  rw [Call_run (af := a_w_eqProof) rfl]
  unfold w_eqProof at h
  simp +decide only [a_w_eqProof, b_w_eqProof, go_sem, reduceIte, Nat.reduceAdd]
  have d1 := @w_eqExtSS_c
  have d2 := @w_eqExt_c
  have d3 := @w_eqOpening_c
  all_goals exact go
noncomputable def w_FnExactProofOK (aP : Proof) (aS : System) (aT : Setting) : Option (Bool) :=
  (w_szProof aP (1048576 : Int)).bind fun r_ =>
  br (decide (r_ < (0 : Int))) (
    some true) (
    (w_szSystem aS r_).bind fun r_2 =>
    br (decide (r_2 < (0 : Int))) (
      some true) (
      (w_toProof aP).bind fun r_3 =>
      (w_toSystem aS).bind fun r_4 =>
      (w_toSetting aT).bind fun r_5 =>
      (s_ProofOK r_3 r_4 r_5).bind fun r_6 =>
      (w_toProof aP).bind fun r_7 =>
      (w_toSystem aS).bind fun r_8 =>
      (w_toSetting aT).bind fun r_9 =>
      (i_ProofOK r_7 r_8 r_9).bind fun r_10 =>
      br (r_10 != r_6) (
        some false) (
        (w_toProof aP).bind fun r_11 =>
        (w_eqProof r_7 r_11).bind fun r_12 =>
        br (!r_12) (
          some false) (
          (w_toSystem aS).bind fun r_13 =>
          (w_eqSystem r_8 r_13).bind fun r_14 =>
          br (!r_14) (
            some false) (
            some true)))))
theorem w_FnExactProofOK_c {aP aS aT r} (h : w_FnExactProofOK aP aS aT = some r) : Call tab ow 7 [.agg [S aP.Root, sl (eL eExt) aP.Gates, I aP.VA.A, I aP.VA.B, I aP.VB.A, I aP.VB.B, I aP.VC.A, I aP.VC.B, sl (eL eExt) aP.Wires, I aP.VW.A, I aP.VW.B, sl (eL eExt) aP.Open.Rounds, sl eS aP.Open.Roots, I aP.Open.Last.A, I aP.Open.Last.B, I aP.Open.Nonce, sl eQuery aP.Open.Queries], .agg [I aS.Rows, I aS.Cols, I aS.Publics, sl eEntry aS.A, sl eEntry aS.B, sl eEntry aS.C], .agg [I aT.Rate, I aT.Queries, I aT.Grind]] [] = some (B r, []) := by
  rw [Call_run (af := a_w_FnExactProofOK) rfl]
  unfold w_FnExactProofOK at h
  simp +decide only [a_w_FnExactProofOK, b_w_FnExactProofOK, go_sem, reduceIte, Nat.reduceAdd]
  have d1 := @w_szProof_c
  have d2 := @w_szSystem_c
  have d3 := @w_toProof_c
  have d4 := @w_toSystem_c
  have d5 := @w_toSetting_c
  have d6 := @s_ProofOK_c
  have d7 := @i_ProofOK_c
  have d8 := @w_eqProof_c
  have d9 := @w_eqSystem_c
  all_goals exact go
end Go.AI.Fn

