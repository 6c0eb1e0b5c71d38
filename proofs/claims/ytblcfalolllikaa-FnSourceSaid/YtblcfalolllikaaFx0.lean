/- Walks through the program, with open values. -/
import Derived.Test.YtblcfalolllikaaStr
import Derived.Test.YtblcfalolllikaaTb2
set_option linter.unusedVariables false
set_option linter.unusedSimpArgs false
set_option maxRecDepth 100000
set_option maxHeartbeats 1000000
namespace Go.AI.Fn
noncomputable def s_l01In (n : Int) (low : Int) (high : Int) : Option (Bool) :=
  br (decide (low ≤ n)) (
    some (decide (n ≤ high))) (
    some false)
theorem s_l01In_c {n : Int} {low : Int} {high : Int} {r : Bool} (h : s_l01In n low high = some r) : Call tab ow 60 [I n, I low, I high] [] = some (B r, []) := by
  rw [run_s_l01In]
  unfold s_l01In at h
  simp +decide only [b_s_l01In, go_sem, reduceIte, Nat.reduceAdd]
  rcases brc h with ⟨hb, h⟩ | ⟨hb, h⟩
  · refine br_t hb ?_
    obtain rfl := Option.some.inj h
    first | rfl | (simp only [List.length_set, go_sem]; done)
  · refine br_f hb ?_
    obtain rfl := Option.some.inj h
    first | rfl | (simp only [List.length_set, go_sem]; done)
noncomputable def s_FieldOK (a : Int) : Option (Bool) :=
  (s_l01In a (0 : Int) (2130706432 : Int)).bind fun r_ =>
  some r_
theorem s_FieldOK_c {a : Int} {r : Bool} (h : s_FieldOK a = some r) : Call tab ow 192 [I a] [] = some (B r, []) := by
  rw [run_s_FieldOK]
  unfold s_FieldOK at h
  simp +decide only [b_s_FieldOK, go_sem, reduceIte, Nat.reduceAdd]
  obtain ⟨r_, h1, h⟩ := bd h
  refine call_aft (s_l01In_c h1) ?_
  simp +decide only [go_sem, reduceIte, Nat.reduceAdd]
  obtain rfl := Option.some.inj h
  first | rfl | (simp only [List.length_set, go_sem]; done)
noncomputable def s_ExtOK (a : Ext) : Option (Bool) :=
  (s_FieldOK a.A).bind fun r_ =>
  br r_ (
    (s_FieldOK a.B).bind fun r_2 =>
    some r_2) (
    some false)
theorem s_ExtOK_c {a : Ext} {r : Bool} (h : s_ExtOK a = some r) : Call tab ow 134 [.agg [I a.A, I a.B]] [] = some (B r, []) := by
  rw [run_s_ExtOK]
  unfold s_ExtOK at h
  simp +decide only [b_s_ExtOK, go_sem, reduceIte, Nat.reduceAdd]
  obtain ⟨r_, h1, h⟩ := bd h
  refine call_aft (s_FieldOK_c h1) ?_
  simp +decide only [go_sem, reduceIte, Nat.reduceAdd]
  rcases brc h with ⟨hb, h⟩ | ⟨hb, h⟩
  · refine br_t hb ?_
    obtain ⟨r_2, h1, h⟩ := bd h
    refine call_aft (s_FieldOK_c h1) ?_
    simp +decide only [go_sem, reduceIte, Nat.reduceAdd]
    obtain rfl := Option.some.inj h
    first | rfl | (simp only [List.length_set, go_sem]; done)
  · refine br_f hb ?_
    obtain rfl := Option.some.inj h
    first | rfl | (simp only [List.length_set, go_sem]; done)
noncomputable def s_l02List_1_s (list2 : List Ext) : Int → Option ((Int) ⊕ (Unit ⊕ (Int × Bool)))
  | i =>
    br (decide (i < ((list2.length : Nat) : Int))) (
      (atL list2 i).bind fun x =>
      (s_ExtOK x).bind fun r_ =>
      br (!r_) (
        some (.inr (.inl ()))) (
        some (.inl (IntKind.wrap .i64 (i + (1 : Int)))))) (
      some (.inr (.inr (i, decide (i < ((list2.length : Nat) : Int))))))
theorem s_l02List_1_l {list2 : List Ext} {i : Int} {e : Unit ⊕ (Int × Bool)} (h : Loop (s_l02List_1_s list2) i = some e) : LoopX tab ow (.close [5004]) b_s_l02List_2 ⟨[(0, sl eExt list2), (3, I i)], []⟩ = some ((alt (fun e => ((.ret, ⟨[(2, B false)], []⟩) : AExit × St)) (fun e => (.exit 0, ⟨[(0, sl eExt list2), (3, I e.1), (7, B e.2)], []⟩))) e) := by
  refine loop_runG (S := Int) (eS := fun s => ⟨[(0, sl eExt list2), (3, I s)], []⟩) (eE := fun e => (alt (fun e => ((.ret, ⟨[(2, B false)], []⟩) : AExit × St)) (fun e => (.exit 0, ⟨[(0, sl eExt list2), (3, I e.1), (7, B e.2)], []⟩))) e) (fun e => ?_) (fun i o h => ?_) h
  · rcases e with e | e <;> simp [alt]
  · skip
    simp only [s_l02List_1_s] at h
    show Rn tab ow _ _ ⟨[(0, sl eExt list2), (3, I i)], []⟩ = _
    simp +decide only [b_s_l02List_2, go_sem, reduceIte, Nat.reduceAdd]
    rcases brc h with ⟨hb, h⟩ | ⟨hb, h⟩
    · refine br_t hb ?_
      obtain ⟨x, h1, h⟩ := bd h
      refine bind_some h1 ?_
      obtain ⟨r_, h1, h⟩ := bd h
      refine call_aft (s_ExtOK_c h1) ?_
      simp +decide only [go_sem, reduceIte, Nat.reduceAdd]
      rcases brc h with ⟨hb, h⟩ | ⟨hb, h⟩
      · refine br_t hb ?_
        obtain rfl := Option.some.inj h
        first | rfl | (simp only [List.length_set, go_sem]; done)
      · refine br_f hb ?_
        obtain rfl := Option.some.inj h
        first | rfl | (simp only [List.length_set, go_sem]; done)
    · refine br_f hb ?_
      obtain rfl := Option.some.inj h
      first | rfl | (simp only [List.length_set, go_sem]; done)
noncomputable def s_l02List (list : (List Ext)) : Option (Bool) :=
  (Loop (s_l02List_1_s list) (0 : Int)).bind (alt (fun e_2 =>
    some false) (fun e_3 =>
    some true))
theorem s_l02List_c {list : (List Ext)} {r : Bool} (h : s_l02List list = some r) : Call tab ow 95 [sl eExt list] [] = some (B r, []) := by
  rw [run_s_l02List]
  unfold s_l02List at h
  simp +decide only [b_s_l02List, go_sem, reduceIte, Nat.reduceAdd]
  obtain ⟨e_, h1, h⟩ := bd h
  refine goR_of (s_l02List_1_l h1) ?_
  rcases e_ with e_2 | e_3
  · simp +decide only [go_sem, reduceIte, Nat.reduceAdd]
    obtain rfl := Option.some.inj h
    first | rfl | (simp only [List.length_set, go_sem]; done)
  · simp +decide only [go_sem, reduceIte, Nat.reduceAdd]
    obtain rfl := Option.some.inj h
    first | rfl | (simp only [List.length_set, go_sem]; done)
noncomputable def i_in (n : Int) (low : Int) (high : Int) : Option (Bool) :=
  br (decide (low ≤ n)) (
    some (decide (n ≤ high))) (
    some false)
theorem i_in_c {n : Int} {low : Int} {high : Int} {r : Bool} (h : i_in n low high = some r) : Call tab ow 86 [I n, I low, I high] [] = some (B r, []) := by
  rw [run_i_in]
  unfold i_in at h
  simp +decide only [b_i_in, go_sem, reduceIte, Nat.reduceAdd]
  rcases brc h with ⟨hb, h⟩ | ⟨hb, h⟩
  · refine br_t hb ?_
    obtain rfl := Option.some.inj h
    first | rfl | (simp only [List.length_set, go_sem]; done)
  · refine br_f hb ?_
    obtain rfl := Option.some.inj h
    first | rfl | (simp only [List.length_set, go_sem]; done)
noncomputable def i_FieldOK (a : Int) : Option (Bool) :=
  (i_in a (0 : Int) (2130706432 : Int)).bind fun r_ =>
  some r_
theorem i_FieldOK_c {a : Int} {r : Bool} (h : i_FieldOK a = some r) : Call tab ow 162 [I a] [] = some (B r, []) := by
  rw [run_i_FieldOK]
  unfold i_FieldOK at h
  simp +decide only [b_i_FieldOK, go_sem, reduceIte, Nat.reduceAdd]
  obtain ⟨r_, h1, h⟩ := bd h
  refine call_aft (i_in_c h1) ?_
  simp +decide only [go_sem, reduceIte, Nat.reduceAdd]
  obtain rfl := Option.some.inj h
  first | rfl | (simp only [List.length_set, go_sem]; done)
noncomputable def i_ExtOK (a : Ext) : Option (Bool) :=
  (i_FieldOK a.A).bind fun r_ =>
  br r_ (
    (i_FieldOK a.B).bind fun r_2 =>
    some r_2) (
    some false)
theorem i_ExtOK_c {a : Ext} {r : Bool} (h : i_ExtOK a = some r) : Call tab ow 92 [.agg [I a.A, I a.B]] [] = some (B r, []) := by
  rw [run_i_ExtOK]
  unfold i_ExtOK at h
  simp +decide only [b_i_ExtOK, go_sem, reduceIte, Nat.reduceAdd]
  obtain ⟨r_, h1, h⟩ := bd h
  refine call_aft (i_FieldOK_c h1) ?_
  simp +decide only [go_sem, reduceIte, Nat.reduceAdd]
  rcases brc h with ⟨hb, h⟩ | ⟨hb, h⟩
  · refine br_t hb ?_
    obtain ⟨r_2, h1, h⟩ := bd h
    refine call_aft (i_FieldOK_c h1) ?_
    simp +decide only [go_sem, reduceIte, Nat.reduceAdd]
    obtain rfl := Option.some.inj h
    first | rfl | (simp only [List.length_set, go_sem]; done)
  · refine br_f hb ?_
    obtain rfl := Option.some.inj h
    first | rfl | (simp only [List.length_set, go_sem]; done)
noncomputable def i_are_i_Ext_1_ExtOK (x : Ext) : Option (Bool) :=
  (i_ExtOK x).bind fun r_ =>
  some (!r_)
theorem i_are_i_Ext_1_ExtOK_c {x : Ext} {r : Bool} (h : i_are_i_Ext_1_ExtOK x = some r) : Call tab ow 161 [.agg [I x.A, I x.B], .ptr 0 0 0 1] [⟨1, true, [[.fn 92 []]]⟩] = some (B r, [⟨1, true, [[.fn 92 []]]⟩]) := by
  rw [run_i_are_i_Ext_1]
  unfold i_are_i_Ext_1_ExtOK at h
  simp +decide only [b_i_are_i_Ext_1, go_sem, reduceIte, Nat.reduceAdd]
  obtain ⟨r_, h1, h⟩ := bd h
  refine call_aft (i_ExtOK_c h1) ?_
  simp +decide only [go_sem, reduceIte, Nat.reduceAdd]
  obtain rfl := Option.some.inj h
  first | rfl | (simp only [List.length_set, go_sem]; done)
noncomputable def slices_IndexFunc_Li_Ext_i_Ext_are_i_Ext_1_ExtOK_1_s (s2 : List Ext) (t : Int) : Int → Option ((Int) ⊕ (Int ⊕ (Int × Bool)))
  | t2 =>
    br (decide (t2 < t)) (
      (atL s2 t2).bind fun x =>
      (i_are_i_Ext_1_ExtOK x).bind fun r_ =>
      br r_ (
        some (.inr (.inl t2))) (
        some (.inl (IntKind.wrap .i64 (t2 + (1 : Int)))))) (
      some (.inr (.inr (t2, decide (t2 < t)))))
theorem slices_IndexFunc_Li_Ext_i_Ext_are_i_Ext_1_ExtOK_1_l {s2 : List Ext} {t : Int} {t2 : Int} {e : Int ⊕ (Int × Bool)} (h : Loop (slices_IndexFunc_Li_Ext_i_Ext_are_i_Ext_1_ExtOK_1_s s2 t) t2 = some e) : LoopX tab ow (.close [5005]) b_slices_IndexFunc_Li_Ext_i_Ext_2 ⟨[(0, sl eExt s2), (1, .fn 161 [.ptr 0 0 0 1]), (7, I t), (8, I t2)], [(0, ⟨1, true, [[.fn 92 []]]⟩)]⟩ = some ((alt (fun e => ((.ret, ⟨[(4, I e)], [(0, ⟨1, true, [[.fn 92 []]]⟩)]⟩) : AExit × St)) (fun e => (.exit 0, ⟨[(0, sl eExt s2), (1, .fn 161 [.ptr 0 0 0 1]), (7, I t), (8, I e.1), (9, B e.2)], [(0, ⟨1, true, [[.fn 92 []]]⟩)]⟩))) e) := by
  refine loop_runG (S := Int) (eS := fun s => ⟨[(0, sl eExt s2), (1, .fn 161 [.ptr 0 0 0 1]), (7, I t), (8, I s)], [(0, ⟨1, true, [[.fn 92 []]]⟩)]⟩) (eE := fun e => (alt (fun e => ((.ret, ⟨[(4, I e)], [(0, ⟨1, true, [[.fn 92 []]]⟩)]⟩) : AExit × St)) (fun e => (.exit 0, ⟨[(0, sl eExt s2), (1, .fn 161 [.ptr 0 0 0 1]), (7, I t), (8, I e.1), (9, B e.2)], [(0, ⟨1, true, [[.fn 92 []]]⟩)]⟩))) e) (fun e => ?_) (fun t2 o h => ?_) h
  · rcases e with e | e <;> simp [alt]
  · skip
    simp only [slices_IndexFunc_Li_Ext_i_Ext_are_i_Ext_1_ExtOK_1_s] at h
    show Rn tab ow _ _ ⟨[(0, sl eExt s2), (1, .fn 161 [.ptr 0 0 0 1]), (7, I t), (8, I t2)], [(0, ⟨1, true, [[.fn 92 []]]⟩)]⟩ = _
    simp +decide only [b_slices_IndexFunc_Li_Ext_i_Ext_2, go_sem, reduceIte, Nat.reduceAdd]
    rcases brc h with ⟨hb, h⟩ | ⟨hb, h⟩
    · refine br_t hb ?_
      obtain ⟨x, h1, h⟩ := bd h
      refine bind_some h1 ?_
      obtain ⟨r_, h1, h⟩ := bd h
      refine call_aft (i_are_i_Ext_1_ExtOK_c h1) ?_
      simp +decide only [go_sem, reduceIte, Nat.reduceAdd]
      rcases brc h with ⟨hb, h⟩ | ⟨hb, h⟩
      · refine br_t hb ?_
        obtain rfl := Option.some.inj h
        first | rfl | (simp only [List.length_set, go_sem]; done)
      · refine br_f hb ?_
        obtain rfl := Option.some.inj h
        first | rfl | (simp only [List.length_set, go_sem]; done)
    · refine br_f hb ?_
      obtain rfl := Option.some.inj h
      first | rfl | (simp only [List.length_set, go_sem]; done)
noncomputable def slices_IndexFunc_Li_Ext_i_Ext_are_i_Ext_1_ExtOK (s : (List Ext)) : Option (Int) :=
  (Loop (slices_IndexFunc_Li_Ext_i_Ext_are_i_Ext_1_ExtOK_1_s s ((s.length : Nat) : Int)) (0 : Int)).bind (alt (fun e_2 =>
    some e_2) (fun e_3 =>
    some (-1 : Int)))
theorem slices_IndexFunc_Li_Ext_i_Ext_are_i_Ext_1_ExtOK_c {s : (List Ext)} {r : Int} (h : slices_IndexFunc_Li_Ext_i_Ext_are_i_Ext_1_ExtOK s = some r) : Call tab ow 209 [sl eExt s, .fn 161 [.ptr 0 0 0 1]] [⟨1, true, [[.fn 92 []]]⟩] = some (I r, [⟨1, true, [[.fn 92 []]]⟩]) := by
  rw [run_slices_IndexFunc_Li_Ext_i_Ext]
  unfold slices_IndexFunc_Li_Ext_i_Ext_are_i_Ext_1_ExtOK at h
  simp +decide only [b_slices_IndexFunc_Li_Ext_i_Ext, go_sem, reduceIte, Nat.reduceAdd]
  obtain ⟨e_, h1, h⟩ := bd h
  refine goR_of (slices_IndexFunc_Li_Ext_i_Ext_are_i_Ext_1_ExtOK_1_l h1) ?_
  rcases e_ with e_2 | e_3
  · simp +decide only [go_sem, reduceIte, Nat.reduceAdd]
    obtain rfl := Option.some.inj h
    first | rfl | (simp only [List.length_set, go_sem]; done)
  · simp +decide only [go_sem, reduceIte, Nat.reduceAdd]
    obtain rfl := Option.some.inj h
    first | rfl | (simp only [List.length_set, go_sem]; done)
noncomputable def slices_ContainsFunc_Li_Ext_i_Ext_are_i_Ext_1_ExtOK (s : (List Ext)) : Option (Bool) :=
  (slices_IndexFunc_Li_Ext_i_Ext_are_i_Ext_1_ExtOK s).bind fun r_ =>
  some (decide (r_ ≥ (0 : Int)))
theorem slices_ContainsFunc_Li_Ext_i_Ext_are_i_Ext_1_ExtOK_c {s : (List Ext)} {r : Bool} (h : slices_ContainsFunc_Li_Ext_i_Ext_are_i_Ext_1_ExtOK s = some r) : Call tab ow 160 [sl eExt s, .fn 161 [.ptr 0 0 0 1]] [⟨1, true, [[.fn 92 []]]⟩] = some (B r, [⟨1, true, [[.fn 92 []]]⟩]) := by
  rw [run_slices_ContainsFunc_Li_Ext_i_Ext]
  unfold slices_ContainsFunc_Li_Ext_i_Ext_are_i_Ext_1_ExtOK at h
  simp +decide only [b_slices_ContainsFunc_Li_Ext_i_Ext, go_sem, reduceIte, Nat.reduceAdd]
  obtain ⟨r_, h1, h⟩ := bd h
  refine call_aft (slices_IndexFunc_Li_Ext_i_Ext_are_i_Ext_1_ExtOK_c h1) ?_
  simp +decide only [go_sem, reduceIte, Nat.reduceAdd]
  obtain rfl := Option.some.inj h
  first | rfl | (simp only [List.length_set, go_sem]; done)
noncomputable def i_are_i_Ext_ExtOK (list : (List Ext)) : Option (Bool) :=
  (slices_ContainsFunc_Li_Ext_i_Ext_are_i_Ext_1_ExtOK list).bind fun r_ =>
  some (!r_)
theorem i_are_i_Ext_ExtOK_c {list : (List Ext)} {r : Bool} (h : i_are_i_Ext_ExtOK list = some r) : Call tab ow 91 [.fn 92 [], sl eExt list] [] = some (B r, []) := by
  rw [run_i_are_i_Ext]
  unfold i_are_i_Ext_ExtOK at h
  simp +decide only [b_i_are_i_Ext, go_sem, reduceIte, Nat.reduceAdd]
  obtain ⟨r_, h1, h⟩ := bd h
  refine call_aft (slices_ContainsFunc_Li_Ext_i_Ext_are_i_Ext_1_ExtOK_c h1) ?_
  simp +decide only [go_sem, reduceIte, Nat.reduceAdd]
  obtain rfl := Option.some.inj h
  first | rfl | (simp only [List.length_set, go_sem]; done)
noncomputable def s_l00Source (code : (List UInt8)) : Option (l00Src) :=
  some (l00Src.mk code (0 : Int) (((code.length : Nat) : Int).tmod (1000 : Int)))
theorem s_l00Source_c {code : (List UInt8)} {r : l00Src} (h : s_l00Source code = some r) : Call tab ow 77 [sl eU8 code] [] = some (.ptr 0 0 0 1, [⟨3, true, [[sl eU8 r.code, I r.at_, I r.seed]]⟩]) := by
  rw [run_s_l00Source]
  unfold s_l00Source at h
  simp +decide only [b_s_l00Source, go_sem, reduceIte, Nat.reduceAdd]
  obtain rfl := Option.some.inj h
  first | rfl | (simp only [List.length_set, go_sem]; done)
noncomputable def s_l00Src_byte (m : l00Src) : Option (Int × l00Src) :=
  br (decide ((IntKind.wrap .i64 (m.at_ + (1 : Int))) ≤ ((m.code.length : Nat) : Int))) (
    (atL m.code (IntKind.wrap .i64 ((IntKind.wrap .i64 (m.at_ + (1 : Int))) - (1 : Int)))).bind fun x =>
    (atL m.code (IntKind.wrap .i64 ((IntKind.wrap .i64 (m.at_ + (1 : Int))) - (1 : Int)))).bind fun x2 =>
    some ((IntKind.wrap .i64 (x2.toNat : Int)), (l00Src.mk m.code (IntKind.wrap .i64 (m.at_ + (1 : Int))) ((IntKind.wrap .i64 ((IntKind.wrap .i64 ((IntKind.wrap .i64 (m.seed * (31 : Int))) + (IntKind.wrap .i64 (x.toNat : Int)))) + (7 : Int))).tmod (2147483648 : Int))))) (
    br (decide ((IntKind.wrap .i64 (m.at_ + (1 : Int))) > (3000 : Int))) (
      some ((0 : Int), (l00Src.mk m.code (IntKind.wrap .i64 (m.at_ + (1 : Int))) m.seed))) (
      some (((IntKind.wrap .i64 (((IntKind.wrap .i64 ((IntKind.wrap .i64 (m.seed * (1103515245 : Int))) + (12345 : Int))).tmod (2147483648 : Int)).tdiv (65536 : Int))).tmod (256 : Int)), (l00Src.mk m.code (IntKind.wrap .i64 (m.at_ + (1 : Int))) ((IntKind.wrap .i64 ((IntKind.wrap .i64 (m.seed * (1103515245 : Int))) + (12345 : Int))).tmod (2147483648 : Int))))))
theorem s_l00Src_byte_c {m : l00Src} {r : Int × l00Src} (h : s_l00Src_byte m = some r) : Call tab ow 200 [.ptr 0 0 0 1] [⟨3, true, [[sl eU8 m.code, I m.at_, I m.seed]]⟩] = some (I r.1, [⟨3, true, [[sl eU8 r.2.code, I r.2.at_, I r.2.seed]]⟩]) := by
  rw [run_s_l00Src_byte]
  unfold s_l00Src_byte at h
  simp +decide only [b_s_l00Src_byte, go_sem, reduceIte, Nat.reduceAdd]
  rcases brc h with ⟨hb, h⟩ | ⟨hb, h⟩
  · refine br_t hb ?_
    obtain ⟨x, h1, h⟩ := bd h
    refine bind_some h1 ?_
    obtain ⟨x2, h1, h⟩ := bd h
    refine bind_some h1 ?_
    obtain rfl := Option.some.inj h
    first | rfl | (simp only [List.length_set, go_sem]; done)
  · refine br_f hb ?_
    rcases brc h with ⟨hb, h⟩ | ⟨hb, h⟩
    · refine br_t hb ?_
      obtain rfl := Option.some.inj h
      first | rfl | (simp only [List.length_set, go_sem]; done)
    · refine br_f hb ?_
      obtain rfl := Option.some.inj h
      first | rfl | (simp only [List.length_set, go_sem]; done)
noncomputable def s_l00Src_next (n : Int) (m : l00Src) : Option (Int × l00Src) :=
  br (decide (n ≤ (1 : Int))) (
    some ((0 : Int), m)) (
    br (decide (n ≤ (256 : Int))) (
      (s_l00Src_byte m).bind fun r_ =>
      br (decide (n ≠ 0)) (
        some ((r_.1.tmod n), r_.2)) (
        none)) (
      (s_l00Src_byte m).bind fun r_2 =>
      (s_l00Src_byte r_2.2).bind fun r_3 =>
      (s_l00Src_byte r_3.2).bind fun r_4 =>
      br (decide (n ≠ 0)) (
        some (((IntKind.wrap .i64 ((IntKind.wrap .i64 ((IntKind.wrap .i64 (r_2.1 * (65536 : Int))) + (IntKind.wrap .i64 (r_3.1 * (256 : Int))))) + r_4.1)).tmod n), r_4.2)) (
        none)))
theorem s_l00Src_next_c {n : Int} {m : l00Src} {r : Int × l00Src} (h : s_l00Src_next n m = some r) : Call tab ow 152 [.ptr 0 0 0 1, I n] [⟨3, true, [[sl eU8 m.code, I m.at_, I m.seed]]⟩] = some (I r.1, [⟨3, true, [[sl eU8 r.2.code, I r.2.at_, I r.2.seed]]⟩]) := by
  rw [run_s_l00Src_next]
  unfold s_l00Src_next at h
  simp +decide only [b_s_l00Src_next, go_sem, reduceIte, Nat.reduceAdd]
  rcases brc h with ⟨hb, h⟩ | ⟨hb, h⟩
  · refine br_t hb ?_
    obtain rfl := Option.some.inj h
    first | rfl | (simp only [List.length_set, go_sem]; done)
  · refine br_f hb ?_
    rcases brc h with ⟨hb, h⟩ | ⟨hb, h⟩
    · refine br_t hb ?_
      obtain ⟨r_, h1, h⟩ := bd h
      refine call_aft (s_l00Src_byte_c h1) ?_
      simp +decide only [go_sem, reduceIte, Nat.reduceAdd]
      obtain ⟨hb, h⟩ := brg h
      refine br_t hb ?_
      obtain rfl := Option.some.inj h
      first | rfl | (simp only [List.length_set, go_sem]; done)
    · refine br_f hb ?_
      obtain ⟨r_2, h1, h⟩ := bd h
      refine call_aft (s_l00Src_byte_c h1) ?_
      simp +decide only [go_sem, reduceIte, Nat.reduceAdd]
      obtain ⟨r_3, h1, h⟩ := bd h
      refine call_aft (s_l00Src_byte_c h1) ?_
      simp +decide only [go_sem, reduceIte, Nat.reduceAdd]
      obtain ⟨r_4, h1, h⟩ := bd h
      refine call_aft (s_l00Src_byte_c h1) ?_
      simp +decide only [go_sem, reduceIte, Nat.reduceAdd]
      obtain ⟨hb, h⟩ := brg h
      refine br_t hb ?_
      obtain rfl := Option.some.inj h
      first | rfl | (simp only [List.length_set, go_sem]; done)
noncomputable def s_l00Src_pick (list : (List (List UInt8))) (m : l00Src) : Option ((List UInt8) × l00Src) :=
  br (((list.length : Nat) : Int) == (0 : Int)) (
    some ((([] : List UInt8)), m)) (
    (s_l00Src_next ((list.length : Nat) : Int) m).bind fun r_ =>
    (atL list r_.1).bind fun x =>
    some (x, r_.2))
theorem s_l00Src_pick_c {list : (List (List UInt8))} {m : l00Src} {r : (List UInt8) × l00Src} (h : s_l00Src_pick list m = some r) : Call tab ow 149 [.ptr 0 0 0 1, sl eS list] [⟨3, true, [[sl eU8 m.code, I m.at_, I m.seed]]⟩] = some (S r.1, [⟨3, true, [[sl eU8 r.2.code, I r.2.at_, I r.2.seed]]⟩]) := by
  rw [run_s_l00Src_pick]
  unfold s_l00Src_pick at h
  simp +decide only [b_s_l00Src_pick, go_sem, reduceIte, Nat.reduceAdd]
  rcases brc h with ⟨hb, h⟩ | ⟨hb, h⟩
  · refine br_t hb ?_
    obtain rfl := Option.some.inj h
    first | rfl | (simp only [List.length_set, go_sem]; done)
  · refine br_f hb ?_
    obtain ⟨r_, h1, h⟩ := bd h
    refine call_aft (s_l00Src_next_c h1) ?_
    simp +decide only [go_sem, reduceIte, Nat.reduceAdd]
    obtain ⟨x, h1, h⟩ := bd h
    refine bind_some h1 ?_
    obtain rfl := Option.some.inj h
    first | rfl | (simp only [List.length_set, go_sem]; done)
noncomputable def s_l03Lanes_1_s (m : List Int) (t2 : List UInt8) : (List Int) × Int → Option (((List Int) × Int) ⊕ (((List Int) × Int × Bool)))
  | (m2, i) =>
    br (decide (i < ((t2.length : Nat) : Int))) (
      br (decide (0 ≤ (IntKind.wrap .i64 (i.tdiv (8 : Int)))) && decide ((IntKind.wrap .i64 (i.tdiv (8 : Int))).toNat < 25)) (
        (m2[(IntKind.wrap .i64 (i.tdiv (8 : Int))).toNat]?).bind fun x =>
        (atL t2 i).bind fun c =>
        br (decide (0 ≤ (IntKind.wrap .u64 (IntKind.wrap .i64 ((8 : Int) * (i.tmod (8 : Int))))))) (
          br (decide (0 ≤ (IntKind.wrap .i64 (i.tdiv (8 : Int)))) && decide ((IntKind.wrap .i64 (i.tdiv (8 : Int))).toNat < 25)) (
            br (decide ((IntKind.wrap .i64 (i.tdiv (8 : Int))).toNat < m2.length)) (
              some (.inl ((m2.set ((IntKind.wrap .i64 (i.tdiv (8 : Int))).toNat) (or64 .u64 x (shl64 .u64 (IntKind.wrap .u64 (c.toNat : Int)) (IntKind.wrap .u64 (IntKind.wrap .i64 ((8 : Int) * (i.tmod (8 : Int)))))))), (IntKind.wrap .i64 (i + (1 : Int)))))) (
              none)) (
            none)) (
          none)) (
        none)) (
      some (.inr (m2, i, decide (i < ((t2.length : Nat) : Int)))))
theorem s_l03Lanes_1_l {m : List Int} {t2 : List UInt8} {m2 : List Int} {i : Int} {e : ((List Int) × Int × Bool)} (h : Loop (s_l03Lanes_1_s m t2) (m2, i) = some e) : LoopX tab ow (.close []) b_s_l03Lanes_3 ⟨[(0, S t2), (2, .ptr 1000 0 0 1), (3, .ptr 2001 0 0 1), (4, I i)], [(1000, ⟨25, true, [ar .u64 m]⟩), (2001, ⟨25, true, [ar .u64 m2]⟩)]⟩ = some ((.exit 0, ⟨[(0, S t2), (2, .ptr 1000 0 0 1), (3, .ptr 2001 0 0 1), (4, I e.2.1), (9, B e.2.2)], [(1000, ⟨25, true, [ar .u64 m]⟩), (2001, ⟨25, true, [ar .u64 e.1]⟩)]⟩)) := by
  refine loop_runG (S := (List Int) × Int) (eS := fun s => ⟨[(0, S t2), (2, .ptr 1000 0 0 1), (3, .ptr 2001 0 0 1), (4, I s.2)], [(1000, ⟨25, true, [ar .u64 m]⟩), (2001, ⟨25, true, [ar .u64 s.1]⟩)]⟩) (eE := fun e => (.exit 0, ⟨[(0, S t2), (2, .ptr 1000 0 0 1), (3, .ptr 2001 0 0 1), (4, I e.2.1), (9, B e.2.2)], [(1000, ⟨25, true, [ar .u64 m]⟩), (2001, ⟨25, true, [ar .u64 e.1]⟩)]⟩)) (fun e => ?_) (fun s o h => ?_) h
  · simp [alt]
  · obtain ⟨m2, i⟩ := s
    simp only [s_l03Lanes_1_s] at h
    show Rn tab ow _ _ ⟨[(0, S t2), (2, .ptr 1000 0 0 1), (3, .ptr 2001 0 0 1), (4, I i)], [(1000, ⟨25, true, [ar .u64 m]⟩), (2001, ⟨25, true, [ar .u64 m2]⟩)]⟩ = _
    simp +decide only [b_s_l03Lanes_3, go_sem, reduceIte, Nat.reduceAdd]
    rcases brc h with ⟨hb, h⟩ | ⟨hb, h⟩
    · refine br_t hb ?_
      obtain ⟨hb, h⟩ := brg h
      refine br_t hb ?_
      obtain ⟨x, h1, h⟩ := bd h
      refine bind_some h1 ?_
      obtain ⟨c, h1, h⟩ := bd h
      refine bind_some h1 ?_
      obtain ⟨hb, h⟩ := brg h
      refine br_t hb ?_
      obtain ⟨hb, h⟩ := brg h
      refine br_t hb ?_
      obtain ⟨hb, h⟩ := brg h
      refine br_t hb ?_
      obtain rfl := Option.some.inj h
      first | rfl | (simp only [List.length_set, go_sem]; done)
    · refine br_f hb ?_
      obtain rfl := Option.some.inj h
      first | rfl | (simp only [List.length_set, go_sem]; done)
noncomputable def s_l03Lanes (t : (List UInt8)) : Option ((List Int)) :=
  (Loop (s_l03Lanes_1_s (nZ 25) t) ((nZ 25), (0 : Int))).bind fun e_ =>
  br (decide (e_.1.length = 25)) (
    br (decide (e_.1.length = 25)) (
      br (decide (e_.1.length = 25)) (
        some e_.1) (
        none)) (
      none)) (
    none)
theorem s_l03Lanes_c {t : (List UInt8)} {r : (List Int)} (h : s_l03Lanes t = some r) : Call tab ow 205 [S t] [] = some (.agg (ar .u64 r), []) := by
  rw [run_s_l03Lanes]
  unfold s_l03Lanes at h
  simp +decide only [b_s_l03Lanes, go_sem, reduceIte, Nat.reduceAdd]
  obtain ⟨e_, h1, h⟩ := bd h
  refine goR_of (s_l03Lanes_1_l h1) ?_
  simp +decide only [go_sem, reduceIte, Nat.reduceAdd]
  obtain ⟨hb, h⟩ := brg h
  refine br_t hb ?_
  obtain ⟨hb, h⟩ := brg h
  refine br_t hb ?_
  obtain ⟨hb, h⟩ := brg h
  refine br_t hb ?_
  obtain rfl := Option.some.inj h
  first | rfl | (simp only [List.length_set, go_sem]; done)
noncomputable def s_l03Rounds : Option ((List Int)) :=
  some ([1, 32898, 9223372036854808714, 9223372039002292224, 32907, 2147483649, 9223372039002292353, 9223372036854808585, 138, 136, 2147516425, 2147483658, 2147516555, 9223372036854775947, 9223372036854808713, 9223372036854808579, 9223372036854808578, 9223372036854775936, 32778, 9223372039002259466, 9223372039002292353, 9223372036854808704, 2147483649, 9223372039002292232] : List Int)
theorem s_l03Rounds_c {r : (List Int)} (h : s_l03Rounds = some r) : Call tab ow 227 [] [] = some (.agg (ar .u64 r), []) := by
  rw [run_s_l03Rounds]
  unfold s_l03Rounds at h
  simp +decide only [b_s_l03Rounds, go_sem, reduceIte, Nat.reduceAdd]
  obtain rfl := Option.some.inj h
  first | rfl | (simp only [List.length_set, go_sem]; done)
noncomputable def s_l03Shifts : Option ((List Int)) :=
  some ([0, 1, 62, 28, 27, 36, 44, 6, 55, 20, 3, 10, 43, 25, 39, 41, 45, 15, 21, 8, 18, 2, 61, 56, 14] : List Int)
theorem s_l03Shifts_c {r : (List Int)} (h : s_l03Shifts = some r) : Call tab ow 228 [] [] = some (.agg (ar .u64 r), []) := by
  rw [run_s_l03Shifts]
  unfold s_l03Shifts at h
  simp +decide only [b_s_l03Shifts, go_sem, reduceIte, Nat.reduceAdd]
  obtain rfl := Option.some.inj h
  first | rfl | (simp only [List.length_set, go_sem]; done)
noncomputable def s_l03Turn (x : Int) (n : Int) : Option (Int) :=
  br (n == (0 : Int)) (
    some x) (
    br (decide (0 ≤ n)) (
      br (decide (0 ≤ (IntKind.wrap .u64 ((64 : Int) - n)))) (
        some (or64 .u64 (shl64 .u64 x n) (shr64 .u64 x (IntKind.wrap .u64 ((64 : Int) - n))))) (
        none)) (
      none))
theorem s_l03Turn_c {x : Int} {n : Int} {r : Int} (h : s_l03Turn x n = some r) : Call tab ow 229 [.lit (.int .u64 x), .lit (.int .u64 n)] [] = some (.lit (.int .u64 r), []) := by
  rw [run_s_l03Turn]
  unfold s_l03Turn at h
  simp +decide only [b_s_l03Turn, go_sem, reduceIte, Nat.reduceAdd]
  rcases brc h with ⟨hb, h⟩ | ⟨hb, h⟩
  · refine br_t hb ?_
    obtain rfl := Option.some.inj h
    first | rfl | (simp only [List.length_set, go_sem]; done)
  · refine br_f hb ?_
    obtain ⟨hb, h⟩ := brg h
    refine br_t hb ?_
    obtain ⟨hb, h⟩ := brg h
    refine br_t hb ?_
    obtain rfl := Option.some.inj h
    first | rfl | (simp only [List.length_set, go_sem]; done)
noncomputable def s_l03Permute_2_s (m5 : List Int) (m6 : List Int) (m7 : List Int) (m8 : List Int) (t2 : Int) : (List Int) × Int → Option (((List Int) × Int) ⊕ (((List Int) × Int × Bool)))
  | (m9, t3) =>
    br (decide (t3 < (5 : Int))) (
      br (decide (0 ≤ t3) && decide (t3.toNat < 25)) (
        (m5[t3.toNat]?).bind fun x =>
        br (decide (0 ≤ (IntKind.wrap .i64 (t3 + (5 : Int)))) && decide ((IntKind.wrap .i64 (t3 + (5 : Int))).toNat < 25)) (
          (m5[(IntKind.wrap .i64 (t3 + (5 : Int))).toNat]?).bind fun x2 =>
          br (decide (0 ≤ (IntKind.wrap .i64 (t3 + (10 : Int)))) && decide ((IntKind.wrap .i64 (t3 + (10 : Int))).toNat < 25)) (
            (m5[(IntKind.wrap .i64 (t3 + (10 : Int))).toNat]?).bind fun x3 =>
            br (decide (0 ≤ (IntKind.wrap .i64 (t3 + (15 : Int)))) && decide ((IntKind.wrap .i64 (t3 + (15 : Int))).toNat < 25)) (
              (m5[(IntKind.wrap .i64 (t3 + (15 : Int))).toNat]?).bind fun x4 =>
              br (decide (0 ≤ (IntKind.wrap .i64 (t3 + (20 : Int)))) && decide ((IntKind.wrap .i64 (t3 + (20 : Int))).toNat < 25)) (
                (m5[(IntKind.wrap .i64 (t3 + (20 : Int))).toNat]?).bind fun x5 =>
                br (decide (0 ≤ t3) && decide (t3.toNat < 5)) (
                  br (decide (t3.toNat < m9.length)) (
                    some (.inl ((m9.set t3.toNat (xor64 .u64 (xor64 .u64 (xor64 .u64 (xor64 .u64 x x2) x3) x4) x5)), (IntKind.wrap .i64 (t3 + (1 : Int)))))) (
                    none)) (
                  none)) (
                none)) (
              none)) (
            none)) (
          none)) (
        none)) (
      some (.inr (m9, t3, decide (t3 < (5 : Int)))))
theorem s_l03Permute_2_l {m5 : List Int} {m6 : List Int} {m7 : List Int} {m8 : List Int} {t2 : Int} {m9 : List Int} {t3 : Int} {e : ((List Int) × Int × Bool)} (h : Loop (s_l03Permute_2_s m5 m6 m7 m8 t2) (m9, t3) = some e) : LoopX tab ow (.close []) b_s_l03Permute_8 ⟨[(1, .ptr 1000 0 0 1), (2, .ptr 1001 0 0 1), (3, .ptr 2001 0 0 1), (4, .ptr 3001 0 0 1), (5, I t2), (6, .ptr 7001 0 0 1), (7, I t3)], [(1000, ⟨25, true, [ar .u64 m5]⟩), (1001, ⟨25, true, [ar .u64 m6]⟩), (2001, ⟨24, true, [ar .u64 m7]⟩), (3001, ⟨25, true, [ar .u64 m8]⟩), (7001, ⟨5, true, [ar .u64 m9]⟩)]⟩ = some ((.exit 2, ⟨[(1, .ptr 1000 0 0 1), (2, .ptr 1001 0 0 1), (3, .ptr 2001 0 0 1), (4, .ptr 3001 0 0 1), (5, I t2), (6, .ptr 7001 0 0 1), (7, I e.2.1), (22, B e.2.2)], [(1000, ⟨25, true, [ar .u64 m5]⟩), (1001, ⟨25, true, [ar .u64 m6]⟩), (2001, ⟨24, true, [ar .u64 m7]⟩), (3001, ⟨25, true, [ar .u64 m8]⟩), (7001, ⟨5, true, [ar .u64 e.1]⟩)]⟩)) := by
  refine loop_runG (S := (List Int) × Int) (eS := fun s => ⟨[(1, .ptr 1000 0 0 1), (2, .ptr 1001 0 0 1), (3, .ptr 2001 0 0 1), (4, .ptr 3001 0 0 1), (5, I t2), (6, .ptr 7001 0 0 1), (7, I s.2)], [(1000, ⟨25, true, [ar .u64 m5]⟩), (1001, ⟨25, true, [ar .u64 m6]⟩), (2001, ⟨24, true, [ar .u64 m7]⟩), (3001, ⟨25, true, [ar .u64 m8]⟩), (7001, ⟨5, true, [ar .u64 s.1]⟩)]⟩) (eE := fun e => (.exit 2, ⟨[(1, .ptr 1000 0 0 1), (2, .ptr 1001 0 0 1), (3, .ptr 2001 0 0 1), (4, .ptr 3001 0 0 1), (5, I t2), (6, .ptr 7001 0 0 1), (7, I e.2.1), (22, B e.2.2)], [(1000, ⟨25, true, [ar .u64 m5]⟩), (1001, ⟨25, true, [ar .u64 m6]⟩), (2001, ⟨24, true, [ar .u64 m7]⟩), (3001, ⟨25, true, [ar .u64 m8]⟩), (7001, ⟨5, true, [ar .u64 e.1]⟩)]⟩)) (fun e => ?_) (fun s o h => ?_) h
  · simp [alt]
  · obtain ⟨m9, t3⟩ := s
    simp only [s_l03Permute_2_s] at h
    show Rn tab ow _ _ ⟨[(1, .ptr 1000 0 0 1), (2, .ptr 1001 0 0 1), (3, .ptr 2001 0 0 1), (4, .ptr 3001 0 0 1), (5, I t2), (6, .ptr 7001 0 0 1), (7, I t3)], [(1000, ⟨25, true, [ar .u64 m5]⟩), (1001, ⟨25, true, [ar .u64 m6]⟩), (2001, ⟨24, true, [ar .u64 m7]⟩), (3001, ⟨25, true, [ar .u64 m8]⟩), (7001, ⟨5, true, [ar .u64 m9]⟩)]⟩ = _
    simp +decide only [b_s_l03Permute_8, go_sem, reduceIte, Nat.reduceAdd]
    rcases brc h with ⟨hb, h⟩ | ⟨hb, h⟩
    · refine br_t hb ?_
      obtain ⟨hb, h⟩ := brg h
      refine br_t hb ?_
      obtain ⟨x, h1, h⟩ := bd h
      refine bind_some h1 ?_
      obtain ⟨hb, h⟩ := brg h
      refine br_t hb ?_
      obtain ⟨x2, h1, h⟩ := bd h
      refine bind_some h1 ?_
      obtain ⟨hb, h⟩ := brg h
      refine br_t hb ?_
      obtain ⟨x3, h1, h⟩ := bd h
      refine bind_some h1 ?_
      obtain ⟨hb, h⟩ := brg h
      refine br_t hb ?_
      obtain ⟨x4, h1, h⟩ := bd h
      refine bind_some h1 ?_
      obtain ⟨hb, h⟩ := brg h
      refine br_t hb ?_
      obtain ⟨x5, h1, h⟩ := bd h
      refine bind_some h1 ?_
      obtain ⟨hb, h⟩ := brg h
      refine br_t hb ?_
      obtain ⟨hb, h⟩ := brg h
      refine br_t hb ?_
      obtain rfl := Option.some.inj h
      first | rfl | (simp only [List.length_set, go_sem]; done)
    · refine br_f hb ?_
      obtain rfl := Option.some.inj h
      first | rfl | (simp only [List.length_set, go_sem]; done)
noncomputable def s_l03Permute_3_s (m11 : List Int) (m12 : List Int) (m13 : List Int) (m14 : List Int) (t4 : Int) : (List Int) × Int → Option (((List Int) × Int) ⊕ (((List Int) × Int × Bool)))
  | (m10, t5) =>
    br (decide (t5 < (25 : Int))) (
      br (decide (0 ≤ t5) && decide (t5.toNat < 25)) (
        (m10[t5.toNat]?).bind fun x6 =>
        br (decide (0 ≤ ((IntKind.wrap .i64 (t5 + (4 : Int))).tmod (5 : Int))) && decide (((IntKind.wrap .i64 (t5 + (4 : Int))).tmod (5 : Int)).toNat < 5)) (
          (m14[((IntKind.wrap .i64 (t5 + (4 : Int))).tmod (5 : Int)).toNat]?).bind fun x7 =>
          br (decide (0 ≤ ((IntKind.wrap .i64 (t5 + (1 : Int))).tmod (5 : Int))) && decide (((IntKind.wrap .i64 (t5 + (1 : Int))).tmod (5 : Int)).toNat < 5)) (
            (m14[((IntKind.wrap .i64 (t5 + (1 : Int))).tmod (5 : Int)).toNat]?).bind fun x8 =>
            (s_l03Turn x8 (1 : Int)).bind fun r_3 =>
            br (decide (0 ≤ t5) && decide (t5.toNat < 25)) (
              br (decide (t5.toNat < m10.length)) (
                some (.inl ((m10.set t5.toNat (xor64 .u64 x6 (xor64 .u64 x7 r_3))), (IntKind.wrap .i64 (t5 + (1 : Int)))))) (
                none)) (
              none)) (
            none)) (
          none)) (
        none)) (
      some (.inr (m10, t5, decide (t5 < (25 : Int)))))
theorem s_l03Permute_3_l {m11 : List Int} {m12 : List Int} {m13 : List Int} {m14 : List Int} {t4 : Int} {m10 : List Int} {t5 : Int} {e : ((List Int) × Int × Bool)} (h : Loop (s_l03Permute_3_s m11 m12 m13 m14 t4) (m10, t5) = some e) : LoopX tab ow (.close [15013]) b_s_l03Permute_12 ⟨[(1, .ptr 1000 0 0 1), (2, .ptr 1001 0 0 1), (3, .ptr 2001 0 0 1), (4, .ptr 3001 0 0 1), (5, I t4), (6, .ptr 7001 0 0 1), (8, I t5)], [(1000, ⟨25, true, [ar .u64 m10]⟩), (1001, ⟨25, true, [ar .u64 m11]⟩), (2001, ⟨24, true, [ar .u64 m12]⟩), (3001, ⟨25, true, [ar .u64 m13]⟩), (7001, ⟨5, true, [ar .u64 m14]⟩)]⟩ = some ((.exit 4, ⟨[(1, .ptr 1000 0 0 1), (2, .ptr 1001 0 0 1), (3, .ptr 2001 0 0 1), (4, .ptr 3001 0 0 1), (5, I t4), (6, .ptr 7001 0 0 1), (8, I e.2.1), (51, B e.2.2)], [(1000, ⟨25, true, [ar .u64 e.1]⟩), (1001, ⟨25, true, [ar .u64 m11]⟩), (2001, ⟨24, true, [ar .u64 m12]⟩), (3001, ⟨25, true, [ar .u64 m13]⟩), (7001, ⟨5, true, [ar .u64 m14]⟩)]⟩)) := by
  refine loop_runG (S := (List Int) × Int) (eS := fun s => ⟨[(1, .ptr 1000 0 0 1), (2, .ptr 1001 0 0 1), (3, .ptr 2001 0 0 1), (4, .ptr 3001 0 0 1), (5, I t4), (6, .ptr 7001 0 0 1), (8, I s.2)], [(1000, ⟨25, true, [ar .u64 s.1]⟩), (1001, ⟨25, true, [ar .u64 m11]⟩), (2001, ⟨24, true, [ar .u64 m12]⟩), (3001, ⟨25, true, [ar .u64 m13]⟩), (7001, ⟨5, true, [ar .u64 m14]⟩)]⟩) (eE := fun e => (.exit 4, ⟨[(1, .ptr 1000 0 0 1), (2, .ptr 1001 0 0 1), (3, .ptr 2001 0 0 1), (4, .ptr 3001 0 0 1), (5, I t4), (6, .ptr 7001 0 0 1), (8, I e.2.1), (51, B e.2.2)], [(1000, ⟨25, true, [ar .u64 e.1]⟩), (1001, ⟨25, true, [ar .u64 m11]⟩), (2001, ⟨24, true, [ar .u64 m12]⟩), (3001, ⟨25, true, [ar .u64 m13]⟩), (7001, ⟨5, true, [ar .u64 m14]⟩)]⟩)) (fun e => ?_) (fun s o h => ?_) h
  · simp [alt]
  · obtain ⟨m10, t5⟩ := s
    simp only [s_l03Permute_3_s] at h
    show Rn tab ow _ _ ⟨[(1, .ptr 1000 0 0 1), (2, .ptr 1001 0 0 1), (3, .ptr 2001 0 0 1), (4, .ptr 3001 0 0 1), (5, I t4), (6, .ptr 7001 0 0 1), (8, I t5)], [(1000, ⟨25, true, [ar .u64 m10]⟩), (1001, ⟨25, true, [ar .u64 m11]⟩), (2001, ⟨24, true, [ar .u64 m12]⟩), (3001, ⟨25, true, [ar .u64 m13]⟩), (7001, ⟨5, true, [ar .u64 m14]⟩)]⟩ = _
    simp +decide only [b_s_l03Permute_12, go_sem, reduceIte, Nat.reduceAdd]
    rcases brc h with ⟨hb, h⟩ | ⟨hb, h⟩
    · refine br_t hb ?_
      obtain ⟨hb, h⟩ := brg h
      refine br_t hb ?_
      obtain ⟨x6, h1, h⟩ := bd h
      refine bind_some h1 ?_
      obtain ⟨hb, h⟩ := brg h
      refine br_t hb ?_
      obtain ⟨x7, h1, h⟩ := bd h
      refine bind_some h1 ?_
      obtain ⟨hb, h⟩ := brg h
      refine br_t hb ?_
      obtain ⟨x8, h1, h⟩ := bd h
      refine bind_some h1 ?_
      obtain ⟨r_3, h1, h⟩ := bd h
      refine call_aftD (s_l03Turn_c h1) ?_
      simp +decide only [go_sem, reduceIte, Nat.reduceAdd]
      obtain ⟨hb, h⟩ := brg h
      refine br_t hb ?_
      obtain ⟨hb, h⟩ := brg h
      refine br_t hb ?_
      obtain rfl := Option.some.inj h
      first | rfl | (simp only [List.length_set, go_sem]; done)
    · refine br_f hb ?_
      obtain rfl := Option.some.inj h
      first | rfl | (simp only [List.length_set, go_sem]; done)
noncomputable def s_l03Permute_5_s (m21 : List Int) (m22 : List Int) (m23 : List Int) (m24 : List Int) (m25 : List Int) (t8 : Int) (t9 : Int) : (List Int) × Int → Option (((List Int) × Int) ⊕ (((List Int) × Int × Bool)))
  | (m26, t10) =>
    br (decide (t10 < (5 : Int))) (
      br (decide (0 ≤ (IntKind.wrap .i64 (t9 + (IntKind.wrap .i64 ((5 : Int) * t10))))) && decide ((IntKind.wrap .i64 (t9 + (IntKind.wrap .i64 ((5 : Int) * t10)))).toNat < 25)) (
        (m21[(IntKind.wrap .i64 (t9 + (IntKind.wrap .i64 ((5 : Int) * t10)))).toNat]?).bind fun x9 =>
        br (decide (0 ≤ (IntKind.wrap .i64 (t9 + (IntKind.wrap .i64 ((5 : Int) * t10))))) && decide ((IntKind.wrap .i64 (t9 + (IntKind.wrap .i64 ((5 : Int) * t10)))).toNat < 25)) (
          (m24[(IntKind.wrap .i64 (t9 + (IntKind.wrap .i64 ((5 : Int) * t10)))).toNat]?).bind fun x10 =>
          (s_l03Turn x9 x10).bind fun r_4 =>
          br (decide (0 ≤ (IntKind.wrap .i64 (t10 + (IntKind.wrap .i64 ((5 : Int) * ((IntKind.wrap .i64 ((IntKind.wrap .i64 ((2 : Int) * t9)) + (IntKind.wrap .i64 ((3 : Int) * t10)))).tmod (5 : Int))))))) && decide ((IntKind.wrap .i64 (t10 + (IntKind.wrap .i64 ((5 : Int) * ((IntKind.wrap .i64 ((IntKind.wrap .i64 ((2 : Int) * t9)) + (IntKind.wrap .i64 ((3 : Int) * t10)))).tmod (5 : Int)))))).toNat < 25)) (
            br (decide ((IntKind.wrap .i64 (t10 + (IntKind.wrap .i64 ((5 : Int) * ((IntKind.wrap .i64 ((IntKind.wrap .i64 ((2 : Int) * t9)) + (IntKind.wrap .i64 ((3 : Int) * t10)))).tmod (5 : Int)))))).toNat < m26.length)) (
              some (.inl ((m26.set ((IntKind.wrap .i64 (t10 + (IntKind.wrap .i64 ((5 : Int) * ((IntKind.wrap .i64 ((IntKind.wrap .i64 ((2 : Int) * t9)) + (IntKind.wrap .i64 ((3 : Int) * t10)))).tmod (5 : Int)))))).toNat) r_4), (IntKind.wrap .i64 (t10 + (1 : Int)))))) (
              none)) (
            none)) (
          none)) (
        none)) (
      some (.inr (m26, t10, decide (t10 < (5 : Int)))))
theorem s_l03Permute_5_l {m21 : List Int} {m22 : List Int} {m23 : List Int} {m24 : List Int} {m25 : List Int} {t8 : Int} {t9 : Int} {m26 : List Int} {t10 : Int} {e : ((List Int) × Int × Bool)} (h : Loop (s_l03Permute_5_s m21 m22 m23 m24 m25 t8 t9) (m26, t10) = some e) : LoopX tab ow (.close [23021]) b_s_l03Permute_20 ⟨[(1, .ptr 1000 0 0 1), (2, .ptr 1001 0 0 1), (3, .ptr 2001 0 0 1), (4, .ptr 3001 0 0 1), (5, I t8), (9, .ptr 16001 0 0 1), (10, I t9), (11, I t10)], [(1000, ⟨25, true, [ar .u64 m21]⟩), (1001, ⟨25, true, [ar .u64 m22]⟩), (2001, ⟨24, true, [ar .u64 m23]⟩), (3001, ⟨25, true, [ar .u64 m24]⟩), (7001, ⟨5, true, [ar .u64 m25]⟩), (16001, ⟨25, true, [ar .u64 m26]⟩)]⟩ = some ((.exit 8, ⟨[(1, .ptr 1000 0 0 1), (2, .ptr 1001 0 0 1), (3, .ptr 2001 0 0 1), (4, .ptr 3001 0 0 1), (5, I t8), (9, .ptr 16001 0 0 1), (10, I t9), (11, I e.2.1), (77, B e.2.2)], [(1000, ⟨25, true, [ar .u64 m21]⟩), (1001, ⟨25, true, [ar .u64 m22]⟩), (2001, ⟨24, true, [ar .u64 m23]⟩), (3001, ⟨25, true, [ar .u64 m24]⟩), (7001, ⟨5, true, [ar .u64 m25]⟩), (16001, ⟨25, true, [ar .u64 e.1]⟩)]⟩)) := by
  refine loop_runG (S := (List Int) × Int) (eS := fun s => ⟨[(1, .ptr 1000 0 0 1), (2, .ptr 1001 0 0 1), (3, .ptr 2001 0 0 1), (4, .ptr 3001 0 0 1), (5, I t8), (9, .ptr 16001 0 0 1), (10, I t9), (11, I s.2)], [(1000, ⟨25, true, [ar .u64 m21]⟩), (1001, ⟨25, true, [ar .u64 m22]⟩), (2001, ⟨24, true, [ar .u64 m23]⟩), (3001, ⟨25, true, [ar .u64 m24]⟩), (7001, ⟨5, true, [ar .u64 m25]⟩), (16001, ⟨25, true, [ar .u64 s.1]⟩)]⟩) (eE := fun e => (.exit 8, ⟨[(1, .ptr 1000 0 0 1), (2, .ptr 1001 0 0 1), (3, .ptr 2001 0 0 1), (4, .ptr 3001 0 0 1), (5, I t8), (9, .ptr 16001 0 0 1), (10, I t9), (11, I e.2.1), (77, B e.2.2)], [(1000, ⟨25, true, [ar .u64 m21]⟩), (1001, ⟨25, true, [ar .u64 m22]⟩), (2001, ⟨24, true, [ar .u64 m23]⟩), (3001, ⟨25, true, [ar .u64 m24]⟩), (7001, ⟨5, true, [ar .u64 m25]⟩), (16001, ⟨25, true, [ar .u64 e.1]⟩)]⟩)) (fun e => ?_) (fun s o h => ?_) h
  · simp [alt]
  · obtain ⟨m26, t10⟩ := s
    simp only [s_l03Permute_5_s] at h
    show Rn tab ow _ _ ⟨[(1, .ptr 1000 0 0 1), (2, .ptr 1001 0 0 1), (3, .ptr 2001 0 0 1), (4, .ptr 3001 0 0 1), (5, I t8), (9, .ptr 16001 0 0 1), (10, I t9), (11, I t10)], [(1000, ⟨25, true, [ar .u64 m21]⟩), (1001, ⟨25, true, [ar .u64 m22]⟩), (2001, ⟨24, true, [ar .u64 m23]⟩), (3001, ⟨25, true, [ar .u64 m24]⟩), (7001, ⟨5, true, [ar .u64 m25]⟩), (16001, ⟨25, true, [ar .u64 m26]⟩)]⟩ = _
    simp +decide only [b_s_l03Permute_20, go_sem, reduceIte, Nat.reduceAdd]
    rcases brc h with ⟨hb, h⟩ | ⟨hb, h⟩
    · refine br_t hb ?_
      obtain ⟨hb, h⟩ := brg h
      refine br_t hb ?_
      obtain ⟨x9, h1, h⟩ := bd h
      refine bind_some h1 ?_
      obtain ⟨hb, h⟩ := brg h
      refine br_t hb ?_
      obtain ⟨x10, h1, h⟩ := bd h
      refine bind_some h1 ?_
      obtain ⟨r_4, h1, h⟩ := bd h
      refine call_aftD (s_l03Turn_c h1) ?_
      simp +decide only [go_sem, reduceIte, Nat.reduceAdd]
      obtain ⟨hb, h⟩ := brg h
      refine br_t hb ?_
      obtain ⟨hb, h⟩ := brg h
      refine br_t hb ?_
      obtain rfl := Option.some.inj h
      first | rfl | (simp only [List.length_set, go_sem]; done)
    · refine br_f hb ?_
      obtain rfl := Option.some.inj h
      first | rfl | (simp only [List.length_set, go_sem]; done)
noncomputable def s_l03Permute_4_s (m15 : List Int) (m16 : List Int) (m17 : List Int) (m18 : List Int) (m19 : List Int) (t6 : Int) : (List Int) × Int → Option (((List Int) × Int) ⊕ (((List Int) × Int × Bool)))
  | (m20, t7) =>
    br (decide (t7 < (5 : Int))) (
      (Loop (s_l03Permute_5_s m15 m16 m17 m18 m19 t6 t7) (m20, (0 : Int))).bind fun e_3 =>
      some (.inl (e_3.1, (IntKind.wrap .i64 (t7 + (1 : Int)))))) (
      some (.inr (m20, t7, decide (t7 < (5 : Int)))))
theorem s_l03Permute_4_l {m15 : List Int} {m16 : List Int} {m17 : List Int} {m18 : List Int} {m19 : List Int} {t6 : Int} {m20 : List Int} {t7 : Int} {e : ((List Int) × Int × Bool)} (h : Loop (s_l03Permute_4_s m15 m16 m17 m18 m19 t6) (m20, t7) = some e) : LoopX tab ow (.close [23021]) b_s_l03Permute_17 ⟨[(1, .ptr 1000 0 0 1), (2, .ptr 1001 0 0 1), (3, .ptr 2001 0 0 1), (4, .ptr 3001 0 0 1), (5, I t6), (9, .ptr 16001 0 0 1), (10, I t7)], [(1000, ⟨25, true, [ar .u64 m15]⟩), (1001, ⟨25, true, [ar .u64 m16]⟩), (2001, ⟨24, true, [ar .u64 m17]⟩), (3001, ⟨25, true, [ar .u64 m18]⟩), (7001, ⟨5, true, [ar .u64 m19]⟩), (16001, ⟨25, true, [ar .u64 m20]⟩)]⟩ = some ((.exit 6, ⟨[(1, .ptr 1000 0 0 1), (2, .ptr 1001 0 0 1), (3, .ptr 2001 0 0 1), (4, .ptr 3001 0 0 1), (5, I t6), (9, .ptr 16001 0 0 1), (10, I e.2.1), (73, B e.2.2)], [(1000, ⟨25, true, [ar .u64 m15]⟩), (1001, ⟨25, true, [ar .u64 m16]⟩), (2001, ⟨24, true, [ar .u64 m17]⟩), (3001, ⟨25, true, [ar .u64 m18]⟩), (7001, ⟨5, true, [ar .u64 m19]⟩), (16001, ⟨25, true, [ar .u64 e.1]⟩)]⟩)) := by
  refine loop_runG (S := (List Int) × Int) (eS := fun s => ⟨[(1, .ptr 1000 0 0 1), (2, .ptr 1001 0 0 1), (3, .ptr 2001 0 0 1), (4, .ptr 3001 0 0 1), (5, I t6), (9, .ptr 16001 0 0 1), (10, I s.2)], [(1000, ⟨25, true, [ar .u64 m15]⟩), (1001, ⟨25, true, [ar .u64 m16]⟩), (2001, ⟨24, true, [ar .u64 m17]⟩), (3001, ⟨25, true, [ar .u64 m18]⟩), (7001, ⟨5, true, [ar .u64 m19]⟩), (16001, ⟨25, true, [ar .u64 s.1]⟩)]⟩) (eE := fun e => (.exit 6, ⟨[(1, .ptr 1000 0 0 1), (2, .ptr 1001 0 0 1), (3, .ptr 2001 0 0 1), (4, .ptr 3001 0 0 1), (5, I t6), (9, .ptr 16001 0 0 1), (10, I e.2.1), (73, B e.2.2)], [(1000, ⟨25, true, [ar .u64 m15]⟩), (1001, ⟨25, true, [ar .u64 m16]⟩), (2001, ⟨24, true, [ar .u64 m17]⟩), (3001, ⟨25, true, [ar .u64 m18]⟩), (7001, ⟨5, true, [ar .u64 m19]⟩), (16001, ⟨25, true, [ar .u64 e.1]⟩)]⟩)) (fun e => ?_) (fun s o h => ?_) h
  · simp [alt]
  · obtain ⟨m20, t7⟩ := s
    simp only [s_l03Permute_4_s] at h
    show Rn tab ow _ _ ⟨[(1, .ptr 1000 0 0 1), (2, .ptr 1001 0 0 1), (3, .ptr 2001 0 0 1), (4, .ptr 3001 0 0 1), (5, I t6), (9, .ptr 16001 0 0 1), (10, I t7)], [(1000, ⟨25, true, [ar .u64 m15]⟩), (1001, ⟨25, true, [ar .u64 m16]⟩), (2001, ⟨24, true, [ar .u64 m17]⟩), (3001, ⟨25, true, [ar .u64 m18]⟩), (7001, ⟨5, true, [ar .u64 m19]⟩), (16001, ⟨25, true, [ar .u64 m20]⟩)]⟩ = _
    simp +decide only [b_s_l03Permute_17, go_sem, reduceIte, Nat.reduceAdd]
    rcases brc h with ⟨hb, h⟩ | ⟨hb, h⟩
    · refine br_t hb ?_
      obtain ⟨e_3, h1, h⟩ := bd h
      refine goR_of (s_l03Permute_5_l h1) ?_
      simp +decide only [go_sem, reduceIte, Nat.reduceAdd]
      obtain rfl := Option.some.inj h
      first | rfl | (simp only [List.length_set, go_sem]; done)
    · refine br_f hb ?_
      obtain rfl := Option.some.inj h
      first | rfl | (simp only [List.length_set, go_sem]; done)
noncomputable def s_l03Permute_7_s (m34 : List Int) (m35 : List Int) (m36 : List Int) (m37 : List Int) (m38 : List Int) (t13 : Int) (t14 : Int) : (List Int) × Int → Option (((List Int) × Int) ⊕ (((List Int) × Int × Bool)))
  | (m33, t15) =>
    br (decide (t15 < (5 : Int))) (
      br (decide (0 ≤ (IntKind.wrap .i64 (t14 + (IntKind.wrap .i64 ((5 : Int) * t15))))) && decide ((IntKind.wrap .i64 (t14 + (IntKind.wrap .i64 ((5 : Int) * t15)))).toNat < 25)) (
        (m38[(IntKind.wrap .i64 (t14 + (IntKind.wrap .i64 ((5 : Int) * t15)))).toNat]?).bind fun x11 =>
        br (decide (0 ≤ (IntKind.wrap .i64 (((IntKind.wrap .i64 (t14 + (1 : Int))).tmod (5 : Int)) + (IntKind.wrap .i64 ((5 : Int) * t15))))) && decide ((IntKind.wrap .i64 (((IntKind.wrap .i64 (t14 + (1 : Int))).tmod (5 : Int)) + (IntKind.wrap .i64 ((5 : Int) * t15)))).toNat < 25)) (
          (m38[(IntKind.wrap .i64 (((IntKind.wrap .i64 (t14 + (1 : Int))).tmod (5 : Int)) + (IntKind.wrap .i64 ((5 : Int) * t15)))).toNat]?).bind fun x12 =>
          br (decide (0 ≤ (IntKind.wrap .i64 (((IntKind.wrap .i64 (t14 + (2 : Int))).tmod (5 : Int)) + (IntKind.wrap .i64 ((5 : Int) * t15))))) && decide ((IntKind.wrap .i64 (((IntKind.wrap .i64 (t14 + (2 : Int))).tmod (5 : Int)) + (IntKind.wrap .i64 ((5 : Int) * t15)))).toNat < 25)) (
            (m38[(IntKind.wrap .i64 (((IntKind.wrap .i64 (t14 + (2 : Int))).tmod (5 : Int)) + (IntKind.wrap .i64 ((5 : Int) * t15)))).toNat]?).bind fun x13 =>
            br (decide (0 ≤ (IntKind.wrap .i64 (t14 + (IntKind.wrap .i64 ((5 : Int) * t15))))) && decide ((IntKind.wrap .i64 (t14 + (IntKind.wrap .i64 ((5 : Int) * t15)))).toNat < 25)) (
              br (decide ((IntKind.wrap .i64 (t14 + (IntKind.wrap .i64 ((5 : Int) * t15)))).toNat < m33.length)) (
                some (.inl ((m33.set ((IntKind.wrap .i64 (t14 + (IntKind.wrap .i64 ((5 : Int) * t15)))).toNat) (xor64 .u64 x11 (and64 .u64 (not64 .u64 x12) x13))), (IntKind.wrap .i64 (t15 + (1 : Int)))))) (
                none)) (
              none)) (
            none)) (
          none)) (
        none)) (
      some (.inr (m33, t15, decide (t15 < (5 : Int)))))
theorem s_l03Permute_7_l {m34 : List Int} {m35 : List Int} {m36 : List Int} {m37 : List Int} {m38 : List Int} {t13 : Int} {t14 : Int} {m33 : List Int} {t15 : Int} {e : ((List Int) × Int × Bool)} (h : Loop (s_l03Permute_7_s m34 m35 m36 m37 m38 t13 t14) (m33, t15) = some e) : LoopX tab ow (.close []) b_s_l03Permute_27 ⟨[(1, .ptr 1000 0 0 1), (2, .ptr 1001 0 0 1), (3, .ptr 2001 0 0 1), (4, .ptr 3001 0 0 1), (5, I t13), (9, .ptr 16001 0 0 1), (12, I t14), (13, I t15)], [(1000, ⟨25, true, [ar .u64 m33]⟩), (1001, ⟨25, true, [ar .u64 m34]⟩), (2001, ⟨24, true, [ar .u64 m35]⟩), (3001, ⟨25, true, [ar .u64 m36]⟩), (7001, ⟨5, true, [ar .u64 m37]⟩), (16001, ⟨25, true, [ar .u64 m38]⟩)]⟩ = some ((.exit 12, ⟨[(1, .ptr 1000 0 0 1), (2, .ptr 1001 0 0 1), (3, .ptr 2001 0 0 1), (4, .ptr 3001 0 0 1), (5, I t13), (9, .ptr 16001 0 0 1), (12, I t14), (13, I e.2.1), (108, B e.2.2)], [(1000, ⟨25, true, [ar .u64 e.1]⟩), (1001, ⟨25, true, [ar .u64 m34]⟩), (2001, ⟨24, true, [ar .u64 m35]⟩), (3001, ⟨25, true, [ar .u64 m36]⟩), (7001, ⟨5, true, [ar .u64 m37]⟩), (16001, ⟨25, true, [ar .u64 m38]⟩)]⟩)) := by
  refine loop_runG (S := (List Int) × Int) (eS := fun s => ⟨[(1, .ptr 1000 0 0 1), (2, .ptr 1001 0 0 1), (3, .ptr 2001 0 0 1), (4, .ptr 3001 0 0 1), (5, I t13), (9, .ptr 16001 0 0 1), (12, I t14), (13, I s.2)], [(1000, ⟨25, true, [ar .u64 s.1]⟩), (1001, ⟨25, true, [ar .u64 m34]⟩), (2001, ⟨24, true, [ar .u64 m35]⟩), (3001, ⟨25, true, [ar .u64 m36]⟩), (7001, ⟨5, true, [ar .u64 m37]⟩), (16001, ⟨25, true, [ar .u64 m38]⟩)]⟩) (eE := fun e => (.exit 12, ⟨[(1, .ptr 1000 0 0 1), (2, .ptr 1001 0 0 1), (3, .ptr 2001 0 0 1), (4, .ptr 3001 0 0 1), (5, I t13), (9, .ptr 16001 0 0 1), (12, I t14), (13, I e.2.1), (108, B e.2.2)], [(1000, ⟨25, true, [ar .u64 e.1]⟩), (1001, ⟨25, true, [ar .u64 m34]⟩), (2001, ⟨24, true, [ar .u64 m35]⟩), (3001, ⟨25, true, [ar .u64 m36]⟩), (7001, ⟨5, true, [ar .u64 m37]⟩), (16001, ⟨25, true, [ar .u64 m38]⟩)]⟩)) (fun e => ?_) (fun s o h => ?_) h
  · simp [alt]
  · obtain ⟨m33, t15⟩ := s
    simp only [s_l03Permute_7_s] at h
    show Rn tab ow _ _ ⟨[(1, .ptr 1000 0 0 1), (2, .ptr 1001 0 0 1), (3, .ptr 2001 0 0 1), (4, .ptr 3001 0 0 1), (5, I t13), (9, .ptr 16001 0 0 1), (12, I t14), (13, I t15)], [(1000, ⟨25, true, [ar .u64 m33]⟩), (1001, ⟨25, true, [ar .u64 m34]⟩), (2001, ⟨24, true, [ar .u64 m35]⟩), (3001, ⟨25, true, [ar .u64 m36]⟩), (7001, ⟨5, true, [ar .u64 m37]⟩), (16001, ⟨25, true, [ar .u64 m38]⟩)]⟩ = _
    simp +decide only [b_s_l03Permute_27, go_sem, reduceIte, Nat.reduceAdd]
    rcases brc h with ⟨hb, h⟩ | ⟨hb, h⟩
    · refine br_t hb ?_
      obtain ⟨hb, h⟩ := brg h
      refine br_t hb ?_
      obtain ⟨x11, h1, h⟩ := bd h
      refine bind_some h1 ?_
      obtain ⟨hb, h⟩ := brg h
      refine br_t hb ?_
      obtain ⟨x12, h1, h⟩ := bd h
      refine bind_some h1 ?_
      obtain ⟨hb, h⟩ := brg h
      refine br_t hb ?_
      obtain ⟨x13, h1, h⟩ := bd h
      refine bind_some h1 ?_
      obtain ⟨hb, h⟩ := brg h
      refine br_t hb ?_
      obtain ⟨hb, h⟩ := brg h
      refine br_t hb ?_
      obtain rfl := Option.some.inj h
      first | rfl | (simp only [List.length_set, go_sem]; done)
    · refine br_f hb ?_
      obtain rfl := Option.some.inj h
      first | rfl | (simp only [List.length_set, go_sem]; done)
noncomputable def s_l03Permute_6_s (m28 : List Int) (m29 : List Int) (m30 : List Int) (m31 : List Int) (m32 : List Int) (t11 : Int) : (List Int) × Int → Option (((List Int) × Int) ⊕ (((List Int) × Int × Bool)))
  | (m27, t12) =>
    br (decide (t12 < (5 : Int))) (
      (Loop (s_l03Permute_7_s m28 m29 m30 m31 m32 t11 t12) (m27, (0 : Int))).bind fun e_5 =>
      some (.inl (e_5.1, (IntKind.wrap .i64 (t12 + (1 : Int)))))) (
      some (.inr (m27, t12, decide (t12 < (5 : Int)))))
theorem s_l03Permute_6_l {m28 : List Int} {m29 : List Int} {m30 : List Int} {m31 : List Int} {m32 : List Int} {t11 : Int} {m27 : List Int} {t12 : Int} {e : ((List Int) × Int × Bool)} (h : Loop (s_l03Permute_6_s m28 m29 m30 m31 m32 t11) (m27, t12) = some e) : LoopX tab ow (.close []) b_s_l03Permute_24 ⟨[(1, .ptr 1000 0 0 1), (2, .ptr 1001 0 0 1), (3, .ptr 2001 0 0 1), (4, .ptr 3001 0 0 1), (5, I t11), (9, .ptr 16001 0 0 1), (12, I t12)], [(1000, ⟨25, true, [ar .u64 m27]⟩), (1001, ⟨25, true, [ar .u64 m28]⟩), (2001, ⟨24, true, [ar .u64 m29]⟩), (3001, ⟨25, true, [ar .u64 m30]⟩), (7001, ⟨5, true, [ar .u64 m31]⟩), (16001, ⟨25, true, [ar .u64 m32]⟩)]⟩ = some ((.exit 10, ⟨[(1, .ptr 1000 0 0 1), (2, .ptr 1001 0 0 1), (3, .ptr 2001 0 0 1), (4, .ptr 3001 0 0 1), (5, I t11), (9, .ptr 16001 0 0 1), (12, I e.2.1), (104, B e.2.2)], [(1000, ⟨25, true, [ar .u64 e.1]⟩), (1001, ⟨25, true, [ar .u64 m28]⟩), (2001, ⟨24, true, [ar .u64 m29]⟩), (3001, ⟨25, true, [ar .u64 m30]⟩), (7001, ⟨5, true, [ar .u64 m31]⟩), (16001, ⟨25, true, [ar .u64 m32]⟩)]⟩)) := by
  refine loop_runG (S := (List Int) × Int) (eS := fun s => ⟨[(1, .ptr 1000 0 0 1), (2, .ptr 1001 0 0 1), (3, .ptr 2001 0 0 1), (4, .ptr 3001 0 0 1), (5, I t11), (9, .ptr 16001 0 0 1), (12, I s.2)], [(1000, ⟨25, true, [ar .u64 s.1]⟩), (1001, ⟨25, true, [ar .u64 m28]⟩), (2001, ⟨24, true, [ar .u64 m29]⟩), (3001, ⟨25, true, [ar .u64 m30]⟩), (7001, ⟨5, true, [ar .u64 m31]⟩), (16001, ⟨25, true, [ar .u64 m32]⟩)]⟩) (eE := fun e => (.exit 10, ⟨[(1, .ptr 1000 0 0 1), (2, .ptr 1001 0 0 1), (3, .ptr 2001 0 0 1), (4, .ptr 3001 0 0 1), (5, I t11), (9, .ptr 16001 0 0 1), (12, I e.2.1), (104, B e.2.2)], [(1000, ⟨25, true, [ar .u64 e.1]⟩), (1001, ⟨25, true, [ar .u64 m28]⟩), (2001, ⟨24, true, [ar .u64 m29]⟩), (3001, ⟨25, true, [ar .u64 m30]⟩), (7001, ⟨5, true, [ar .u64 m31]⟩), (16001, ⟨25, true, [ar .u64 m32]⟩)]⟩)) (fun e => ?_) (fun s o h => ?_) h
  · simp [alt]
  · obtain ⟨m27, t12⟩ := s
    simp only [s_l03Permute_6_s] at h
    show Rn tab ow _ _ ⟨[(1, .ptr 1000 0 0 1), (2, .ptr 1001 0 0 1), (3, .ptr 2001 0 0 1), (4, .ptr 3001 0 0 1), (5, I t11), (9, .ptr 16001 0 0 1), (12, I t12)], [(1000, ⟨25, true, [ar .u64 m27]⟩), (1001, ⟨25, true, [ar .u64 m28]⟩), (2001, ⟨24, true, [ar .u64 m29]⟩), (3001, ⟨25, true, [ar .u64 m30]⟩), (7001, ⟨5, true, [ar .u64 m31]⟩), (16001, ⟨25, true, [ar .u64 m32]⟩)]⟩ = _
    simp +decide only [b_s_l03Permute_24, go_sem, reduceIte, Nat.reduceAdd]
    rcases brc h with ⟨hb, h⟩ | ⟨hb, h⟩
    · refine br_t hb ?_
      obtain ⟨e_5, h1, h⟩ := bd h
      refine goR_of (s_l03Permute_7_l h1) ?_
      simp +decide only [go_sem, reduceIte, Nat.reduceAdd]
      obtain rfl := Option.some.inj h
      first | rfl | (simp only [List.length_set, go_sem]; done)
    · refine br_f hb ?_
      obtain rfl := Option.some.inj h
      first | rfl | (simp only [List.length_set, go_sem]; done)
noncomputable def s_l03Permute_1_s (m2 : List Int) (m3 : List Int) (m4 : List Int) : (List Int) × Int → Option (((List Int) × Int) ⊕ (((List Int) × Int × Bool)))
  | (m, t) =>
    br (decide (t < (24 : Int))) (
      (Loop (s_l03Permute_2_s m m2 m3 m4 t) ((nZ 5), (0 : Int))).bind fun e_ =>
      (Loop (s_l03Permute_3_s m2 m3 m4 e_.1 t) (m, (0 : Int))).bind fun e_2 =>
      (Loop (s_l03Permute_4_s e_2.1 m2 m3 m4 e_.1 t) ((nZ 25), (0 : Int))).bind fun e_4 =>
      (Loop (s_l03Permute_6_s m2 m3 m4 e_.1 e_4.1 t) (e_2.1, (0 : Int))).bind fun e_6 =>
      (e_6.1[0]?).bind fun x14 =>
      br (decide (0 ≤ t) && decide (t.toNat < 24)) (
        (m3[t.toNat]?).bind fun x15 =>
        br (decide (0 < e_6.1.length)) (
          some (.inl ((e_6.1.set 0 (xor64 .u64 x14 x15)), (IntKind.wrap .i64 (t + (1 : Int)))))) (
          none)) (
        none)) (
      some (.inr (m, t, decide (t < (24 : Int)))))
theorem s_l03Permute_1_l {m2 : List Int} {m3 : List Int} {m4 : List Int} {m : List Int} {t : Int} {e : ((List Int) × Int × Bool)} (h : Loop (s_l03Permute_1_s m2 m3 m4) (m, t) = some e) : LoopX tab ow (.close [7001, 15013, 16001, 23021]) b_s_l03Permute_4 ⟨[(1, .ptr 1000 0 0 1), (2, .ptr 1001 0 0 1), (3, .ptr 2001 0 0 1), (4, .ptr 3001 0 0 1), (5, I t)], [(1000, ⟨25, true, [ar .u64 m]⟩), (1001, ⟨25, true, [ar .u64 m2]⟩), (2001, ⟨24, true, [ar .u64 m3]⟩), (3001, ⟨25, true, [ar .u64 m4]⟩)]⟩ = some ((.exit 0, ⟨[(1, .ptr 1000 0 0 1), (2, .ptr 1001 0 0 1), (3, .ptr 2001 0 0 1), (4, .ptr 3001 0 0 1), (5, I e.2.1), (17, B e.2.2)], [(1000, ⟨25, true, [ar .u64 e.1]⟩), (1001, ⟨25, true, [ar .u64 m2]⟩), (2001, ⟨24, true, [ar .u64 m3]⟩), (3001, ⟨25, true, [ar .u64 m4]⟩)]⟩)) := by
  refine loop_runG (S := (List Int) × Int) (eS := fun s => ⟨[(1, .ptr 1000 0 0 1), (2, .ptr 1001 0 0 1), (3, .ptr 2001 0 0 1), (4, .ptr 3001 0 0 1), (5, I s.2)], [(1000, ⟨25, true, [ar .u64 s.1]⟩), (1001, ⟨25, true, [ar .u64 m2]⟩), (2001, ⟨24, true, [ar .u64 m3]⟩), (3001, ⟨25, true, [ar .u64 m4]⟩)]⟩) (eE := fun e => (.exit 0, ⟨[(1, .ptr 1000 0 0 1), (2, .ptr 1001 0 0 1), (3, .ptr 2001 0 0 1), (4, .ptr 3001 0 0 1), (5, I e.2.1), (17, B e.2.2)], [(1000, ⟨25, true, [ar .u64 e.1]⟩), (1001, ⟨25, true, [ar .u64 m2]⟩), (2001, ⟨24, true, [ar .u64 m3]⟩), (3001, ⟨25, true, [ar .u64 m4]⟩)]⟩)) (fun e => ?_) (fun s o h => ?_) h
  · simp [alt]
  · obtain ⟨m, t⟩ := s
    simp only [s_l03Permute_1_s] at h
    show Rn tab ow _ _ ⟨[(1, .ptr 1000 0 0 1), (2, .ptr 1001 0 0 1), (3, .ptr 2001 0 0 1), (4, .ptr 3001 0 0 1), (5, I t)], [(1000, ⟨25, true, [ar .u64 m]⟩), (1001, ⟨25, true, [ar .u64 m2]⟩), (2001, ⟨24, true, [ar .u64 m3]⟩), (3001, ⟨25, true, [ar .u64 m4]⟩)]⟩ = _
    simp +decide only [b_s_l03Permute_4, go_sem, reduceIte, Nat.reduceAdd]
    rcases brc h with ⟨hb, h⟩ | ⟨hb, h⟩
    · refine br_t hb ?_
      obtain ⟨e_, h1, h⟩ := bd h
      refine goR_of (s_l03Permute_2_l h1) ?_
      simp +decide only [go_sem, reduceIte, Nat.reduceAdd]
      obtain ⟨e_2, h1, h⟩ := bd h
      refine goR_of (s_l03Permute_3_l h1) ?_
      simp +decide only [go_sem, reduceIte, Nat.reduceAdd]
      obtain ⟨e_4, h1, h⟩ := bd h
      refine goR_of (s_l03Permute_4_l h1) ?_
      simp +decide only [go_sem, reduceIte, Nat.reduceAdd]
      obtain ⟨e_6, h1, h⟩ := bd h
      refine goR_of (s_l03Permute_6_l h1) ?_
      simp +decide only [go_sem, reduceIte, Nat.reduceAdd]
      obtain ⟨x14, h1, h⟩ := bd h
      refine bind_some h1 ?_
      obtain ⟨hb, h⟩ := brg h
      refine br_t hb ?_
      obtain ⟨x15, h1, h⟩ := bd h
      refine bind_some h1 ?_
      obtain ⟨hb, h⟩ := brg h
      refine br_t hb ?_
      obtain rfl := Option.some.inj h
      first | rfl | (simp only [List.length_set, go_sem]; done)
    · refine br_f hb ?_
      obtain rfl := Option.some.inj h
      first | rfl | (simp only [List.length_set, go_sem]; done)
noncomputable def s_l03Permute (ListtoArray : (List Int)) : Option ((List Int)) :=
  br (decide (ListtoArray.length = 25)) (
    (s_l03Rounds).bind fun r_ =>
    br (decide (r_.length = 24)) (
      (s_l03Shifts).bind fun r_2 =>
      br (decide (r_2.length = 25)) (
        (Loop (s_l03Permute_1_s (nZ 25) r_ r_2) (ListtoArray, (0 : Int))).bind fun e_7 =>
        br (decide (e_7.1.length = 25)) (
          br (decide (e_7.1.length = 25)) (
            br (decide (e_7.1.length = 25)) (
              some e_7.1) (
              none)) (
            none)) (
          none)) (
        none)) (
      none)) (
    none)
theorem s_l03Permute_c {ListtoArray : (List Int)} {r : (List Int)} (h : s_l03Permute ListtoArray = some r) : Call tab ow 206 [.agg (ar .u64 ListtoArray)] [] = some (.agg (ar .u64 r), []) := by
  rw [run_s_l03Permute]
  unfold s_l03Permute at h
  simp +decide only [b_s_l03Permute, go_sem, reduceIte, Nat.reduceAdd]
  obtain ⟨hb, h⟩ := brg h
  refine br_t hb ?_
  obtain ⟨r_, h1, h⟩ := bd h
  refine call_aft (s_l03Rounds_c h1) ?_
  simp +decide only [go_sem, reduceIte, Nat.reduceAdd]
  obtain ⟨hb, h⟩ := brg h
  refine br_t hb ?_
  obtain ⟨r_2, h1, h⟩ := bd h
  refine call_aft (s_l03Shifts_c h1) ?_
  simp +decide only [go_sem, reduceIte, Nat.reduceAdd]
  obtain ⟨hb, h⟩ := brg h
  refine br_t hb ?_
  obtain ⟨e_7, h1, h⟩ := bd h
  refine goR_of (s_l03Permute_1_l h1) ?_
  simp +decide only [go_sem, reduceIte, Nat.reduceAdd]
  obtain ⟨hb, h⟩ := brg h
  refine br_t hb ?_
  obtain ⟨hb, h⟩ := brg h
  refine br_t hb ?_
  obtain ⟨hb, h⟩ := brg h
  refine br_t hb ?_
  obtain rfl := Option.some.inj h
  first | rfl | (simp only [List.length_set, go_sem]; done)
end Go.AI.Fn

set_option linter.unusedVariables false
set_option linter.unusedSimpArgs false
set_option maxRecDepth 100000
set_option maxHeartbeats 1000000
namespace Go.AI.Fn
section
theorem s_l03Text_k0 : mkR 2000 [] = rws eU8 [] := rfl
attribute [local go_sem] s_l03Text_k0
theorem s_l03Text_k1 : mkR 6011 [] = rws eU8 [] := rfl
attribute [local go_sem] s_l03Text_k1
noncomputable def s_l03Text_1_s (m : List Int) (n2 : Int) : (List UInt8) × Int → Option (((List UInt8) × Int) ⊕ (((List UInt8) × Int × Bool)))
  | (l, i) =>
    br (decide (i < n2)) (
      br (decide (0 ≤ (IntKind.wrap .i64 (i.tdiv (8 : Int)))) && decide ((IntKind.wrap .i64 (i.tdiv (8 : Int))).toNat < 25)) (
        (m[(IntKind.wrap .i64 (i.tdiv (8 : Int))).toNat]?).bind fun x =>
        br (decide (0 ≤ (IntKind.wrap .u64 (IntKind.wrap .i64 ((8 : Int) * (i.tmod (8 : Int))))))) (
          br (fits ((l ++ ([(UInt8.ofInt (shr64 .u64 x (IntKind.wrap .u64 (IntKind.wrap .i64 ((8 : Int) * (i.tmod (8 : Int)))))))] : List UInt8)).length) 1) (
            some (.inl ((l ++ ([(UInt8.ofInt (shr64 .u64 x (IntKind.wrap .u64 (IntKind.wrap .i64 ((8 : Int) * (i.tmod (8 : Int)))))))] : List UInt8)), (IntKind.wrap .i64 (i + (1 : Int)))))) (
            none)) (
          none)) (
        none)) (
      some (.inr (l, i, decide (i < n2))))
theorem s_l03Text_1_l {m : List Int} {n2 : Int} {l : List UInt8} {i : Int} {e : ((List UInt8) × Int × Bool)} (h : Loop (s_l03Text_1_s m n2) (l, i) = some e) : LoopX tab ow (.close [6011, 6012]) b_s_l03Text_3 ⟨[(1, I n2), (2, .ptr 1000 0 0 1), (5, .sl 2000 0 l.length), (6, I i)], [(1000, ⟨25, true, [ar .u64 m]⟩), (2000, ⟨1, false, rws eU8 l⟩)]⟩ = some ((.exit 0, ⟨[(1, I n2), (2, .ptr 1000 0 0 1), (5, .sl 2000 0 e.1.length), (6, I e.2.1), (10, B e.2.2)], [(1000, ⟨25, true, [ar .u64 m]⟩), (2000, ⟨1, false, rws eU8 e.1⟩)]⟩)) := by
  refine loop_runG (S := (List UInt8) × Int) (eS := fun s => ⟨[(1, I n2), (2, .ptr 1000 0 0 1), (5, .sl 2000 0 s.1.length), (6, I s.2)], [(1000, ⟨25, true, [ar .u64 m]⟩), (2000, ⟨1, false, rws eU8 s.1⟩)]⟩) (eE := fun e => (.exit 0, ⟨[(1, I n2), (2, .ptr 1000 0 0 1), (5, .sl 2000 0 e.1.length), (6, I e.2.1), (10, B e.2.2)], [(1000, ⟨25, true, [ar .u64 m]⟩), (2000, ⟨1, false, rws eU8 e.1⟩)]⟩)) (fun e => ?_) (fun s o h => ?_) h
  · simp [alt]
  · obtain ⟨l, i⟩ := s
    simp only [s_l03Text_1_s] at h
    show Rn tab ow _ _ ⟨[(1, I n2), (2, .ptr 1000 0 0 1), (5, .sl 2000 0 l.length), (6, I i)], [(1000, ⟨25, true, [ar .u64 m]⟩), (2000, ⟨1, false, rws eU8 l⟩)]⟩ = _
    simp +decide only [b_s_l03Text_3, go_sem, reduceIte, Nat.reduceAdd]
    rcases brc h with ⟨hb, h⟩ | ⟨hb, h⟩
    · refine br_t hb ?_
      obtain ⟨hb, h⟩ := brg h
      refine br_t hb ?_
      obtain ⟨x, h1, h⟩ := bd h
      refine bind_some h1 ?_
      obtain ⟨hb, h⟩ := brg h
      refine br_t hb ?_
      obtain ⟨hb, h⟩ := brg h
      refine br_t hb ?_
      obtain rfl := Option.some.inj h
      first | rfl | (simp only [List.length_set, go_sem]; done)
    · refine br_f hb ?_
      obtain rfl := Option.some.inj h
      first | rfl | (simp only [List.length_set, go_sem]; done)
noncomputable def s_l03Text (a : (List Int)) (n : Int) : Option ((List UInt8)) :=
  br (decide (a.length = 25)) (
    (Loop (s_l03Text_1_s a n) (([] : List UInt8), (0 : Int))).bind fun e_ =>
    some e_.1) (
    none)
theorem s_l03Text_c {a : (List Int)} {n : Int} {r : (List UInt8)} (h : s_l03Text a n = some r) : Call tab ow 207 [.agg (ar .u64 a), I n] [] = some (S r, []) := by
  rw [run_s_l03Text]
  unfold s_l03Text at h
  simp +decide only [b_s_l03Text, go_sem, reduceIte, Nat.reduceAdd]
  obtain ⟨hb, h⟩ := brg h
  refine br_t hb ?_
  obtain ⟨e_, h1, h⟩ := bd h
  refine goR_of (s_l03Text_1_l h1) ?_
  simp +decide only [go_sem, reduceIte, Nat.reduceAdd]
  obtain rfl := Option.some.inj h
  first | rfl | (simp only [List.length_set, go_sem]; done)
end
section
theorem s_l03Hash_k0 : mkR 2002 [] = rws eU8 [] := rfl
attribute [local go_sem] s_l03Hash_k0
theorem s_l03Hash_k1 : mkR 4001 [] = rws eU8 [] := rfl
attribute [local go_sem] s_l03Hash_k1
noncomputable def s_l03Hash_1_s (l2 : List UInt8) : (List UInt8) → Option (((List UInt8)) ⊕ (((List UInt8) × Bool)))
  | l =>
    br ((((l.length : Nat) : Int).tmod (136 : Int)) != (0 : Int)) (
      br (fits ((l ++ ([(0 : UInt8)] : List UInt8)).length) 1) (
        some (.inl (l ++ ([(0 : UInt8)] : List UInt8)))) (
        none)) (
      some (.inr (l, ((((l.length : Nat) : Int).tmod (136 : Int)) != (0 : Int)))))
theorem s_l03Hash_1_l {l2 : List UInt8} {l : List UInt8} {e : ((List UInt8) × Bool)} (h : Loop (s_l03Hash_1_s l2) l = some e) : LoopX tab ow (.close [4001, 4002]) b_s_l03Hash_2 ⟨[(3, .sl 2001 0 l.length)], [(2001, ⟨1, false, rws eU8 l⟩), (2002, ⟨1, false, rws eU8 l2⟩)]⟩ = some ((.exit 0, ⟨[(3, .sl 2001 0 e.1.length), (15, B e.2)], [(2001, ⟨1, false, rws eU8 e.1⟩), (2002, ⟨1, false, rws eU8 l2⟩)]⟩)) := by
  refine loop_runG (S := (List UInt8)) (eS := fun s => ⟨[(3, .sl 2001 0 s.length)], [(2001, ⟨1, false, rws eU8 s⟩), (2002, ⟨1, false, rws eU8 l2⟩)]⟩) (eE := fun e => (.exit 0, ⟨[(3, .sl 2001 0 e.1.length), (15, B e.2)], [(2001, ⟨1, false, rws eU8 e.1⟩), (2002, ⟨1, false, rws eU8 l2⟩)]⟩)) (fun e => ?_) (fun l o h => ?_) h
  · simp [alt]
  · skip
    simp only [s_l03Hash_1_s] at h
    show Rn tab ow _ _ ⟨[(3, .sl 2001 0 l.length)], [(2001, ⟨1, false, rws eU8 l⟩), (2002, ⟨1, false, rws eU8 l2⟩)]⟩ = _
    simp +decide only [b_s_l03Hash_2, go_sem, reduceIte, Nat.reduceAdd]
    rcases brc h with ⟨hb, h⟩ | ⟨hb, h⟩
    · refine br_t hb ?_
      obtain ⟨hb, h⟩ := brg h
      refine br_t hb ?_
      obtain rfl := Option.some.inj h
      first | rfl | (simp only [List.length_set, go_sem]; done)
    · refine br_f hb ?_
      obtain rfl := Option.some.inj h
      first | rfl | (simp only [List.length_set, go_sem]; done)
noncomputable def s_l03Hash_3_s (l4 : List UInt8) (m4 : List Int) (m5 : List UInt8) (at_2 : Int) : (List Int) × Int → Option (((List Int) × Int) ⊕ (((List Int) × Int × Bool)))
  | (m3, i) =>
    br (decide (i < (25 : Int))) (
      br (decide (0 ≤ i) && decide (i.toNat < 25)) (
        (m3[i.toNat]?).bind fun x3 =>
        br (decide (0 ≤ i) && decide (i.toNat < 25)) (
          (m4[i.toNat]?).bind fun x4 =>
          br (decide (0 ≤ i) && decide (i.toNat < 25)) (
            br (decide (i.toNat < m3.length)) (
              some (.inl ((m3.set i.toNat (xor64 .u64 x3 x4)), (IntKind.wrap .i64 (i + (1 : Int)))))) (
              none)) (
            none)) (
          none)) (
        none)) (
      some (.inr (m3, i, decide (i < (25 : Int)))))
theorem s_l03Hash_3_l {l4 : List UInt8} {m4 : List Int} {m5 : List UInt8} {at_2 : Int} {m3 : List Int} {i : Int} {e : ((List Int) × Int × Bool)} (h : Loop (s_l03Hash_3_s l4 m4 m5 at_2) (m3, i) = some e) : LoopX tab ow (.close []) b_s_l03Hash_11 ⟨[(3, sl eU8 m5), (4, .ptr 6001 0 0 1), (5, I at_2), (6, .ptr 10007 0 0 1), (7, I i)], [(2002, ⟨1, false, rws eU8 l4⟩), (6001, ⟨25, true, [ar .u64 m3]⟩), (10007, ⟨25, true, [ar .u64 m4]⟩)]⟩ = some ((.exit 4, ⟨[(3, sl eU8 m5), (4, .ptr 6001 0 0 1), (5, I at_2), (6, .ptr 10007 0 0 1), (7, I e.2.1), (42, B e.2.2)], [(2002, ⟨1, false, rws eU8 l4⟩), (6001, ⟨25, true, [ar .u64 e.1]⟩), (10007, ⟨25, true, [ar .u64 m4]⟩)]⟩)) := by
  refine loop_runG (S := (List Int) × Int) (eS := fun s => ⟨[(3, sl eU8 m5), (4, .ptr 6001 0 0 1), (5, I at_2), (6, .ptr 10007 0 0 1), (7, I s.2)], [(2002, ⟨1, false, rws eU8 l4⟩), (6001, ⟨25, true, [ar .u64 s.1]⟩), (10007, ⟨25, true, [ar .u64 m4]⟩)]⟩) (eE := fun e => (.exit 4, ⟨[(3, sl eU8 m5), (4, .ptr 6001 0 0 1), (5, I at_2), (6, .ptr 10007 0 0 1), (7, I e.2.1), (42, B e.2.2)], [(2002, ⟨1, false, rws eU8 l4⟩), (6001, ⟨25, true, [ar .u64 e.1]⟩), (10007, ⟨25, true, [ar .u64 m4]⟩)]⟩)) (fun e => ?_) (fun s o h => ?_) h
  · simp [alt]
  · obtain ⟨m3, i⟩ := s
    simp only [s_l03Hash_3_s] at h
    show Rn tab ow _ _ ⟨[(3, sl eU8 m5), (4, .ptr 6001 0 0 1), (5, I at_2), (6, .ptr 10007 0 0 1), (7, I i)], [(2002, ⟨1, false, rws eU8 l4⟩), (6001, ⟨25, true, [ar .u64 m3]⟩), (10007, ⟨25, true, [ar .u64 m4]⟩)]⟩ = _
    simp +decide only [b_s_l03Hash_11, go_sem, reduceIte, Nat.reduceAdd]
    rcases brc h with ⟨hb, h⟩ | ⟨hb, h⟩
    · refine br_t hb ?_
      obtain ⟨hb, h⟩ := brg h
      refine br_t hb ?_
      obtain ⟨x3, h1, h⟩ := bd h
      refine bind_some h1 ?_
      obtain ⟨hb, h⟩ := brg h
      refine br_t hb ?_
      obtain ⟨x4, h1, h⟩ := bd h
      refine bind_some h1 ?_
      obtain ⟨hb, h⟩ := brg h
      refine br_t hb ?_
      obtain ⟨hb, h⟩ := brg h
      refine br_t hb ?_
      obtain rfl := Option.some.inj h
      first | rfl | (simp only [List.length_set, go_sem]; done)
    · refine br_f hb ?_
      obtain rfl := Option.some.inj h
      first | rfl | (simp only [List.length_set, go_sem]; done)
noncomputable def s_l03Hash_2_s (l3 : List UInt8) (m2 : List UInt8) : (List Int) × Int → Option (((List Int) × Int) ⊕ (((List Int) × Int × Bool)))
  | (m, at_) =>
    br (decide (at_ < ((m2.length : Nat) : Int))) (
      (subL m2 at_ (IntKind.wrap .i64 (at_ + (136 : Int)))).bind fun y =>
      (s_l03Lanes y).bind fun r_ =>
      br (decide (r_.length = 25)) (
        (Loop (s_l03Hash_3_s l3 r_ m2 at_) (m, (0 : Int))).bind fun e_2 =>
        br (decide (e_2.1.length = 25)) (
          (s_l03Permute e_2.1).bind fun r_2 =>
          br (decide (r_2.length = 25) && decide (e_2.1.length = 25)) (
            some (.inl (r_2, (IntKind.wrap .i64 (at_ + (136 : Int)))))) (
            none)) (
          none)) (
        none)) (
      some (.inr (m, at_, decide (at_ < ((m2.length : Nat) : Int)))))
theorem s_l03Hash_2_l {l3 : List UInt8} {m2 : List UInt8} {m : List Int} {at_ : Int} {e : ((List Int) × Int × Bool)} (h : Loop (s_l03Hash_2_s l3 m2) (m, at_) = some e) : LoopX tab ow (.close [10006, 10007, 15001, 2001]) b_s_l03Hash_7 ⟨[(3, sl eU8 m2), (4, .ptr 6001 0 0 1), (5, I at_)], [(2002, ⟨1, false, rws eU8 l3⟩), (6001, ⟨25, true, [ar .u64 m]⟩)]⟩ = some ((.exit 2, ⟨[(3, sl eU8 m2), (4, .ptr 6001 0 0 1), (5, I e.2.1), (31, B e.2.2)], [(2002, ⟨1, false, rws eU8 l3⟩), (6001, ⟨25, true, [ar .u64 e.1]⟩)]⟩)) := by
  refine loop_runG (S := (List Int) × Int) (eS := fun s => ⟨[(3, sl eU8 m2), (4, .ptr 6001 0 0 1), (5, I s.2)], [(2002, ⟨1, false, rws eU8 l3⟩), (6001, ⟨25, true, [ar .u64 s.1]⟩)]⟩) (eE := fun e => (.exit 2, ⟨[(3, sl eU8 m2), (4, .ptr 6001 0 0 1), (5, I e.2.1), (31, B e.2.2)], [(2002, ⟨1, false, rws eU8 l3⟩), (6001, ⟨25, true, [ar .u64 e.1]⟩)]⟩)) (fun e => ?_) (fun s o h => ?_) h
  · simp [alt]
  · obtain ⟨m, at_⟩ := s
    simp only [s_l03Hash_2_s] at h
    show Rn tab ow _ _ ⟨[(3, sl eU8 m2), (4, .ptr 6001 0 0 1), (5, I at_)], [(2002, ⟨1, false, rws eU8 l3⟩), (6001, ⟨25, true, [ar .u64 m]⟩)]⟩ = _
    simp +decide only [b_s_l03Hash_7, go_sem, reduceIte, Nat.reduceAdd]
    rcases brc h with ⟨hb, h⟩ | ⟨hb, h⟩
    · refine br_t hb ?_
      obtain ⟨y, h1, h⟩ := bd h
      refine bind_some h1 ?_
      obtain ⟨r_, h1, h⟩ := bd h
      refine call_aft (s_l03Lanes_c h1) ?_
      simp +decide only [go_sem, reduceIte, Nat.reduceAdd]
      obtain ⟨hb, h⟩ := brg h
      refine br_t hb ?_
      obtain ⟨e_2, h1, h⟩ := bd h
      refine goR_of (s_l03Hash_3_l h1) ?_
      simp +decide only [go_sem, reduceIte, Nat.reduceAdd]
      obtain ⟨hb, h⟩ := brg h
      refine br_t hb ?_
      obtain ⟨r_2, h1, h⟩ := bd h
      refine call_aft (s_l03Permute_c h1) ?_
      simp +decide only [go_sem, reduceIte, Nat.reduceAdd]
      obtain ⟨hb, h⟩ := brg h
      refine br_t hb ?_
      obtain rfl := Option.some.inj h
      first | rfl | (simp only [List.length_set, go_sem]; done)
    · refine br_f hb ?_
      obtain rfl := Option.some.inj h
      first | rfl | (simp only [List.length_set, go_sem]; done)
noncomputable def s_l03Hash (b : (List UInt8)) : Option ((List UInt8)) :=
  br (fits b.length 1) (
    br (fits ((b ++ ([(1 : UInt8)] : List UInt8)).length) 1) (
      (Loop (s_l03Hash_1_s ([(1 : UInt8)] : List UInt8)) (b ++ ([(1 : UInt8)] : List UInt8))).bind fun e_ =>
      br (decide (0 ≤ (IntKind.wrap .i64 (((e_.1.length : Nat) : Int) - (1 : Int))))) (
        br (decide ((IntKind.wrap .i64 (((e_.1.length : Nat) : Int) - (1 : Int))).toNat < e_.1.length)) (
          (e_.1[(IntKind.wrap .i64 (((e_.1.length : Nat) : Int) - (1 : Int))).toNat]?).bind fun x =>
          br (decide (0 ≤ (IntKind.wrap .i64 (((e_.1.length : Nat) : Int) - (1 : Int))))) (
            br (decide ((IntKind.wrap .i64 (((e_.1.length : Nat) : Int) - (1 : Int))).toNat < e_.1.length)) (
              (e_.1[(IntKind.wrap .i64 (((e_.1.length : Nat) : Int) - (1 : Int))).toNat]?).bind fun x2 =>
              (Loop (s_l03Hash_2_s ([(1 : UInt8)] : List UInt8) (e_.1.set ((IntKind.wrap .i64 (((e_.1.length : Nat) : Int) - (1 : Int))).toNat) (UInt8.ofInt (or64 .u8 (x.toNat : Int) (128 : Int))))) ((nZ 25), (0 : Int))).bind fun e_3 =>
              br (decide (e_3.1.length = 25)) (
                (s_l03Text e_3.1 (32 : Int)).bind fun r_3 =>
                some r_3) (
                none)) (
              none)) (
            none)) (
          none)) (
        none)) (
      none)) (
    none)
theorem s_l03Hash_c {b : (List UInt8)} {r : (List UInt8)} (h : s_l03Hash b = some r) : Call tab ow 157 [S b] [] = some (S r, []) := by
  rw [run_s_l03Hash]
  unfold s_l03Hash at h
  simp +decide only [b_s_l03Hash, go_sem, reduceIte, Nat.reduceAdd]
  obtain ⟨hb, h⟩ := brg h
  refine br_t hb ?_
  obtain ⟨hb, h⟩ := brg h
  refine br_t hb ?_
  obtain ⟨e_, h1, h⟩ := bd h
  refine goR_of (s_l03Hash_1_l h1) ?_
  simp +decide only [go_sem, reduceIte, Nat.reduceAdd]
  obtain ⟨hb, h⟩ := brg h
  refine br_t hb ?_
  obtain ⟨hb, h⟩ := brg h
  refine br_t hb ?_
  obtain ⟨x, h1, h⟩ := bd h
  refine bind_some h1 ?_
  obtain ⟨hb, h⟩ := brg h
  refine br_t hb ?_
  obtain ⟨hb, h⟩ := brg h
  refine br_t hb ?_
  obtain ⟨x2, h1, h⟩ := bd h
  refine bind_some h1 ?_
  obtain ⟨e_3, h1, h⟩ := bd h
  have h2 := s_l03Hash_2_l h1
  try simp only [List.length_set] at h2
  refine goR_of h2 ?_
  simp +decide only [go_sem, reduceIte, Nat.reduceAdd]
  obtain ⟨hb, h⟩ := brg h
  refine br_t hb ?_
  obtain ⟨r_3, h1, h⟩ := bd h
  refine call_aft (s_l03Text_c h1) ?_
  simp +decide only [go_sem, reduceIte, Nat.reduceAdd]
  obtain rfl := Option.some.inj h
  first | rfl | (simp only [List.length_set, go_sem]; done)
end
noncomputable def s_l05New (label : (List UInt8)) (list : (List Ext)) : Option (Source) :=
  br (fits ((([115, 111, 117, 114, 99, 101] : List UInt8)).length + label.length) 1) (
    (s_l03Hash ((([115, 111, 117, 114, 99, 101] : List UInt8)) ++ label)).bind fun r_ =>
    some (Source.mk list (0 : Int) r_ (0 : Int))) (
    none)
theorem s_l05New_c {label : (List UInt8)} {list : (List Ext)} {r : Source} (h : s_l05New label list = some r) : Call tab ow 148 [S label, sl eExt list] [] = some (.agg [sl eExt r.Script, I r.At, S r.State, I r.Count], []) := by
  rw [run_s_l05New]
  unfold s_l05New at h
  simp +decide only [b_s_l05New, go_sem, reduceIte, Nat.reduceAdd]
  obtain ⟨hb, h⟩ := brg h
  refine br_t hb ?_
  obtain ⟨r_, h1, h⟩ := bd h
  refine call_aft (s_l03Hash_c h1) ?_
  simp +decide only [go_sem, reduceIte, Nat.reduceAdd]
  obtain rfl := Option.some.inj h
  first | rfl | (simp only [List.length_set, go_sem]; done)
noncomputable def s_l00Src_chance (n : Int) (m : l00Src) : Option (Bool × l00Src) :=
  (s_l00Src_next n m).bind fun r_ =>
  some ((r_.1 == (IntKind.wrap .i64 (n - (1 : Int)))), r_.2)
theorem s_l00Src_chance_c {n : Int} {m : l00Src} {r : Bool × l00Src} (h : s_l00Src_chance n m = some r) : Call tab ow 150 [.ptr 0 0 0 1, I n] [⟨3, true, [[sl eU8 m.code, I m.at_, I m.seed]]⟩] = some (B r.1, [⟨3, true, [[sl eU8 r.2.code, I r.2.at_, I r.2.seed]]⟩]) := by
  rw [run_s_l00Src_chance]
  unfold s_l00Src_chance at h
  simp +decide only [b_s_l00Src_chance, go_sem, reduceIte, Nat.reduceAdd]
  obtain ⟨r_, h1, h⟩ := bd h
  refine call_aft (s_l00Src_next_c h1) ?_
  simp +decide only [go_sem, reduceIte, Nat.reduceAdd]
  obtain rfl := Option.some.inj h
  first | rfl | (simp only [List.length_set, go_sem]; done)
noncomputable def s_l00Src_field_1_s : Int × Int × (List UInt8) × Int × Int → Option ((Int × Int × (List UInt8) × Int × Int) ⊕ ((Int × Int × Bool × (List UInt8) × Int × Int)))
  | (n, i, c, c2, c3) =>
    br (decide (i < (5 : Int))) (
      (s_l00Src_next (256 : Int) (l00Src.mk c c2 c3)).bind fun r_4 =>
      some (.inl (((IntKind.wrap .i64 ((IntKind.wrap .i64 (n * (256 : Int))) + r_4.1)).tmod (2130706433 : Int)), (IntKind.wrap .i64 (i + (1 : Int))), r_4.2.code, r_4.2.at_, r_4.2.seed))) (
      some (.inr (n, i, decide (i < (5 : Int)), c, c2, c3)))
theorem s_l00Src_field_1_l {n : Int} {i : Int} {c : List UInt8} {c2 : Int} {c3 : Int} {e : (Int × Int × Bool × (List UInt8) × Int × Int)} (h : Loop (s_l00Src_field_1_s) (n, i, c, c2, c3) = some e) : LoopX tab ow (.close [11003]) b_s_l00Src_field_8 ⟨[(0, .ptr 0 0 0 1), (3, I n), (4, I i)], [(0, ⟨3, true, [[sl eU8 c, I c2, I c3]]⟩)]⟩ = some ((.exit 1, ⟨[(0, .ptr 0 0 0 1), (3, I e.1), (4, I e.2.1), (17, B e.2.2.1)], [(0, ⟨3, true, [[sl eU8 e.2.2.2.1, I e.2.2.2.2.1, I e.2.2.2.2.2]]⟩)]⟩)) := by
  refine loop_runG (S := Int × Int × (List UInt8) × Int × Int) (eS := fun s => ⟨[(0, .ptr 0 0 0 1), (3, I s.1), (4, I s.2.1)], [(0, ⟨3, true, [[sl eU8 s.2.2.1, I s.2.2.2.1, I s.2.2.2.2]]⟩)]⟩) (eE := fun e => (.exit 1, ⟨[(0, .ptr 0 0 0 1), (3, I e.1), (4, I e.2.1), (17, B e.2.2.1)], [(0, ⟨3, true, [[sl eU8 e.2.2.2.1, I e.2.2.2.2.1, I e.2.2.2.2.2]]⟩)]⟩)) (fun e => ?_) (fun s o h => ?_) h
  · simp [alt]
  · obtain ⟨n, i, c, c2, c3⟩ := s
    simp only [s_l00Src_field_1_s] at h
    show Rn tab ow _ _ ⟨[(0, .ptr 0 0 0 1), (3, I n), (4, I i)], [(0, ⟨3, true, [[sl eU8 c, I c2, I c3]]⟩)]⟩ = _
    simp +decide only [b_s_l00Src_field_8, go_sem, reduceIte, Nat.reduceAdd]
    rcases brc h with ⟨hb, h⟩ | ⟨hb, h⟩
    · refine br_t hb ?_
      obtain ⟨r_4, h1, h⟩ := bd h
      refine call_aft (s_l00Src_next_c h1) ?_
      simp +decide only [go_sem, reduceIte, Nat.reduceAdd]
      obtain rfl := Option.some.inj h
      first | rfl | (simp only [List.length_set, go_sem]; done)
    · refine br_f hb ?_
      obtain rfl := Option.some.inj h
      first | rfl | (simp only [List.length_set, go_sem]; done)
noncomputable def s_l00Src_field (m : l00Src) : Option (Int × l00Src) :=
  (s_l00Src_next (5 : Int) m).bind fun r_ =>
  br (r_.1 == (0 : Int)) (
    (s_l00Src_next (4 : Int) r_.2).bind fun r_2 =>
    some (r_2.1, r_2.2)) (
    br (r_.1 == (1 : Int)) (
      (s_l00Src_next (3 : Int) r_.2).bind fun r_3 =>
      some ((IntKind.wrap .i64 ((2130706432 : Int) - r_3.1)), r_3.2)) (
      (Loop (s_l00Src_field_1_s) ((0 : Int), (0 : Int), r_.2.code, r_.2.at_, r_.2.seed)).bind fun e_ =>
      some (e_.1, (l00Src.mk e_.2.2.2.1 e_.2.2.2.2.1 e_.2.2.2.2.2))))
theorem s_l00Src_field_c {m : l00Src} {r : Int × l00Src} (h : s_l00Src_field m = some r) : Call tab ow 225 [.ptr 0 0 0 1] [⟨3, true, [[sl eU8 m.code, I m.at_, I m.seed]]⟩] = some (I r.1, [⟨3, true, [[sl eU8 r.2.code, I r.2.at_, I r.2.seed]]⟩]) := by
  rw [run_s_l00Src_field]
  unfold s_l00Src_field at h
  simp +decide only [b_s_l00Src_field, go_sem, reduceIte, Nat.reduceAdd]
  obtain ⟨r_, h1, h⟩ := bd h
  refine call_aft (s_l00Src_next_c h1) ?_
  simp +decide only [go_sem, reduceIte, Nat.reduceAdd]
  rcases brc h with ⟨hb, h⟩ | ⟨hb, h⟩
  · refine br_t hb ?_
    obtain ⟨r_2, h1, h⟩ := bd h
    refine call_aft (s_l00Src_next_c h1) ?_
    simp +decide only [go_sem, reduceIte, Nat.reduceAdd]
    obtain rfl := Option.some.inj h
    first | rfl | (simp only [List.length_set, go_sem]; done)
  · refine br_f hb ?_
    rcases brc h with ⟨hb, h⟩ | ⟨hb, h⟩
    · refine br_t hb ?_
      obtain ⟨r_3, h1, h⟩ := bd h
      refine call_aft (s_l00Src_next_c h1) ?_
      simp +decide only [go_sem, reduceIte, Nat.reduceAdd]
      obtain rfl := Option.some.inj h
      first | rfl | (simp only [List.length_set, go_sem]; done)
    · refine br_f hb ?_
      obtain ⟨e_, h1, h⟩ := bd h
      refine goR_of (s_l00Src_field_1_l h1) ?_
      simp +decide only [go_sem, reduceIte, Nat.reduceAdd]
      obtain rfl := Option.some.inj h
      first | rfl | (simp only [List.length_set, go_sem]; done)
noncomputable def s_l00Src_ext (m : l00Src) : Option (Ext × l00Src) :=
  (s_l00Src_chance (4 : Int) m).bind fun r_ =>
  br r_.1 (
    (s_l00Src_field r_.2).bind fun r_2 =>
    some ((Ext.mk r_2.1 (0 : Int)), r_2.2)) (
    (s_l00Src_field r_.2).bind fun r_3 =>
    (s_l00Src_field r_3.2).bind fun r_4 =>
    some ((Ext.mk r_3.1 r_4.1), r_4.2))
theorem s_l00Src_ext_c {m : l00Src} {r : Ext × l00Src} (h : s_l00Src_ext m = some r) : Call tab ow 199 [.ptr 0 0 0 1] [⟨3, true, [[sl eU8 m.code, I m.at_, I m.seed]]⟩] = some (.agg [I r.1.A, I r.1.B], [⟨3, true, [[sl eU8 r.2.code, I r.2.at_, I r.2.seed]]⟩]) := by
  rw [run_s_l00Src_ext]
  unfold s_l00Src_ext at h
  simp +decide only [b_s_l00Src_ext, go_sem, reduceIte, Nat.reduceAdd]
  obtain ⟨r_, h1, h⟩ := bd h
  refine call_aft (s_l00Src_chance_c h1) ?_
  simp +decide only [go_sem, reduceIte, Nat.reduceAdd]
  rcases brc h with ⟨hb, h⟩ | ⟨hb, h⟩
  · refine br_t hb ?_
    obtain ⟨r_2, h1, h⟩ := bd h
    refine call_aft (s_l00Src_field_c h1) ?_
    simp +decide only [go_sem, reduceIte, Nat.reduceAdd]
    obtain rfl := Option.some.inj h
    first | rfl | (simp only [List.length_set, go_sem]; done)
  · refine br_f hb ?_
    obtain ⟨r_3, h1, h⟩ := bd h
    refine call_aft (s_l00Src_field_c h1) ?_
    simp +decide only [go_sem, reduceIte, Nat.reduceAdd]
    obtain ⟨r_4, h1, h⟩ := bd h
    refine call_aft (s_l00Src_field_c h1) ?_
    simp +decide only [go_sem, reduceIte, Nat.reduceAdd]
    obtain rfl := Option.some.inj h
    first | rfl | (simp only [List.length_set, go_sem]; done)
section
theorem s_l00Src_exts_k0 : mkR 2000 [] = rws eExt [] := rfl
attribute [local go_sem] s_l00Src_exts_k0
theorem s_l00Src_exts_k1 : mkR 6003 [] = rws eExt [] := rfl
attribute [local go_sem] s_l00Src_exts_k1
noncomputable def s_l00Src_exts_1_s (n2 : Int) : (List Ext) × Int × (List UInt8) × Int × Int → Option (((List Ext) × Int × (List UInt8) × Int × Int) ⊕ (((List Ext) × Int × Bool × (List UInt8) × Int × Int)))
  | (l, i, c, c2, c3) =>
    br (decide (i < n2)) (
      (s_l00Src_ext (l00Src.mk c c2 c3)).bind fun r_ =>
      br (fits ((l ++ ([r_.1] : List Ext)).length) 16) (
        some (.inl ((l ++ ([r_.1] : List Ext)), (IntKind.wrap .i64 (i + (1 : Int))), r_.2.code, r_.2.at_, r_.2.seed))) (
        none)) (
      some (.inr (l, i, decide (i < n2), c, c2, c3)))
theorem s_l00Src_exts_1_l {n2 : Int} {l : List Ext} {i : Int} {c : List UInt8} {c2 : Int} {c3 : Int} {e : ((List Ext) × Int × Bool × (List UInt8) × Int × Int)} (h : Loop (s_l00Src_exts_1_s n2) (l, i, c, c2, c3) = some e) : LoopX tab ow (.close [6002, 6003, 6004]) b_s_l00Src_exts_3 ⟨[(0, .ptr 0 0 0 1), (1, I n2), (5, .sl 2000 0 l.length), (6, I i)], [(0, ⟨3, true, [[sl eU8 c, I c2, I c3]]⟩), (2000, ⟨2, false, rws eExt l⟩)]⟩ = some ((.exit 0, ⟨[(0, .ptr 0 0 0 1), (1, I n2), (5, .sl 2000 0 e.1.length), (6, I e.2.1), (10, B e.2.2.1)], [(0, ⟨3, true, [[sl eU8 e.2.2.2.1, I e.2.2.2.2.1, I e.2.2.2.2.2]]⟩), (2000, ⟨2, false, rws eExt e.1⟩)]⟩)) := by
  refine loop_runG (S := (List Ext) × Int × (List UInt8) × Int × Int) (eS := fun s => ⟨[(0, .ptr 0 0 0 1), (1, I n2), (5, .sl 2000 0 s.1.length), (6, I s.2.1)], [(0, ⟨3, true, [[sl eU8 s.2.2.1, I s.2.2.2.1, I s.2.2.2.2]]⟩), (2000, ⟨2, false, rws eExt s.1⟩)]⟩) (eE := fun e => (.exit 0, ⟨[(0, .ptr 0 0 0 1), (1, I n2), (5, .sl 2000 0 e.1.length), (6, I e.2.1), (10, B e.2.2.1)], [(0, ⟨3, true, [[sl eU8 e.2.2.2.1, I e.2.2.2.2.1, I e.2.2.2.2.2]]⟩), (2000, ⟨2, false, rws eExt e.1⟩)]⟩)) (fun e => ?_) (fun s o h => ?_) h
  · simp [alt]
  · obtain ⟨l, i, c, c2, c3⟩ := s
    simp only [s_l00Src_exts_1_s] at h
    show Rn tab ow _ _ ⟨[(0, .ptr 0 0 0 1), (1, I n2), (5, .sl 2000 0 l.length), (6, I i)], [(0, ⟨3, true, [[sl eU8 c, I c2, I c3]]⟩), (2000, ⟨2, false, rws eExt l⟩)]⟩ = _
    simp +decide only [b_s_l00Src_exts_3, go_sem, reduceIte, Nat.reduceAdd]
    rcases brc h with ⟨hb, h⟩ | ⟨hb, h⟩
    · refine br_t hb ?_
      obtain ⟨r_, h1, h⟩ := bd h
      refine call_aft (s_l00Src_ext_c h1) ?_
      simp +decide only [go_sem, reduceIte, Nat.reduceAdd]
      obtain ⟨hb, h⟩ := brg h
      refine br_t hb ?_
      obtain rfl := Option.some.inj h
      first | rfl | (simp only [List.length_set, go_sem]; done)
    · refine br_f hb ?_
      obtain rfl := Option.some.inj h
      first | rfl | (simp only [List.length_set, go_sem]; done)
noncomputable def s_l00Src_exts (n : Int) (m : l00Src) : Option ((List Ext) × l00Src) :=
  (Loop (s_l00Src_exts_1_s n) (([] : List Ext), (0 : Int), m.code, m.at_, m.seed)).bind fun e_ =>
  some (e_.1, (l00Src.mk e_.2.2.2.1 e_.2.2.2.2.1 e_.2.2.2.2.2))
theorem s_l00Src_exts_c {n : Int} {m : l00Src} {r : (List Ext) × l00Src} (h : s_l00Src_exts n m = some r) : Call tab ow 151 [.ptr 0 0 0 1, I n] [⟨3, true, [[sl eU8 m.code, I m.at_, I m.seed]]⟩] = some (sl eExt r.1, [⟨3, true, [[sl eU8 r.2.code, I r.2.at_, I r.2.seed]]⟩]) := by
  rw [run_s_l00Src_exts]
  unfold s_l00Src_exts at h
  simp +decide only [b_s_l00Src_exts, go_sem, reduceIte, Nat.reduceAdd]
  obtain ⟨e_, h1, h⟩ := bd h
  refine goR_of (s_l00Src_exts_1_l h1) ?_
  simp +decide only [go_sem, reduceIte, Nat.reduceAdd]
  obtain rfl := Option.some.inj h
  first | rfl | (simp only [List.length_set, go_sem]; done)
end
section
theorem s_l02Number_k0 : mkR 2000 [] = rws eU8 [] := rfl
attribute [local go_sem] s_l02Number_k0
theorem s_l02Number_k1 : mkR 6007 [] = rws eU8 [] := rfl
attribute [local go_sem] s_l02Number_k1
noncomputable def s_l02Number_1_s (n2 : Int) : (List UInt8) × Int → Option (((List UInt8) × Int) ⊕ (((List UInt8) × Int × Bool)))
  | (l, i) =>
    br (decide (i ≥ (0 : Int))) (
      br (decide (0 ≤ (IntKind.wrap .u64 (IntKind.wrap .i64 ((8 : Int) * i))))) (
        br (fits ((l ++ ([(UInt8.ofInt (shr64 .i64 n2 (IntKind.wrap .u64 (IntKind.wrap .i64 ((8 : Int) * i)))))] : List UInt8)).length) 1) (
          some (.inl ((l ++ ([(UInt8.ofInt (shr64 .i64 n2 (IntKind.wrap .u64 (IntKind.wrap .i64 ((8 : Int) * i)))))] : List UInt8)), (IntKind.wrap .i64 (i - (1 : Int)))))) (
          none)) (
        none)) (
      some (.inr (l, i, decide (i ≥ (0 : Int)))))
theorem s_l02Number_1_l {n2 : Int} {l : List UInt8} {i : Int} {e : ((List UInt8) × Int × Bool)} (h : Loop (s_l02Number_1_s n2) (l, i) = some e) : LoopX tab ow (.close [6007, 6008]) b_s_l02Number_3 ⟨[(0, I n2), (5, .sl 2000 0 l.length), (6, I i)], [(2000, ⟨1, false, rws eU8 l⟩)]⟩ = some ((.exit 0, ⟨[(0, I n2), (5, .sl 2000 0 e.1.length), (6, I e.2.1), (11, B e.2.2)], [(2000, ⟨1, false, rws eU8 e.1⟩)]⟩)) := by
  refine loop_runG (S := (List UInt8) × Int) (eS := fun s => ⟨[(0, I n2), (5, .sl 2000 0 s.1.length), (6, I s.2)], [(2000, ⟨1, false, rws eU8 s.1⟩)]⟩) (eE := fun e => (.exit 0, ⟨[(0, I n2), (5, .sl 2000 0 e.1.length), (6, I e.2.1), (11, B e.2.2)], [(2000, ⟨1, false, rws eU8 e.1⟩)]⟩)) (fun e => ?_) (fun s o h => ?_) h
  · simp [alt]
  · obtain ⟨l, i⟩ := s
    simp only [s_l02Number_1_s] at h
    show Rn tab ow _ _ ⟨[(0, I n2), (5, .sl 2000 0 l.length), (6, I i)], [(2000, ⟨1, false, rws eU8 l⟩)]⟩ = _
    simp +decide only [b_s_l02Number_3, go_sem, reduceIte, Nat.reduceAdd]
    rcases brc h with ⟨hb, h⟩ | ⟨hb, h⟩
    · refine br_t hb ?_
      obtain ⟨hb, h⟩ := brg h
      refine br_t hb ?_
      obtain ⟨hb, h⟩ := brg h
      refine br_t hb ?_
      obtain rfl := Option.some.inj h
      first | rfl | (simp only [List.length_set, go_sem]; done)
    · refine br_f hb ?_
      obtain rfl := Option.some.inj h
      first | rfl | (simp only [List.length_set, go_sem]; done)
noncomputable def s_l02Number (n : Int) (size : Int) : Option ((List UInt8)) :=
  (Loop (s_l02Number_1_s n) (([] : List UInt8), (IntKind.wrap .i64 (size - (1 : Int))))).bind fun e_ =>
  some e_.1
theorem s_l02Number_c {n : Int} {size : Int} {r : (List UInt8)} (h : s_l02Number n size = some r) : Call tab ow 158 [I n, I size] [] = some (sl eU8 r, []) := by
  rw [run_s_l02Number]
  unfold s_l02Number at h
  simp +decide only [b_s_l02Number, go_sem, reduceIte, Nat.reduceAdd]
  obtain ⟨e_, h1, h⟩ := bd h
  refine goR_of (s_l02Number_1_l h1) ?_
  simp +decide only [go_sem, reduceIte, Nat.reduceAdd]
  obtain rfl := Option.some.inj h
  first | rfl | (simp only [List.length_set, go_sem]; done)
end
noncomputable def s_l05Absorb (s : Source) (t : (List UInt8)) : Option (Source) :=
  br (fits (s.State.length + (([97, 98, 115, 111, 114, 98] : List UInt8)).length) 1) (
    (s_l02Number ((t.length : Nat) : Int) (4 : Int)).bind fun r_ =>
    br (fits ((s.State ++ (([97, 98, 115, 111, 114, 98] : List UInt8))).length + r_.length) 1) (
      br (fits (((s.State ++ (([97, 98, 115, 111, 114, 98] : List UInt8))) ++ r_).length + t.length) 1) (
        (s_l03Hash (((s.State ++ (([97, 98, 115, 111, 114, 98] : List UInt8))) ++ r_) ++ t)).bind fun r_2 =>
        some (Source.mk s.Script s.At r_2 (0 : Int))) (
        none)) (
      none)) (
    none)
theorem s_l05Absorb_c {s : Source} {t : (List UInt8)} {r : Source} (h : s_l05Absorb s t = some r) : Call tab ow 85 [.agg [sl eExt s.Script, I s.At, S s.State, I s.Count], S t] [] = some (.agg [sl eExt r.Script, I r.At, S r.State, I r.Count], []) := by
  rw [run_s_l05Absorb]
  unfold s_l05Absorb at h
  simp +decide only [b_s_l05Absorb, go_sem, reduceIte, Nat.reduceAdd]
  obtain ⟨hb, h⟩ := brg h
  refine br_t hb ?_
  obtain ⟨r_, h1, h⟩ := bd h
  refine call_aftD (s_l02Number_c h1) ?_
  simp +decide only [go_sem, reduceIte, Nat.reduceAdd]
  obtain ⟨hb, h⟩ := brg h
  refine br_t hb ?_
  obtain ⟨hb, h⟩ := brg h
  refine br_t hb ?_
  obtain ⟨r_2, h1, h⟩ := bd h
  refine call_aftD (s_l03Hash_c h1) ?_
  simp +decide only [go_sem, reduceIte, Nat.reduceAdd]
  obtain rfl := Option.some.inj h
  first | rfl | (simp only [List.length_set, go_sem]; done)
noncomputable def s_l05Field_1_s (t2 : List UInt8) : Int × Int → Option ((Int × Int) ⊕ ((Int × Int × Bool)))
  | (n, i) =>
    br (decide (i < (8 : Int))) (
      (atL t2 i).bind fun c =>
      some (.inl (((IntKind.wrap .i64 ((IntKind.wrap .i64 (n * (256 : Int))) + (IntKind.wrap .i64 (c.toNat : Int)))).tmod (2130706433 : Int)), (IntKind.wrap .i64 (i + (1 : Int)))))) (
      some (.inr (n, i, decide (i < (8 : Int)))))
theorem s_l05Field_1_l {t2 : List UInt8} {n : Int} {i : Int} {e : (Int × Int × Bool)} (h : Loop (s_l05Field_1_s t2) (n, i) = some e) : LoopX tab ow (.close []) b_s_l05Field_3 ⟨[(0, S t2), (3, I n), (4, I i)], []⟩ = some ((.exit 0, ⟨[(0, S t2), (3, I e.1), (4, I e.2.1), (6, B e.2.2)], []⟩)) := by
  refine loop_runG (S := Int × Int) (eS := fun s => ⟨[(0, S t2), (3, I s.1), (4, I s.2)], []⟩) (eE := fun e => (.exit 0, ⟨[(0, S t2), (3, I e.1), (4, I e.2.1), (6, B e.2.2)], []⟩)) (fun e => ?_) (fun s o h => ?_) h
  · simp [alt]
  · obtain ⟨n, i⟩ := s
    simp only [s_l05Field_1_s] at h
    show Rn tab ow _ _ ⟨[(0, S t2), (3, I n), (4, I i)], []⟩ = _
    simp +decide only [b_s_l05Field_3, go_sem, reduceIte, Nat.reduceAdd]
    rcases brc h with ⟨hb, h⟩ | ⟨hb, h⟩
    · refine br_t hb ?_
      obtain ⟨c, h1, h⟩ := bd h
      refine bind_some h1 ?_
      obtain rfl := Option.some.inj h
      first | rfl | (simp only [List.length_set, go_sem]; done)
    · refine br_f hb ?_
      obtain rfl := Option.some.inj h
      first | rfl | (simp only [List.length_set, go_sem]; done)
noncomputable def s_l05Field (t : (List UInt8)) : Option (Int) :=
  (Loop (s_l05Field_1_s t) ((0 : Int), (0 : Int))).bind fun e_ =>
  some e_.1
theorem s_l05Field_c {t : (List UInt8)} {r : Int} (h : s_l05Field t = some r) : Call tab ow 201 [S t] [] = some (I r, []) := by
  rw [run_s_l05Field]
  unfold s_l05Field at h
  simp +decide only [b_s_l05Field, go_sem, reduceIte, Nat.reduceAdd]
  obtain ⟨e_, h1, h⟩ := bd h
  refine goR_of (s_l05Field_1_l h1) ?_
  simp +decide only [go_sem, reduceIte, Nat.reduceAdd]
  obtain rfl := Option.some.inj h
  first | rfl | (simp only [List.length_set, go_sem]; done)
noncomputable def s_l05Draw (s : Source) : Option (Source × Ext) :=
  br (decide (((s.Script.length : Nat) : Int) > (0 : Int))) (
    br (decide (((s.Script.length : Nat) : Int) ≠ 0)) (
      (atL s.Script (s.At.tmod ((s.Script.length : Nat) : Int))).bind fun x =>
      some ((Source.mk s.Script (IntKind.wrap .i64 (s.At + (1 : Int))) s.State s.Count), x)) (
      none)) (
    br (fits (s.State.length + (([100, 114, 97, 119] : List UInt8)).length) 1) (
      (s_l02Number s.Count (4 : Int)).bind fun r_ =>
      br (fits ((s.State ++ (([100, 114, 97, 119] : List UInt8))).length + r_.length) 1) (
        (s_l03Hash ((s.State ++ (([100, 114, 97, 119] : List UInt8))) ++ r_)).bind fun r_2 =>
        (subL r_2 (0 : Int) (8 : Int)).bind fun y =>
        (s_l05Field y).bind fun r_3 =>
        (subL r_2 (8 : Int) (16 : Int)).bind fun y2 =>
        (s_l05Field y2).bind fun r_4 =>
        some ((Source.mk s.Script s.At s.State (IntKind.wrap .i64 (s.Count + (1 : Int)))), (Ext.mk r_3 r_4))) (
        none)) (
      none))
theorem s_l05Draw_c {s : Source} {r : Source × Ext} (h : s_l05Draw s = some r) : Call tab ow 153 [.agg [sl eExt s.Script, I s.At, S s.State, I s.Count]] [] = some (.tup [.agg [sl eExt r.1.Script, I r.1.At, S r.1.State, I r.1.Count], .agg [I r.2.A, I r.2.B]], []) := by
  rw [run_s_l05Draw]
  unfold s_l05Draw at h
  simp +decide only [b_s_l05Draw, go_sem, reduceIte, Nat.reduceAdd]
  rcases brc h with ⟨hb, h⟩ | ⟨hb, h⟩
  · refine br_t hb ?_
    obtain ⟨hb, h⟩ := brg h
    refine br_t hb ?_
    obtain ⟨x, h1, h⟩ := bd h
    refine bind_some h1 ?_
    obtain rfl := Option.some.inj h
    first | rfl | (simp only [List.length_set, go_sem]; done)
  · refine br_f hb ?_
    obtain ⟨hb, h⟩ := brg h
    refine br_t hb ?_
    obtain ⟨r_, h1, h⟩ := bd h
    refine call_aftD (s_l02Number_c h1) ?_
    simp +decide only [go_sem, reduceIte, Nat.reduceAdd]
    obtain ⟨hb, h⟩ := brg h
    refine br_t hb ?_
    obtain ⟨r_2, h1, h⟩ := bd h
    refine call_aftD (s_l03Hash_c h1) ?_
    simp +decide only [go_sem, reduceIte, Nat.reduceAdd]
    obtain ⟨y, h1, h⟩ := bd h
    refine bind_some h1 ?_
    obtain ⟨r_3, h1, h⟩ := bd h
    refine call_aftD (s_l05Field_c h1) ?_
    simp +decide only [go_sem, reduceIte, Nat.reduceAdd]
    obtain ⟨y2, h1, h⟩ := bd h
    refine bind_some h1 ?_
    obtain ⟨r_4, h1, h⟩ := bd h
    refine call_aftD (s_l05Field_c h1) ?_
    simp +decide only [go_sem, reduceIte, Nat.reduceAdd]
    obtain rfl := Option.some.inj h
    first | rfl | (simp only [List.length_set, go_sem]; done)
section
theorem s_l05Own_k0 : mkR 2000 [] = rws eExt [] := rfl
attribute [local go_sem] s_l05Own_k0
noncomputable def s_l05Own (s : Source) : Option (Source) :=
  br (fits ((([] : List Ext) ++ s.Script).length) 16) (
    some (Source.mk (([] : List Ext) ++ s.Script) s.At s.State s.Count)) (
    none)
theorem s_l05Own_c {s : Source} {r : Source} (h : s_l05Own s = some r) : Call tab ow 84 [.agg [sl eExt s.Script, I s.At, S s.State, I s.Count]] [] = some (.agg [sl eExt r.Script, I r.At, S r.State, I r.Count], []) := by
  rw [run_s_l05Own]
  unfold s_l05Own at h
  simp +decide only [b_s_l05Own, go_sem, reduceIte, Nat.reduceAdd]
  obtain ⟨hb, h⟩ := brg h
  refine br_t hb ?_
  obtain rfl := Option.some.inj h
  first | rfl | (simp only [List.length_set, go_sem]; done)
end
section
theorem s_l00Src_source_k0 : mkR 2001 [] = rws eS [] := rfl
attribute [local go_sem] s_l00Src_source_k0
theorem s_l00Src_source_k1 : mkR 2003 [] = rws eExt [] := rfl
attribute [local go_sem] s_l00Src_source_k1
theorem s_l00Src_source_k2 : mkR 9002 [] = rws eS [] := rfl
attribute [local go_sem] s_l00Src_source_k2
noncomputable def s_l00Src_source_1_s (c4 : Int) (c5 : List UInt8) (c6 : Int) : Int × (List UInt8) × Int × Int × (List Ext) × Int × (List UInt8) × Int → Option ((Int × (List UInt8) × Int × Int × (List Ext) × Int × (List UInt8) × Int) ⊕ ((Int × Bool × (List UInt8) × Int × Int × (List Ext) × Int × (List UInt8) × Int)))
  | (i, c, c2, c3, c7, c8, c9, c10) =>
    br (decide (i > (0 : Int))) (
      (s_l00Src_chance (2 : Int) (l00Src.mk c c2 c3)).bind fun r_7 =>
      br r_7.1 (
        (s_l00Src_pick ([(([] : List UInt8)), (([116, 101, 120, 116] : List UInt8))] : List (List UInt8)) r_7.2).bind fun r_8 =>
        (s_l05Absorb (Source.mk c7 c8 c9 c10) r_8.1).bind fun r_9 =>
        some (.inl ((IntKind.wrap .i64 (i - (1 : Int))), r_8.2.code, r_8.2.at_, r_8.2.seed, r_9.Script, r_9.At, r_9.State, r_9.Count))) (
        (s_l05Draw (Source.mk c7 c8 c9 c10)).bind fun r_10 =>
        some (.inl ((IntKind.wrap .i64 (i - (1 : Int))), r_7.2.code, r_7.2.at_, r_7.2.seed, r_10.1.Script, r_10.1.At, r_10.1.State, r_10.1.Count)))) (
      some (.inr (i, decide (i > (0 : Int)), c, c2, c3, c7, c8, c9, c10)))
theorem s_l00Src_source_1_l {c4 : Int} {c5 : List UInt8} {c6 : Int} {i : Int} {c : List UInt8} {c2 : Int} {c3 : Int} {c7 : List Ext} {c8 : Int} {c9 : List UInt8} {c10 : Int} {e : (Int × Bool × (List UInt8) × Int × Int × (List Ext) × Int × (List UInt8) × Int)} (h : Loop (s_l00Src_source_1_s c4 c5 c6) (i, c, c2, c3, c7, c8, c9, c10) = some e) : LoopX tab ow (.close [8001, 9002, 9003, 9004, 10001]) b_s_l00Src_source_5 ⟨[(0, .ptr 0 0 0 1), (2, .ptr 1000 0 0 1), (3, .ptr 2005 0 0 1), (4, I i)], [(0, ⟨3, true, [[sl eU8 c, I c2, I c3]]⟩), (1000, ⟨4, true, [[.lit (.slice none 0 0), I c4, S c5, I c6]]⟩), (2001, dead), (2003, dead), (2005, ⟨4, true, [[sl eExt c7, I c8, S c9, I c10]]⟩)]⟩ = some ((.exit 0, ⟨[(0, .ptr 0 0 0 1), (2, .ptr 1000 0 0 1), (3, .ptr 2005 0 0 1), (4, I e.1), (21, B e.2.1)], [(0, ⟨3, true, [[sl eU8 e.2.2.1, I e.2.2.2.1, I e.2.2.2.2.1]]⟩), (1000, ⟨4, true, [[.lit (.slice none 0 0), I c4, S c5, I c6]]⟩), (2001, dead), (2003, dead), (2005, ⟨4, true, [[sl eExt e.2.2.2.2.2.1, I e.2.2.2.2.2.2.1, S e.2.2.2.2.2.2.2.1, I e.2.2.2.2.2.2.2.2]]⟩)]⟩)) := by
  refine loop_runG (S := Int × (List UInt8) × Int × Int × (List Ext) × Int × (List UInt8) × Int) (eS := fun s => ⟨[(0, .ptr 0 0 0 1), (2, .ptr 1000 0 0 1), (3, .ptr 2005 0 0 1), (4, I s.1)], [(0, ⟨3, true, [[sl eU8 s.2.1, I s.2.2.1, I s.2.2.2.1]]⟩), (1000, ⟨4, true, [[.lit (.slice none 0 0), I c4, S c5, I c6]]⟩), (2001, dead), (2003, dead), (2005, ⟨4, true, [[sl eExt s.2.2.2.2.1, I s.2.2.2.2.2.1, S s.2.2.2.2.2.2.1, I s.2.2.2.2.2.2.2]]⟩)]⟩) (eE := fun e => (.exit 0, ⟨[(0, .ptr 0 0 0 1), (2, .ptr 1000 0 0 1), (3, .ptr 2005 0 0 1), (4, I e.1), (21, B e.2.1)], [(0, ⟨3, true, [[sl eU8 e.2.2.1, I e.2.2.2.1, I e.2.2.2.2.1]]⟩), (1000, ⟨4, true, [[.lit (.slice none 0 0), I c4, S c5, I c6]]⟩), (2001, dead), (2003, dead), (2005, ⟨4, true, [[sl eExt e.2.2.2.2.2.1, I e.2.2.2.2.2.2.1, S e.2.2.2.2.2.2.2.1, I e.2.2.2.2.2.2.2.2]]⟩)]⟩)) (fun e => ?_) (fun s o h => ?_) h
  · simp [alt]
  · obtain ⟨i, c, c2, c3, c7, c8, c9, c10⟩ := s
    simp only [s_l00Src_source_1_s] at h
    show Rn tab ow _ _ ⟨[(0, .ptr 0 0 0 1), (2, .ptr 1000 0 0 1), (3, .ptr 2005 0 0 1), (4, I i)], [(0, ⟨3, true, [[sl eU8 c, I c2, I c3]]⟩), (1000, ⟨4, true, [[.lit (.slice none 0 0), I c4, S c5, I c6]]⟩), (2001, dead), (2003, dead), (2005, ⟨4, true, [[sl eExt c7, I c8, S c9, I c10]]⟩)]⟩ = _
    simp +decide only [b_s_l00Src_source_5, go_sem, reduceIte, Nat.reduceAdd]
    rcases brc h with ⟨hb, h⟩ | ⟨hb, h⟩
    · refine br_t hb ?_
      obtain ⟨r_7, h1, h⟩ := bd h
      refine call_aft (s_l00Src_chance_c h1) ?_
      simp +decide only [go_sem, reduceIte, Nat.reduceAdd]
      rcases brc h with ⟨hb, h⟩ | ⟨hb, h⟩
      · refine br_t hb ?_
        obtain ⟨r_8, h1, h⟩ := bd h
        refine call_aftD (s_l00Src_pick_c h1) ?_
        simp +decide only [go_sem, reduceIte, Nat.reduceAdd]
        obtain ⟨r_9, h1, h⟩ := bd h
        refine call_aftD (s_l05Absorb_c h1) ?_
        simp +decide only [go_sem, reduceIte, Nat.reduceAdd]
        obtain rfl := Option.some.inj h
        first | rfl | (simp only [List.length_set, go_sem]; done)
      · refine br_f hb ?_
        obtain ⟨r_10, h1, h⟩ := bd h
        refine call_aft (s_l05Draw_c h1) ?_
        simp +decide only [go_sem, reduceIte, Nat.reduceAdd]
        obtain rfl := Option.some.inj h
        first | rfl | (simp only [List.length_set, go_sem]; done)
    · refine br_f hb ?_
      obtain rfl := Option.some.inj h
      first | rfl | (simp only [List.length_set, go_sem]; done)
noncomputable def s_l00Src_source_2_s (c14 : Int) (c15 : List UInt8) (c16 : Int) : Int × (List UInt8) × Int × Int × (List Ext) × Int × (List UInt8) × Int → Option ((Int × (List UInt8) × Int × Int × (List Ext) × Int × (List UInt8) × Int) ⊕ ((Int × Bool × (List UInt8) × Int × Int × (List Ext) × Int × (List UInt8) × Int)))
  | (i2, c11, c12, c13, c17, c18, c19, c20) =>
    br (decide (i2 > (0 : Int))) (
      (s_l00Src_chance (2 : Int) (l00Src.mk c11 c12 c13)).bind fun r_13 =>
      br r_13.1 (
        (s_l00Src_pick ([(([] : List UInt8)), (([116, 101, 120, 116] : List UInt8))] : List (List UInt8)) r_13.2).bind fun r_14 =>
        (s_l05Absorb (Source.mk c17 c18 c19 c20) r_14.1).bind fun r_15 =>
        some (.inl ((IntKind.wrap .i64 (i2 - (1 : Int))), r_14.2.code, r_14.2.at_, r_14.2.seed, r_15.Script, r_15.At, r_15.State, r_15.Count))) (
        (s_l05Draw (Source.mk c17 c18 c19 c20)).bind fun r_16 =>
        some (.inl ((IntKind.wrap .i64 (i2 - (1 : Int))), r_13.2.code, r_13.2.at_, r_13.2.seed, r_16.1.Script, r_16.1.At, r_16.1.State, r_16.1.Count)))) (
      some (.inr (i2, decide (i2 > (0 : Int)), c11, c12, c13, c17, c18, c19, c20)))
theorem s_l00Src_source_2_l {c14 : Int} {c15 : List UInt8} {c16 : Int} {i2 : Int} {c11 : List UInt8} {c12 : Int} {c13 : Int} {c17 : List Ext} {c18 : Int} {c19 : List UInt8} {c20 : Int} {e : (Int × Bool × (List UInt8) × Int × Int × (List Ext) × Int × (List UInt8) × Int)} (h : Loop (s_l00Src_source_2_s c14 c15 c16) (i2, c11, c12, c13, c17, c18, c19, c20) = some e) : LoopX tab ow (.close [8001, 9002, 9003, 9004, 10001]) b_s_l00Src_source_5 ⟨[(0, .ptr 0 0 0 1), (2, .ptr 1000 0 0 1), (3, .ptr 2005 0 0 1), (4, I i2)], [(0, ⟨3, true, [[sl eU8 c11, I c12, I c13]]⟩), (1000, ⟨4, true, [[.lit (.slice none 0 0), I c14, S c15, I c16]]⟩), (2001, dead), (2003, dead), (2005, ⟨4, true, [[sl eExt c17, I c18, S c19, I c20]]⟩)]⟩ = some ((.exit 0, ⟨[(0, .ptr 0 0 0 1), (2, .ptr 1000 0 0 1), (3, .ptr 2005 0 0 1), (4, I e.1), (21, B e.2.1)], [(0, ⟨3, true, [[sl eU8 e.2.2.1, I e.2.2.2.1, I e.2.2.2.2.1]]⟩), (1000, ⟨4, true, [[.lit (.slice none 0 0), I c14, S c15, I c16]]⟩), (2001, dead), (2003, dead), (2005, ⟨4, true, [[sl eExt e.2.2.2.2.2.1, I e.2.2.2.2.2.2.1, S e.2.2.2.2.2.2.2.1, I e.2.2.2.2.2.2.2.2]]⟩)]⟩)) := by
  refine loop_runG (S := Int × (List UInt8) × Int × Int × (List Ext) × Int × (List UInt8) × Int) (eS := fun s => ⟨[(0, .ptr 0 0 0 1), (2, .ptr 1000 0 0 1), (3, .ptr 2005 0 0 1), (4, I s.1)], [(0, ⟨3, true, [[sl eU8 s.2.1, I s.2.2.1, I s.2.2.2.1]]⟩), (1000, ⟨4, true, [[.lit (.slice none 0 0), I c14, S c15, I c16]]⟩), (2001, dead), (2003, dead), (2005, ⟨4, true, [[sl eExt s.2.2.2.2.1, I s.2.2.2.2.2.1, S s.2.2.2.2.2.2.1, I s.2.2.2.2.2.2.2]]⟩)]⟩) (eE := fun e => (.exit 0, ⟨[(0, .ptr 0 0 0 1), (2, .ptr 1000 0 0 1), (3, .ptr 2005 0 0 1), (4, I e.1), (21, B e.2.1)], [(0, ⟨3, true, [[sl eU8 e.2.2.1, I e.2.2.2.1, I e.2.2.2.2.1]]⟩), (1000, ⟨4, true, [[.lit (.slice none 0 0), I c14, S c15, I c16]]⟩), (2001, dead), (2003, dead), (2005, ⟨4, true, [[sl eExt e.2.2.2.2.2.1, I e.2.2.2.2.2.2.1, S e.2.2.2.2.2.2.2.1, I e.2.2.2.2.2.2.2.2]]⟩)]⟩)) (fun e => ?_) (fun s o h => ?_) h
  · simp [alt]
  · obtain ⟨i2, c11, c12, c13, c17, c18, c19, c20⟩ := s
    simp only [s_l00Src_source_2_s] at h
    show Rn tab ow _ _ ⟨[(0, .ptr 0 0 0 1), (2, .ptr 1000 0 0 1), (3, .ptr 2005 0 0 1), (4, I i2)], [(0, ⟨3, true, [[sl eU8 c11, I c12, I c13]]⟩), (1000, ⟨4, true, [[.lit (.slice none 0 0), I c14, S c15, I c16]]⟩), (2001, dead), (2003, dead), (2005, ⟨4, true, [[sl eExt c17, I c18, S c19, I c20]]⟩)]⟩ = _
    simp +decide only [b_s_l00Src_source_5, go_sem, reduceIte, Nat.reduceAdd]
    rcases brc h with ⟨hb, h⟩ | ⟨hb, h⟩
    · refine br_t hb ?_
      obtain ⟨r_13, h1, h⟩ := bd h
      refine call_aft (s_l00Src_chance_c h1) ?_
      simp +decide only [go_sem, reduceIte, Nat.reduceAdd]
      rcases brc h with ⟨hb, h⟩ | ⟨hb, h⟩
      · refine br_t hb ?_
        obtain ⟨r_14, h1, h⟩ := bd h
        refine call_aftD (s_l00Src_pick_c h1) ?_
        simp +decide only [go_sem, reduceIte, Nat.reduceAdd]
        obtain ⟨r_15, h1, h⟩ := bd h
        refine call_aftD (s_l05Absorb_c h1) ?_
        simp +decide only [go_sem, reduceIte, Nat.reduceAdd]
        obtain rfl := Option.some.inj h
        first | rfl | (simp only [List.length_set, go_sem]; done)
      · refine br_f hb ?_
        obtain ⟨r_16, h1, h⟩ := bd h
        refine call_aft (s_l05Draw_c h1) ?_
        simp +decide only [go_sem, reduceIte, Nat.reduceAdd]
        obtain rfl := Option.some.inj h
        first | rfl | (simp only [List.length_set, go_sem]; done)
    · refine br_f hb ?_
      obtain rfl := Option.some.inj h
      first | rfl | (simp only [List.length_set, go_sem]; done)
noncomputable def s_l00Src_source (m : l00Src) : Option (Source × l00Src) :=
  (s_l00Src_pick ([(([] : List UInt8)), (([97] : List UInt8)), (([108, 97, 98, 101, 108] : List UInt8))] : List (List UInt8)) m).bind fun r_ =>
  (s_l05New r_.1 ([] : List Ext)).bind fun r_2 =>
  (s_l00Src_chance (3 : Int) r_.2).bind fun r_3 =>
  br r_3.1 (
    (s_l00Src_next (5 : Int) r_3.2).bind fun r_4 =>
    (s_l00Src_exts (IntKind.wrap .i64 ((1 : Int) + r_4.1)) r_4.2).bind fun r_5 =>
    (s_l00Src_next (4 : Int) r_5.2).bind fun r_6 =>
    (Loop (s_l00Src_source_1_s (0 : Int) (([] : List UInt8)) (0 : Int)) (r_6.1, r_6.2.code, r_6.2.at_, r_6.2.seed, r_5.1, r_2.At, r_2.State, r_2.Count)).bind fun e_ =>
    (s_l05Own (Source.mk e_.2.2.2.2.2.1 e_.2.2.2.2.2.2.1 e_.2.2.2.2.2.2.2.1 e_.2.2.2.2.2.2.2.2)).bind fun r_11 =>
    some (r_11, (l00Src.mk e_.2.2.1 e_.2.2.2.1 e_.2.2.2.2.1))) (
    (s_l00Src_next (4 : Int) r_3.2).bind fun r_12 =>
    (Loop (s_l00Src_source_2_s (0 : Int) (([] : List UInt8)) (0 : Int)) (r_12.1, r_12.2.code, r_12.2.at_, r_12.2.seed, r_2.Script, r_2.At, r_2.State, r_2.Count)).bind fun e_2 =>
    (s_l05Own (Source.mk e_2.2.2.2.2.2.1 e_2.2.2.2.2.2.2.1 e_2.2.2.2.2.2.2.2.1 e_2.2.2.2.2.2.2.2.2)).bind fun r_17 =>
    some (r_17, (l00Src.mk e_2.2.2.1 e_2.2.2.2.1 e_2.2.2.2.2.1)))
theorem s_l00Src_source_c {m : l00Src} {r : Source × l00Src} (h : s_l00Src_source m = some r) : Call tab ow 78 [.ptr 0 0 0 1] [⟨3, true, [[sl eU8 m.code, I m.at_, I m.seed]]⟩] = some (.agg [sl eExt r.1.Script, I r.1.At, S r.1.State, I r.1.Count], [⟨3, true, [[sl eU8 r.2.code, I r.2.at_, I r.2.seed]]⟩]) := by
  rw [run_s_l00Src_source]
  unfold s_l00Src_source at h
  simp +decide only [b_s_l00Src_source, go_sem, reduceIte, Nat.reduceAdd]
  obtain ⟨r_, h1, h⟩ := bd h
  refine call_aft (s_l00Src_pick_c h1) ?_
  simp +decide only [go_sem, reduceIte, Nat.reduceAdd]
  obtain ⟨r_2, h1, h⟩ := bd h
  refine call_aft (s_l05New_c h1) ?_
  simp +decide only [go_sem, reduceIte, Nat.reduceAdd]
  obtain ⟨r_3, h1, h⟩ := bd h
  refine call_aft (s_l00Src_chance_c h1) ?_
  simp +decide only [go_sem, reduceIte, Nat.reduceAdd]
  rcases brc h with ⟨hb, h⟩ | ⟨hb, h⟩
  · refine br_t hb ?_
    obtain ⟨r_4, h1, h⟩ := bd h
    refine call_aft (s_l00Src_next_c h1) ?_
    simp +decide only [go_sem, reduceIte, Nat.reduceAdd]
    obtain ⟨r_5, h1, h⟩ := bd h
    refine call_aft (s_l00Src_exts_c h1) ?_
    simp +decide only [go_sem, reduceIte, Nat.reduceAdd]
    obtain ⟨r_6, h1, h⟩ := bd h
    refine call_aft (s_l00Src_next_c h1) ?_
    simp +decide only [go_sem, reduceIte, Nat.reduceAdd]
    obtain ⟨e_, h1, h⟩ := bd h
    refine goR_of (s_l00Src_source_1_l h1) ?_
    simp +decide only [go_sem, reduceIte, Nat.reduceAdd]
    obtain ⟨r_11, h1, h⟩ := bd h
    refine call_aft (s_l05Own_c h1) ?_
    simp +decide only [go_sem, reduceIte, Nat.reduceAdd]
    obtain rfl := Option.some.inj h
    first | rfl | (simp only [List.length_set, go_sem]; done)
  · refine br_f hb ?_
    obtain ⟨r_12, h1, h⟩ := bd h
    refine call_aft (s_l00Src_next_c h1) ?_
    simp +decide only [go_sem, reduceIte, Nat.reduceAdd]
    obtain ⟨e_2, h1, h⟩ := bd h
    refine goR_of (s_l00Src_source_2_l h1) ?_
    simp +decide only [go_sem, reduceIte, Nat.reduceAdd]
    obtain ⟨r_17, h1, h⟩ := bd h
    refine call_aft (s_l05Own_c h1) ?_
    simp +decide only [go_sem, reduceIte, Nat.reduceAdd]
    obtain rfl := Option.some.inj h
    first | rfl | (simp only [List.length_set, go_sem]; done)
end
noncomputable def s_SourceOf (code : (List UInt8)) : Option (Source) :=
  (s_l00Source code).bind fun r_ =>
  (s_l00Src_source r_).bind fun r_2 =>
  some r_2.1
theorem s_SourceOf_c {code : (List UInt8)} {r : Source} (h : s_SourceOf code = some r) : Call tab ow 17 [sl eU8 code] [] = some (.agg [sl eExt r.Script, I r.At, S r.State, I r.Count], []) := by
  rw [run_s_SourceOf]
  unfold s_SourceOf at h
  simp +decide only [b_s_SourceOf, go_sem, reduceIte, Nat.reduceAdd]
  obtain ⟨r_, h1, h⟩ := bd h
  refine call_aft (s_l00Source_c h1) ?_
  simp +decide only [go_sem, reduceIte, Nat.reduceAdd]
  obtain ⟨r_2, h1, h⟩ := bd h
  refine call_aft (s_l00Src_source_c h1) ?_
  simp +decide only [go_sem, reduceIte, Nat.reduceAdd]
  obtain rfl := Option.some.inj h
  first | rfl | (simp only [List.length_set, go_sem]; done)
section
theorem s_l00Src_bytes_k0 : mkR 2000 [] = rws eU8 [] := rfl
attribute [local go_sem] s_l00Src_bytes_k0
theorem s_l00Src_bytes_k1 : mkR 6004 [] = rws eU8 [] := rfl
attribute [local go_sem] s_l00Src_bytes_k1
noncomputable def s_l00Src_bytes_1_s : (List UInt8) × Int × (List UInt8) × Int × Int → Option (((List UInt8) × Int × (List UInt8) × Int × Int) ⊕ (((List UInt8) × Int × Bool × (List UInt8) × Int × Int)))
  | (l, i, c, c2, c3) =>
    br (decide (i > (0 : Int))) (
      (s_l00Src_next (256 : Int) (l00Src.mk c c2 c3)).bind fun r_2 =>
      br (fits ((l ++ ([(UInt8.ofInt r_2.1)] : List UInt8)).length) 1) (
        some (.inl ((l ++ ([(UInt8.ofInt r_2.1)] : List UInt8)), (IntKind.wrap .i64 (i - (1 : Int))), r_2.2.code, r_2.2.at_, r_2.2.seed))) (
        none)) (
      some (.inr (l, i, decide (i > (0 : Int)), c, c2, c3)))
theorem s_l00Src_bytes_1_l {l : List UInt8} {i : Int} {c : List UInt8} {c2 : Int} {c3 : Int} {e : ((List UInt8) × Int × Bool × (List UInt8) × Int × Int)} (h : Loop (s_l00Src_bytes_1_s) (l, i, c, c2, c3) = some e) : LoopX tab ow (.close [6002, 6004, 6005]) b_s_l00Src_bytes_3 ⟨[(0, .ptr 0 0 0 1), (5, .sl 2000 0 l.length), (6, I i)], [(0, ⟨3, true, [[sl eU8 c, I c2, I c3]]⟩), (2000, ⟨1, false, rws eU8 l⟩)]⟩ = some ((.exit 0, ⟨[(0, .ptr 0 0 0 1), (5, .sl 2000 0 e.1.length), (6, I e.2.1), (13, B e.2.2.1)], [(0, ⟨3, true, [[sl eU8 e.2.2.2.1, I e.2.2.2.2.1, I e.2.2.2.2.2]]⟩), (2000, ⟨1, false, rws eU8 e.1⟩)]⟩)) := by
  refine loop_runG (S := (List UInt8) × Int × (List UInt8) × Int × Int) (eS := fun s => ⟨[(0, .ptr 0 0 0 1), (5, .sl 2000 0 s.1.length), (6, I s.2.1)], [(0, ⟨3, true, [[sl eU8 s.2.2.1, I s.2.2.2.1, I s.2.2.2.2]]⟩), (2000, ⟨1, false, rws eU8 s.1⟩)]⟩) (eE := fun e => (.exit 0, ⟨[(0, .ptr 0 0 0 1), (5, .sl 2000 0 e.1.length), (6, I e.2.1), (13, B e.2.2.1)], [(0, ⟨3, true, [[sl eU8 e.2.2.2.1, I e.2.2.2.2.1, I e.2.2.2.2.2]]⟩), (2000, ⟨1, false, rws eU8 e.1⟩)]⟩)) (fun e => ?_) (fun s o h => ?_) h
  · simp [alt]
  · obtain ⟨l, i, c, c2, c3⟩ := s
    simp only [s_l00Src_bytes_1_s] at h
    show Rn tab ow _ _ ⟨[(0, .ptr 0 0 0 1), (5, .sl 2000 0 l.length), (6, I i)], [(0, ⟨3, true, [[sl eU8 c, I c2, I c3]]⟩), (2000, ⟨1, false, rws eU8 l⟩)]⟩ = _
    simp +decide only [b_s_l00Src_bytes_3, go_sem, reduceIte, Nat.reduceAdd]
    rcases brc h with ⟨hb, h⟩ | ⟨hb, h⟩
    · refine br_t hb ?_
      obtain ⟨r_2, h1, h⟩ := bd h
      refine call_aft (s_l00Src_next_c h1) ?_
      simp +decide only [go_sem, reduceIte, Nat.reduceAdd]
      obtain ⟨hb, h⟩ := brg h
      refine br_t hb ?_
      obtain rfl := Option.some.inj h
      first | rfl | (simp only [List.length_set, go_sem]; done)
    · refine br_f hb ?_
      obtain rfl := Option.some.inj h
      first | rfl | (simp only [List.length_set, go_sem]; done)
noncomputable def s_l00Src_bytes (n : Int) (m : l00Src) : Option ((List UInt8) × l00Src) :=
  (s_l00Src_next (IntKind.wrap .i64 (n + (1 : Int))) m).bind fun r_ =>
  (Loop (s_l00Src_bytes_1_s) (([] : List UInt8), r_.1, r_.2.code, r_.2.at_, r_.2.seed)).bind fun e_ =>
  some (e_.1, (l00Src.mk e_.2.2.2.1 e_.2.2.2.2.1 e_.2.2.2.2.2))
theorem s_l00Src_bytes_c {n : Int} {m : l00Src} {r : (List UInt8) × l00Src} (h : s_l00Src_bytes n m = some r) : Call tab ow 79 [.ptr 0 0 0 1, I n] [⟨3, true, [[sl eU8 m.code, I m.at_, I m.seed]]⟩] = some (sl eU8 r.1, [⟨3, true, [[sl eU8 r.2.code, I r.2.at_, I r.2.seed]]⟩]) := by
  rw [run_s_l00Src_bytes]
  unfold s_l00Src_bytes at h
  simp +decide only [b_s_l00Src_bytes, go_sem, reduceIte, Nat.reduceAdd]
  obtain ⟨r_, h1, h⟩ := bd h
  refine call_aft (s_l00Src_next_c h1) ?_
  simp +decide only [go_sem, reduceIte, Nat.reduceAdd]
  obtain ⟨e_, h1, h⟩ := bd h
  refine goR_of (s_l00Src_bytes_1_l h1) ?_
  simp +decide only [go_sem, reduceIte, Nat.reduceAdd]
  obtain rfl := Option.some.inj h
  first | rfl | (simp only [List.length_set, go_sem]; done)
end
noncomputable def s_BytesOf (code : (List UInt8)) (n : Int) : Option ((List UInt8)) :=
  (s_l00Source code).bind fun r_ =>
  (s_l00Src_bytes n r_).bind fun r_2 =>
  some r_2.1
theorem s_BytesOf_c {code : (List UInt8)} {n : Int} {r : (List UInt8)} (h : s_BytesOf code n = some r) : Call tab ow 18 [sl eU8 code, I n] [] = some (sl eU8 r, []) := by
  rw [run_s_BytesOf]
  unfold s_BytesOf at h
  simp +decide only [b_s_BytesOf, go_sem, reduceIte, Nat.reduceAdd]
  obtain ⟨r_, h1, h⟩ := bd h
  refine call_aft (s_l00Source_c h1) ?_
  simp +decide only [go_sem, reduceIte, Nat.reduceAdd]
  obtain ⟨r_2, h1, h⟩ := bd h
  refine call_aft (s_l00Src_bytes_c h1) ?_
  simp +decide only [go_sem, reduceIte, Nat.reduceAdd]
  obtain rfl := Option.some.inj h
  first | rfl | (simp only [List.length_set, go_sem]; done)
noncomputable def i_isLong (t : (List UInt8)) : Option (Bool) :=
  some (decide (((t.length : Nat) : Int) > (65536 : Int)))
theorem i_isLong_c {t : (List UInt8)} {r : Bool} (h : i_isLong t = some r) : Call tab ow 80 [S t] [] = some (B r, []) := by
  rw [run_i_isLong]
  unfold i_isLong at h
  simp +decide only [b_i_isLong, go_sem, reduceIte, Nat.reduceAdd]
  obtain rfl := Option.some.inj h
  first | rfl | (simp only [List.length_set, go_sem]; done)
noncomputable def i_isHash (h_ : (List UInt8)) : Option (Bool) :=
  some (((h_.length : Nat) : Int) == (32 : Int))
theorem i_isHash_c {h_ : (List UInt8)} {r : Bool} (h : i_isHash h_ = some r) : Call tab ow 93 [S h_] [] = some (B r, []) := by
  rw [run_i_isHash]
  unfold i_isHash at h
  simp +decide only [b_i_isHash, go_sem, reduceIte, Nat.reduceAdd]
  obtain rfl := Option.some.inj h
  first | rfl | (simp only [List.length_set, go_sem]; done)
noncomputable def i_SourceOK (s : Source) : Option (Bool) :=
  br (decide (((s.Script.length : Nat) : Int) ≤ (64 : Int))) (
    (i_are_i_Ext_ExtOK s.Script).bind fun r_ =>
    br r_ (
      (i_isHash s.State).bind fun r_2 =>
      br r_2 (
        (i_in s.At (0 : Int) (1000000 : Int)).bind fun r_3 =>
        br r_3 (
          (i_in s.Count (0 : Int) (1000000 : Int)).bind fun r_4 =>
          some r_4) (
          some false)) (
        some false)) (
      some false)) (
    some false)
theorem i_SourceOK_c {s : Source} {r : Bool} (h : i_SourceOK s = some r) : Call tab ow 26 [.agg [sl eExt s.Script, I s.At, S s.State, I s.Count]] [] = some (B r, []) := by
  rw [run_i_SourceOK]
  unfold i_SourceOK at h
  simp +decide only [b_i_SourceOK, go_sem, reduceIte, Nat.reduceAdd]
  rcases brc h with ⟨hb, h⟩ | ⟨hb, h⟩
  · refine br_t hb ?_
    obtain ⟨r_, h1, h⟩ := bd h
    refine call_aft (i_are_i_Ext_ExtOK_c h1) ?_
    simp +decide only [go_sem, reduceIte, Nat.reduceAdd]
    rcases brc h with ⟨hb, h⟩ | ⟨hb, h⟩
    · refine br_t hb ?_
      obtain ⟨r_2, h1, h⟩ := bd h
      refine call_aft (i_isHash_c h1) ?_
      simp +decide only [go_sem, reduceIte, Nat.reduceAdd]
      rcases brc h with ⟨hb, h⟩ | ⟨hb, h⟩
      · refine br_t hb ?_
        obtain ⟨r_3, h1, h⟩ := bd h
        refine call_aft (i_in_c h1) ?_
        simp +decide only [go_sem, reduceIte, Nat.reduceAdd]
        rcases brc h with ⟨hb, h⟩ | ⟨hb, h⟩
        · refine br_t hb ?_
          obtain ⟨r_4, h1, h⟩ := bd h
          refine call_aft (i_in_c h1) ?_
          simp +decide only [go_sem, reduceIte, Nat.reduceAdd]
          obtain rfl := Option.some.inj h
          first | rfl | (simp only [List.length_set, go_sem]; done)
        · refine br_f hb ?_
          obtain rfl := Option.some.inj h
          first | rfl | (simp only [List.length_set, go_sem]; done)
      · refine br_f hb ?_
        obtain rfl := Option.some.inj h
        first | rfl | (simp only [List.length_set, go_sem]; done)
    · refine br_f hb ?_
      obtain rfl := Option.some.inj h
      first | rfl | (simp only [List.length_set, go_sem]; done)
  · refine br_f hb ?_
    obtain rfl := Option.some.inj h
    first | rfl | (simp only [List.length_set, go_sem]; done)
def slices_Clone_Li_Ext_i_Ext (l : List Ext) : Option (List Ext) := br (fits l.length 16) (some l) none
theorem slices_Clone_Li_Ext_i_Ext_x (x : Ext) (l : List Ext) (hf : fits (x :: l).length 16 = true) : Call (oneT 154 a_slices_Clone_Li_Ext_i_Ext) noOw 154 [sl eExt (x :: l)] [] = some (.sl 0 0 (x :: l).length, [⟨2, false, rws eExt (x :: l)⟩]) := by
  rw [Call_run (af := a_slices_Clone_Li_Ext_i_Ext) (oneT_self _ _)]
  rw [List.length_cons] at hf
  simp +decide only [a_slices_Clone_Li_Ext_i_Ext, b_slices_Clone_Li_Ext_i_Ext, fun k => mk0 eExt k, inS_cons, go_sem, reduceIte, Nat.reduceAdd, hf]
theorem slices_Clone_Li_Ext_i_Ext_c {l r : List Ext} (h : slices_Clone_Li_Ext_i_Ext l = some r) : Call tab ow 154 [sl eExt l] [] = some (.sl 0 0 r.length, [⟨2, false, rws eExt r⟩]) := by
  unfold slices_Clone_Li_Ext_i_Ext at h
  obtain ⟨hb, h⟩ := brg h
  cases h
  rw [Call_ext (g := cloneO 154 a_slices_Clone_Li_Ext_i_Ext 2) rfl]
  cases l with
  | nil => rfl
  | cons x l => exact slices_Clone_Li_Ext_i_Ext_x x l hb
noncomputable def i_Source_copied (s : Source) : Option (Source) :=
  (slices_Clone_Li_Ext_i_Ext s.Script).bind fun r_ =>
  some (Source.mk r_ s.At s.State s.Count)
theorem i_Source_copied_c {s : Source} {r : Source} (h : i_Source_copied s = some r) : Call tab ow 81 [.agg [sl eExt s.Script, I s.At, S s.State, I s.Count]] [] = some (.agg [sl eExt r.Script, I r.At, S r.State, I r.Count], []) := by
  rw [run_i_Source_copied]
  unfold i_Source_copied at h
  simp +decide only [b_i_Source_copied, go_sem, reduceIte, Nat.reduceAdd]
  obtain ⟨r_, h1, h⟩ := bd h
  refine call_aft (slices_Clone_Li_Ext_i_Ext_c h1) ?_
  simp +decide only [go_sem, reduceIte, Nat.reduceAdd]
  obtain rfl := Option.some.inj h
  first | rfl | (simp only [List.length_set, go_sem]; done)
end Go.AI.Fn

set_option linter.unusedVariables false
set_option linter.unusedSimpArgs false
set_option maxRecDepth 100000
set_option maxHeartbeats 1000000
namespace Go.AI.Fn
section
theorem i_four_k0 : mkR 2012 [] = rws eU8 [] := rfl
attribute [local go_sem] i_four_k0
noncomputable def i_four (n : Int) : Option ((List UInt8)) :=
  br (fits (([(UInt8.ofInt (shr64 .i64 n (24 : Int))), (UInt8.ofInt (shr64 .i64 n (16 : Int))), (UInt8.ofInt (shr64 .i64 n (8 : Int))), (UInt8.ofInt n)] : List UInt8).length) 1) (
    some ([(UInt8.ofInt (shr64 .i64 n (24 : Int))), (UInt8.ofInt (shr64 .i64 n (16 : Int))), (UInt8.ofInt (shr64 .i64 n (8 : Int))), (UInt8.ofInt n)] : List UInt8)) (
    none)
theorem i_four_c {n : Int} {r : (List UInt8)} (h : i_four n = some r) : Call tab ow 156 [.lit (.slice none 0 0), I n] [] = some (sl eU8 r, []) := by
  rw [run_i_four]
  unfold i_four at h
  simp +decide only [b_i_four, go_sem, reduceIte, Nat.reduceAdd]
  obtain ⟨hb, h⟩ := brg h
  refine br_t hb ?_
  obtain rfl := Option.some.inj h
  first | rfl | (simp only [List.length_set, go_sem]; done)
end
noncomputable def i_lanesOf_1_s (m : List Int) (t : List UInt8) (t2 : Int) : (List Int) × Int → Option (((List Int) × Int) ⊕ (((List Int) × Int × Bool)))
  | (m2, t3) =>
    br (decide (t3 < t2)) (
      (atL t t3).bind fun x =>
      br (decide (0 ≤ (IntKind.wrap .i64 (t3.tdiv (8 : Int)))) && decide ((IntKind.wrap .i64 (t3.tdiv (8 : Int))).toNat < 25)) (
        (m2[(IntKind.wrap .i64 (t3.tdiv (8 : Int))).toNat]?).bind fun x2 =>
        br (decide (0 ≤ (IntKind.wrap .i64 ((8 : Int) * (t3.tmod (8 : Int)))))) (
          br (decide (0 ≤ (IntKind.wrap .i64 (t3.tdiv (8 : Int)))) && decide ((IntKind.wrap .i64 (t3.tdiv (8 : Int))).toNat < 25)) (
            br (decide ((IntKind.wrap .i64 (t3.tdiv (8 : Int))).toNat < m2.length)) (
              some (.inl ((m2.set ((IntKind.wrap .i64 (t3.tdiv (8 : Int))).toNat) (or64 .u64 x2 (shl64 .u64 (IntKind.wrap .u64 (x.toNat : Int)) (IntKind.wrap .i64 ((8 : Int) * (t3.tmod (8 : Int))))))), (IntKind.wrap .i64 (t3 + (1 : Int)))))) (
              none)) (
            none)) (
          none)) (
        none)) (
      some (.inr (m2, t3, decide (t3 < t2))))
theorem i_lanesOf_1_l {m : List Int} {t : List UInt8} {t2 : Int} {m2 : List Int} {t3 : Int} {e : ((List Int) × Int × Bool)} (h : Loop (i_lanesOf_1_s m t t2) (m2, t3) = some e) : LoopX tab ow (.close []) b_i_lanesOf_3 ⟨[(2, .ptr 1000 0 0 1), (3, .ptr 2001 0 0 1), (7, sl eU8 t), (8, I t2), (9, I t3)], [(1000, ⟨25, true, [ar .u64 m]⟩), (2001, ⟨25, true, [ar .u64 m2]⟩)]⟩ = some ((.exit 0, ⟨[(2, .ptr 1000 0 0 1), (3, .ptr 2001 0 0 1), (7, sl eU8 t), (8, I t2), (9, I e.2.1), (10, B e.2.2)], [(1000, ⟨25, true, [ar .u64 m]⟩), (2001, ⟨25, true, [ar .u64 e.1]⟩)]⟩)) := by
  refine loop_runG (S := (List Int) × Int) (eS := fun s => ⟨[(2, .ptr 1000 0 0 1), (3, .ptr 2001 0 0 1), (7, sl eU8 t), (8, I t2), (9, I s.2)], [(1000, ⟨25, true, [ar .u64 m]⟩), (2001, ⟨25, true, [ar .u64 s.1]⟩)]⟩) (eE := fun e => (.exit 0, ⟨[(2, .ptr 1000 0 0 1), (3, .ptr 2001 0 0 1), (7, sl eU8 t), (8, I t2), (9, I e.2.1), (10, B e.2.2)], [(1000, ⟨25, true, [ar .u64 m]⟩), (2001, ⟨25, true, [ar .u64 e.1]⟩)]⟩)) (fun e => ?_) (fun s o h => ?_) h
  · simp [alt]
  · obtain ⟨m2, t3⟩ := s
    simp only [i_lanesOf_1_s] at h
    show Rn tab ow _ _ ⟨[(2, .ptr 1000 0 0 1), (3, .ptr 2001 0 0 1), (7, sl eU8 t), (8, I t2), (9, I t3)], [(1000, ⟨25, true, [ar .u64 m]⟩), (2001, ⟨25, true, [ar .u64 m2]⟩)]⟩ = _
    simp +decide only [b_i_lanesOf_3, go_sem, reduceIte, Nat.reduceAdd]
    rcases brc h with ⟨hb, h⟩ | ⟨hb, h⟩
    · refine br_t hb ?_
      obtain ⟨x, h1, h⟩ := bd h
      refine bind_some h1 ?_
      obtain ⟨hb, h⟩ := brg h
      refine br_t hb ?_
      obtain ⟨x2, h1, h⟩ := bd h
      refine bind_some h1 ?_
      obtain ⟨hb, h⟩ := brg h
      refine br_t hb ?_
      obtain ⟨hb, h⟩ := brg h
      refine br_t hb ?_
      obtain ⟨hb, h⟩ := brg h
      refine br_t hb ?_
      obtain rfl := Option.some.inj h
      first | rfl | (simp only [List.length_set, go_sem]; done)
    · refine br_f hb ?_
      obtain rfl := Option.some.inj h
      first | rfl | (simp only [List.length_set, go_sem]; done)
noncomputable def i_lanesOf (state : (List UInt8)) : Option ((List Int)) :=
  (Loop (i_lanesOf_1_s (nZ 25) state ((state.length : Nat) : Int)) ((nZ 25), (0 : Int))).bind fun e_ =>
  br (decide (e_.1.length = 25)) (
    br (decide (e_.1.length = 25)) (
      br (decide (e_.1.length = 25)) (
        some e_.1) (
        none)) (
      none)) (
    none)
theorem i_lanesOf_c {state : (List UInt8)} {r : (List Int)} (h : i_lanesOf state = some r) : Call tab ow 202 [sl eU8 state] [] = some (.agg (ar .u64 r), []) := by
  rw [run_i_lanesOf]
  unfold i_lanesOf at h
  simp +decide only [b_i_lanesOf, go_sem, reduceIte, Nat.reduceAdd]
  obtain ⟨e_, h1, h⟩ := bd h
  refine goR_of (i_lanesOf_1_l h1) ?_
  simp +decide only [go_sem, reduceIte, Nat.reduceAdd]
  obtain ⟨hb, h⟩ := brg h
  refine br_t hb ?_
  obtain ⟨hb, h⟩ := brg h
  refine br_t hb ?_
  obtain ⟨hb, h⟩ := brg h
  refine br_t hb ?_
  obtain rfl := Option.some.inj h
  first | rfl | (simp only [List.length_set, go_sem]; done)
noncomputable def math_bits_RotateLeft64 (x : Int) (k : Int) : Option (Int) :=
  br (decide (0 ≤ (and64 .u64 (IntKind.wrap .u64 k) (63 : Int)))) (
    br (decide (0 ≤ (IntKind.wrap .u64 ((64 : Int) - (and64 .u64 (IntKind.wrap .u64 k) (63 : Int)))))) (
      some (or64 .u64 (shl64 .u64 x (and64 .u64 (IntKind.wrap .u64 k) (63 : Int))) (shr64 .u64 x (IntKind.wrap .u64 ((64 : Int) - (and64 .u64 (IntKind.wrap .u64 k) (63 : Int))))))) (
      none)) (
    none)
theorem math_bits_RotateLeft64_c {x : Int} {k : Int} {r : Int} (h : math_bits_RotateLeft64 x k = some r) : Call tab ow 226 [.lit (.int .u64 x), I k] [] = some (.lit (.int .u64 r), []) := by
  rw [run_math_bits_RotateLeft64]
  unfold math_bits_RotateLeft64 at h
  simp +decide only [b_math_bits_RotateLeft64, go_sem, reduceIte, Nat.reduceAdd]
  obtain ⟨hb, h⟩ := brg h
  refine br_t hb ?_
  obtain ⟨hb, h⟩ := brg h
  refine br_t hb ?_
  obtain rfl := Option.some.inj h
  first | rfl | (simp only [List.length_set, go_sem]; done)
noncomputable def i_lanes_permute_2_s (m5 : List Int) (m6 : List Int) (m7 : List Int) (m9 : List Int) (t3 : Int) (t4 : List Int) (t5 : Int) : (List Int) × Int → Option (((List Int) × Int) ⊕ (((List Int) × Int × Bool)))
  | (m8, t6) =>
    br (decide (t6 < (25 : Int))) (
      br (decide (0 ≤ t6) && decide (t6.toNat < 25)) (
        (m5[t6.toNat]?).bind fun x2 =>
        br (decide (0 ≤ (t6.tmod (5 : Int))) && decide ((t6.tmod (5 : Int)).toNat < 5)) (
          (m8[(t6.tmod (5 : Int)).toNat]?).bind fun x3 =>
          br (decide (0 ≤ (t6.tmod (5 : Int))) && decide ((t6.tmod (5 : Int)).toNat < 5)) (
            br (decide ((t6.tmod (5 : Int)).toNat < m8.length)) (
              some (.inl ((m8.set ((t6.tmod (5 : Int)).toNat) (xor64 .u64 x3 x2)), (IntKind.wrap .i64 (t6 + (1 : Int)))))) (
              none)) (
            none)) (
          none)) (
        none)) (
      some (.inr (m8, t6, decide (t6 < (25 : Int)))))
theorem i_lanes_permute_2_l {m5 : List Int} {m6 : List Int} {m7 : List Int} {m9 : List Int} {t3 : Int} {t4 : List Int} {t5 : Int} {m8 : List Int} {t6 : Int} {e : ((List Int) × Int × Bool)} (h : Loop (i_lanes_permute_2_s m5 m6 m7 m9 t3 t4 t5) (m8, t6) = some e) : LoopX tab ow (.close []) b_i_lanes_permute_7 ⟨[(0, .ptr 0 0 0 1), (2, .ptr 1001 0 0 1), (5, .lit (.int .u64 t3)), (6, .ptr 6002 0 0 1), (7, .ptr 6003 0 0 1), (20, .agg (ar .u64 t4)), (21, I t5), (26, .ptr 0 0 0 1), (27, I t6)], [(0, ⟨25, true, [ar .u64 m5]⟩), (1001, ⟨25, true, [ar .i64 m6]⟩), (2001, ⟨24, true, [ar .u64 m7]⟩), (6002, ⟨5, true, [ar .u64 m8]⟩), (6003, ⟨25, true, [ar .u64 m9]⟩)]⟩ = some ((.exit 2, ⟨[(0, .ptr 0 0 0 1), (2, .ptr 1001 0 0 1), (5, .lit (.int .u64 t3)), (6, .ptr 6002 0 0 1), (7, .ptr 6003 0 0 1), (20, .agg (ar .u64 t4)), (21, I t5), (26, .ptr 0 0 0 1), (27, I e.2.1), (28, B e.2.2)], [(0, ⟨25, true, [ar .u64 m5]⟩), (1001, ⟨25, true, [ar .i64 m6]⟩), (2001, ⟨24, true, [ar .u64 m7]⟩), (6002, ⟨5, true, [ar .u64 e.1]⟩), (6003, ⟨25, true, [ar .u64 m9]⟩)]⟩)) := by
  refine loop_runG (S := (List Int) × Int) (eS := fun s => ⟨[(0, .ptr 0 0 0 1), (2, .ptr 1001 0 0 1), (5, .lit (.int .u64 t3)), (6, .ptr 6002 0 0 1), (7, .ptr 6003 0 0 1), (20, .agg (ar .u64 t4)), (21, I t5), (26, .ptr 0 0 0 1), (27, I s.2)], [(0, ⟨25, true, [ar .u64 m5]⟩), (1001, ⟨25, true, [ar .i64 m6]⟩), (2001, ⟨24, true, [ar .u64 m7]⟩), (6002, ⟨5, true, [ar .u64 s.1]⟩), (6003, ⟨25, true, [ar .u64 m9]⟩)]⟩) (eE := fun e => (.exit 2, ⟨[(0, .ptr 0 0 0 1), (2, .ptr 1001 0 0 1), (5, .lit (.int .u64 t3)), (6, .ptr 6002 0 0 1), (7, .ptr 6003 0 0 1), (20, .agg (ar .u64 t4)), (21, I t5), (26, .ptr 0 0 0 1), (27, I e.2.1), (28, B e.2.2)], [(0, ⟨25, true, [ar .u64 m5]⟩), (1001, ⟨25, true, [ar .i64 m6]⟩), (2001, ⟨24, true, [ar .u64 m7]⟩), (6002, ⟨5, true, [ar .u64 e.1]⟩), (6003, ⟨25, true, [ar .u64 m9]⟩)]⟩)) (fun e => ?_) (fun s o h => ?_) h
  · simp [alt]
  · obtain ⟨m8, t6⟩ := s
    simp only [i_lanes_permute_2_s] at h
    show Rn tab ow _ _ ⟨[(0, .ptr 0 0 0 1), (2, .ptr 1001 0 0 1), (5, .lit (.int .u64 t3)), (6, .ptr 6002 0 0 1), (7, .ptr 6003 0 0 1), (20, .agg (ar .u64 t4)), (21, I t5), (26, .ptr 0 0 0 1), (27, I t6)], [(0, ⟨25, true, [ar .u64 m5]⟩), (1001, ⟨25, true, [ar .i64 m6]⟩), (2001, ⟨24, true, [ar .u64 m7]⟩), (6002, ⟨5, true, [ar .u64 m8]⟩), (6003, ⟨25, true, [ar .u64 m9]⟩)]⟩ = _
    simp +decide only [b_i_lanes_permute_7, go_sem, reduceIte, Nat.reduceAdd]
    rcases brc h with ⟨hb, h⟩ | ⟨hb, h⟩
    · refine br_t hb ?_
      obtain ⟨hb, h⟩ := brg h
      refine br_t hb ?_
      obtain ⟨x2, h1, h⟩ := bd h
      refine bind_some h1 ?_
      obtain ⟨hb, h⟩ := brg h
      refine br_t hb ?_
      obtain ⟨x3, h1, h⟩ := bd h
      refine bind_some h1 ?_
      obtain ⟨hb, h⟩ := brg h
      refine br_t hb ?_
      obtain ⟨hb, h⟩ := brg h
      refine br_t hb ?_
      obtain rfl := Option.some.inj h
      first | rfl | (simp only [List.length_set, go_sem]; done)
    · refine br_f hb ?_
      obtain rfl := Option.some.inj h
      first | rfl | (simp only [List.length_set, go_sem]; done)
noncomputable def i_lanes_permute_3_s (m10 : List Int) (m11 : List Int) (m12 : List Int) (m13 : List Int) (t7 : Int) (t8 : List Int) (t9 : Int) : (List Int) × Int → Option (((List Int) × Int) ⊕ (((List Int) × Int × Bool)))
  | (m14, t10) =>
    br (decide (t10 < (25 : Int))) (
      br (decide (0 ≤ t10) && decide (t10.toNat < 25)) (
        (m10[t10.toNat]?).bind fun x4 =>
        br (decide (0 ≤ ((IntKind.wrap .i64 ((t10.tmod (5 : Int)) + (4 : Int))).tmod (5 : Int))) && decide (((IntKind.wrap .i64 ((t10.tmod (5 : Int)) + (4 : Int))).tmod (5 : Int)).toNat < 5)) (
          (m13[((IntKind.wrap .i64 ((t10.tmod (5 : Int)) + (4 : Int))).tmod (5 : Int)).toNat]?).bind fun x5 =>
          br (decide (0 ≤ ((IntKind.wrap .i64 ((t10.tmod (5 : Int)) + (1 : Int))).tmod (5 : Int))) && decide (((IntKind.wrap .i64 ((t10.tmod (5 : Int)) + (1 : Int))).tmod (5 : Int)).toNat < 5)) (
            (m13[((IntKind.wrap .i64 ((t10.tmod (5 : Int)) + (1 : Int))).tmod (5 : Int)).toNat]?).bind fun x6 =>
            (math_bits_RotateLeft64 x6 (1 : Int)).bind fun r_ =>
            br (decide (0 ≤ t10) && decide (t10.toNat < 25)) (
              (m11[t10.toNat]?).bind fun x7 =>
              (math_bits_RotateLeft64 (xor64 .u64 x4 (xor64 .u64 x5 r_)) x7).bind fun r_2 =>
              br (decide (0 ≤ (IntKind.wrap .i64 ((IntKind.wrap .i64 (t10.tdiv (5 : Int))) + (IntKind.wrap .i64 ((5 : Int) * ((IntKind.wrap .i64 ((IntKind.wrap .i64 ((2 : Int) * (t10.tmod (5 : Int)))) + (IntKind.wrap .i64 ((3 : Int) * (IntKind.wrap .i64 (t10.tdiv (5 : Int))))))).tmod (5 : Int))))))) && decide ((IntKind.wrap .i64 ((IntKind.wrap .i64 (t10.tdiv (5 : Int))) + (IntKind.wrap .i64 ((5 : Int) * ((IntKind.wrap .i64 ((IntKind.wrap .i64 ((2 : Int) * (t10.tmod (5 : Int)))) + (IntKind.wrap .i64 ((3 : Int) * (IntKind.wrap .i64 (t10.tdiv (5 : Int))))))).tmod (5 : Int)))))).toNat < 25)) (
                br (decide ((IntKind.wrap .i64 ((IntKind.wrap .i64 (t10.tdiv (5 : Int))) + (IntKind.wrap .i64 ((5 : Int) * ((IntKind.wrap .i64 ((IntKind.wrap .i64 ((2 : Int) * (t10.tmod (5 : Int)))) + (IntKind.wrap .i64 ((3 : Int) * (IntKind.wrap .i64 (t10.tdiv (5 : Int))))))).tmod (5 : Int)))))).toNat < m14.length)) (
                  some (.inl ((m14.set ((IntKind.wrap .i64 ((IntKind.wrap .i64 (t10.tdiv (5 : Int))) + (IntKind.wrap .i64 ((5 : Int) * ((IntKind.wrap .i64 ((IntKind.wrap .i64 ((2 : Int) * (t10.tmod (5 : Int)))) + (IntKind.wrap .i64 ((3 : Int) * (IntKind.wrap .i64 (t10.tdiv (5 : Int))))))).tmod (5 : Int)))))).toNat) r_2), (IntKind.wrap .i64 (t10 + (1 : Int)))))) (
                  none)) (
                none)) (
              none)) (
            none)) (
          none)) (
        none)) (
      some (.inr (m14, t10, decide (t10 < (25 : Int)))))
theorem i_lanes_permute_3_l {m10 : List Int} {m11 : List Int} {m12 : List Int} {m13 : List Int} {t7 : Int} {t8 : List Int} {t9 : Int} {m14 : List Int} {t10 : Int} {e : ((List Int) × Int × Bool)} (h : Loop (i_lanes_permute_3_s m10 m11 m12 m13 t7 t8 t9) (m14, t10) = some e) : LoopX tab ow (.close [16011, 17013]) b_i_lanes_permute_12 ⟨[(0, .ptr 0 0 0 1), (2, .ptr 1001 0 0 1), (5, .lit (.int .u64 t7)), (6, .ptr 6002 0 0 1), (7, .ptr 6003 0 0 1), (20, .agg (ar .u64 t8)), (21, I t9), (41, .ptr 0 0 0 1), (42, I t10)], [(0, ⟨25, true, [ar .u64 m10]⟩), (1001, ⟨25, true, [ar .i64 m11]⟩), (2001, ⟨24, true, [ar .u64 m12]⟩), (6002, ⟨5, true, [ar .u64 m13]⟩), (6003, ⟨25, true, [ar .u64 m14]⟩)]⟩ = some ((.exit 4, ⟨[(0, .ptr 0 0 0 1), (2, .ptr 1001 0 0 1), (5, .lit (.int .u64 t7)), (6, .ptr 6002 0 0 1), (7, .ptr 6003 0 0 1), (20, .agg (ar .u64 t8)), (21, I t9), (41, .ptr 0 0 0 1), (42, I e.2.1), (43, B e.2.2)], [(0, ⟨25, true, [ar .u64 m10]⟩), (1001, ⟨25, true, [ar .i64 m11]⟩), (2001, ⟨24, true, [ar .u64 m12]⟩), (6002, ⟨5, true, [ar .u64 m13]⟩), (6003, ⟨25, true, [ar .u64 e.1]⟩)]⟩)) := by
  refine loop_runG (S := (List Int) × Int) (eS := fun s => ⟨[(0, .ptr 0 0 0 1), (2, .ptr 1001 0 0 1), (5, .lit (.int .u64 t7)), (6, .ptr 6002 0 0 1), (7, .ptr 6003 0 0 1), (20, .agg (ar .u64 t8)), (21, I t9), (41, .ptr 0 0 0 1), (42, I s.2)], [(0, ⟨25, true, [ar .u64 m10]⟩), (1001, ⟨25, true, [ar .i64 m11]⟩), (2001, ⟨24, true, [ar .u64 m12]⟩), (6002, ⟨5, true, [ar .u64 m13]⟩), (6003, ⟨25, true, [ar .u64 s.1]⟩)]⟩) (eE := fun e => (.exit 4, ⟨[(0, .ptr 0 0 0 1), (2, .ptr 1001 0 0 1), (5, .lit (.int .u64 t7)), (6, .ptr 6002 0 0 1), (7, .ptr 6003 0 0 1), (20, .agg (ar .u64 t8)), (21, I t9), (41, .ptr 0 0 0 1), (42, I e.2.1), (43, B e.2.2)], [(0, ⟨25, true, [ar .u64 m10]⟩), (1001, ⟨25, true, [ar .i64 m11]⟩), (2001, ⟨24, true, [ar .u64 m12]⟩), (6002, ⟨5, true, [ar .u64 m13]⟩), (6003, ⟨25, true, [ar .u64 e.1]⟩)]⟩)) (fun e => ?_) (fun s o h => ?_) h
  · simp [alt]
  · obtain ⟨m14, t10⟩ := s
    simp only [i_lanes_permute_3_s] at h
    show Rn tab ow _ _ ⟨[(0, .ptr 0 0 0 1), (2, .ptr 1001 0 0 1), (5, .lit (.int .u64 t7)), (6, .ptr 6002 0 0 1), (7, .ptr 6003 0 0 1), (20, .agg (ar .u64 t8)), (21, I t9), (41, .ptr 0 0 0 1), (42, I t10)], [(0, ⟨25, true, [ar .u64 m10]⟩), (1001, ⟨25, true, [ar .i64 m11]⟩), (2001, ⟨24, true, [ar .u64 m12]⟩), (6002, ⟨5, true, [ar .u64 m13]⟩), (6003, ⟨25, true, [ar .u64 m14]⟩)]⟩ = _
    simp +decide only [b_i_lanes_permute_12, go_sem, reduceIte, Nat.reduceAdd]
    rcases brc h with ⟨hb, h⟩ | ⟨hb, h⟩
    · refine br_t hb ?_
      obtain ⟨hb, h⟩ := brg h
      refine br_t hb ?_
      obtain ⟨x4, h1, h⟩ := bd h
      refine bind_some h1 ?_
      obtain ⟨hb, h⟩ := brg h
      refine br_t hb ?_
      obtain ⟨x5, h1, h⟩ := bd h
      refine bind_some h1 ?_
      obtain ⟨hb, h⟩ := brg h
      refine br_t hb ?_
      obtain ⟨x6, h1, h⟩ := bd h
      refine bind_some h1 ?_
      obtain ⟨r_, h1, h⟩ := bd h
      refine call_aftD (math_bits_RotateLeft64_c h1) ?_
      simp +decide only [go_sem, reduceIte, Nat.reduceAdd]
      obtain ⟨hb, h⟩ := brg h
      refine br_t hb ?_
      obtain ⟨x7, h1, h⟩ := bd h
      refine bind_some h1 ?_
      obtain ⟨r_2, h1, h⟩ := bd h
      refine call_aft (math_bits_RotateLeft64_c h1) ?_
      simp +decide only [go_sem, reduceIte, Nat.reduceAdd]
      obtain ⟨hb, h⟩ := brg h
      refine br_t hb ?_
      obtain ⟨hb, h⟩ := brg h
      refine br_t hb ?_
      obtain rfl := Option.some.inj h
      first | rfl | (simp only [List.length_set, go_sem]; done)
    · refine br_f hb ?_
      obtain rfl := Option.some.inj h
      first | rfl | (simp only [List.length_set, go_sem]; done)
noncomputable def i_lanes_permute_4_s (m16 : List Int) (m17 : List Int) (m18 : List Int) (m19 : List Int) (t11 : Int) (t12 : List Int) (t13 : Int) (t14 : List Int) : (List Int) × Int → Option (((List Int) × Int) ⊕ (((List Int) × Int × Bool)))
  | (m15, t15) =>
    br (decide (t15 < (25 : Int))) (
      br (decide (0 ≤ t15) && decide (t15.toNat < 25)) (
        (t14[t15.toNat]?).bind fun x8 =>
        br (decide (0 ≤ (IntKind.wrap .i64 ((IntKind.wrap .i64 (t15 - (t15.tmod (5 : Int)))) + ((IntKind.wrap .i64 ((t15.tmod (5 : Int)) + (2 : Int))).tmod (5 : Int))))) && decide ((IntKind.wrap .i64 ((IntKind.wrap .i64 (t15 - (t15.tmod (5 : Int)))) + ((IntKind.wrap .i64 ((t15.tmod (5 : Int)) + (2 : Int))).tmod (5 : Int)))).toNat < 25)) (
          (m19[(IntKind.wrap .i64 ((IntKind.wrap .i64 (t15 - (t15.tmod (5 : Int)))) + ((IntKind.wrap .i64 ((t15.tmod (5 : Int)) + (2 : Int))).tmod (5 : Int)))).toNat]?).bind fun x9 =>
          br (decide (0 ≤ (IntKind.wrap .i64 ((IntKind.wrap .i64 (t15 - (t15.tmod (5 : Int)))) + ((IntKind.wrap .i64 ((t15.tmod (5 : Int)) + (1 : Int))).tmod (5 : Int))))) && decide ((IntKind.wrap .i64 ((IntKind.wrap .i64 (t15 - (t15.tmod (5 : Int)))) + ((IntKind.wrap .i64 ((t15.tmod (5 : Int)) + (1 : Int))).tmod (5 : Int)))).toNat < 25)) (
            (m19[(IntKind.wrap .i64 ((IntKind.wrap .i64 (t15 - (t15.tmod (5 : Int)))) + ((IntKind.wrap .i64 ((t15.tmod (5 : Int)) + (1 : Int))).tmod (5 : Int)))).toNat]?).bind fun x10 =>
            br (decide (0 ≤ t15) && decide (t15.toNat < 25)) (
              br (decide (t15.toNat < m15.length)) (
                some (.inl ((m15.set t15.toNat (xor64 .u64 x8 (andn64 .u64 x9 x10))), (IntKind.wrap .i64 (t15 + (1 : Int)))))) (
                none)) (
              none)) (
            none)) (
          none)) (
        none)) (
      some (.inr (m15, t15, decide (t15 < (25 : Int)))))
theorem i_lanes_permute_4_l {m16 : List Int} {m17 : List Int} {m18 : List Int} {m19 : List Int} {t11 : Int} {t12 : List Int} {t13 : Int} {t14 : List Int} {m15 : List Int} {t15 : Int} {e : ((List Int) × Int × Bool)} (h : Loop (i_lanes_permute_4_s m16 m17 m18 m19 t11 t12 t13 t14) (m15, t15) = some e) : LoopX tab ow (.close []) b_i_lanes_permute_19 ⟨[(0, .ptr 0 0 0 1), (2, .ptr 1001 0 0 1), (5, .lit (.int .u64 t11)), (7, .ptr 6003 0 0 1), (20, .agg (ar .u64 t12)), (21, I t13), (82, .agg (ar .u64 t14)), (83, I t15)], [(0, ⟨25, true, [ar .u64 m15]⟩), (1001, ⟨25, true, [ar .i64 m16]⟩), (2001, ⟨24, true, [ar .u64 m17]⟩), (6002, ⟨5, true, [ar .u64 m18]⟩), (6003, ⟨25, true, [ar .u64 m19]⟩)]⟩ = some ((.exit 6, ⟨[(0, .ptr 0 0 0 1), (2, .ptr 1001 0 0 1), (5, .lit (.int .u64 t11)), (7, .ptr 6003 0 0 1), (20, .agg (ar .u64 t12)), (21, I t13), (82, .agg (ar .u64 t14)), (83, I e.2.1), (84, B e.2.2)], [(0, ⟨25, true, [ar .u64 e.1]⟩), (1001, ⟨25, true, [ar .i64 m16]⟩), (2001, ⟨24, true, [ar .u64 m17]⟩), (6002, ⟨5, true, [ar .u64 m18]⟩), (6003, ⟨25, true, [ar .u64 m19]⟩)]⟩)) := by
  refine loop_runG (S := (List Int) × Int) (eS := fun s => ⟨[(0, .ptr 0 0 0 1), (2, .ptr 1001 0 0 1), (5, .lit (.int .u64 t11)), (7, .ptr 6003 0 0 1), (20, .agg (ar .u64 t12)), (21, I t13), (82, .agg (ar .u64 t14)), (83, I s.2)], [(0, ⟨25, true, [ar .u64 s.1]⟩), (1001, ⟨25, true, [ar .i64 m16]⟩), (2001, ⟨24, true, [ar .u64 m17]⟩), (6002, ⟨5, true, [ar .u64 m18]⟩), (6003, ⟨25, true, [ar .u64 m19]⟩)]⟩) (eE := fun e => (.exit 6, ⟨[(0, .ptr 0 0 0 1), (2, .ptr 1001 0 0 1), (5, .lit (.int .u64 t11)), (7, .ptr 6003 0 0 1), (20, .agg (ar .u64 t12)), (21, I t13), (82, .agg (ar .u64 t14)), (83, I e.2.1), (84, B e.2.2)], [(0, ⟨25, true, [ar .u64 e.1]⟩), (1001, ⟨25, true, [ar .i64 m16]⟩), (2001, ⟨24, true, [ar .u64 m17]⟩), (6002, ⟨5, true, [ar .u64 m18]⟩), (6003, ⟨25, true, [ar .u64 m19]⟩)]⟩)) (fun e => ?_) (fun s o h => ?_) h
  · simp [alt]
  · obtain ⟨m15, t15⟩ := s
    simp only [i_lanes_permute_4_s] at h
    show Rn tab ow _ _ ⟨[(0, .ptr 0 0 0 1), (2, .ptr 1001 0 0 1), (5, .lit (.int .u64 t11)), (7, .ptr 6003 0 0 1), (20, .agg (ar .u64 t12)), (21, I t13), (82, .agg (ar .u64 t14)), (83, I t15)], [(0, ⟨25, true, [ar .u64 m15]⟩), (1001, ⟨25, true, [ar .i64 m16]⟩), (2001, ⟨24, true, [ar .u64 m17]⟩), (6002, ⟨5, true, [ar .u64 m18]⟩), (6003, ⟨25, true, [ar .u64 m19]⟩)]⟩ = _
    simp +decide only [b_i_lanes_permute_19, go_sem, reduceIte, Nat.reduceAdd]
    rcases brc h with ⟨hb, h⟩ | ⟨hb, h⟩
    · refine br_t hb ?_
      obtain ⟨hb, h⟩ := brg h
      refine br_t hb ?_
      obtain ⟨x8, h1, h⟩ := bd h
      refine bind_some h1 ?_
      obtain ⟨hb, h⟩ := brg h
      refine br_t hb ?_
      obtain ⟨x9, h1, h⟩ := bd h
      refine bind_some h1 ?_
      obtain ⟨hb, h⟩ := brg h
      refine br_t hb ?_
      obtain ⟨x10, h1, h⟩ := bd h
      refine bind_some h1 ?_
      obtain ⟨hb, h⟩ := brg h
      refine br_t hb ?_
      obtain ⟨hb, h⟩ := brg h
      refine br_t hb ?_
      obtain rfl := Option.some.inj h
      first | rfl | (simp only [List.length_set, go_sem]; done)
    · refine br_f hb ?_
      obtain rfl := Option.some.inj h
      first | rfl | (simp only [List.length_set, go_sem]; done)
noncomputable def i_lanes_permute_1_s (m3 : List Int) (m4 : List Int) (t : List Int) : (List Int) × Int → Option (((List Int) × Int) ⊕ (((List Int) × Int × Bool)))
  | (m2, t2) =>
    br (decide (t2 < (24 : Int))) (
      br (decide (0 ≤ t2) && decide (t2.toNat < 24)) (
        (t[t2.toNat]?).bind fun x =>
        (Loop (i_lanes_permute_2_s m2 m3 m4 (nZ 25) x t t2) ((nZ 5), (0 : Int))).bind fun e_ =>
        (Loop (i_lanes_permute_3_s m2 m3 m4 e_.1 x t t2) ((nZ 25), (0 : Int))).bind fun e_2 =>
        br (decide (e_2.1.length = 25)) (
          (Loop (i_lanes_permute_4_s m3 m4 e_.1 e_2.1 x t t2 e_2.1) (m2, (0 : Int))).bind fun e_3 =>
          (e_3.1[0]?).bind fun x11 =>
          br (decide (0 < e_3.1.length)) (
            some (.inl ((e_3.1.set 0 (xor64 .u64 x11 x)), (IntKind.wrap .i64 (t2 + (1 : Int)))))) (
            none)) (
          none)) (
        none)) (
      some (.inr (m2, t2, decide (t2 < (24 : Int)))))
theorem i_lanes_permute_1_l {m3 : List Int} {m4 : List Int} {t : List Int} {m2 : List Int} {t2 : Int} {e : ((List Int) × Int × Bool)} (h : Loop (i_lanes_permute_1_s m3 m4 t) (m2, t2) = some e) : LoopX tab ow (.close [6002, 6003, 16011, 17013]) b_i_lanes_permute_3 ⟨[(0, .ptr 0 0 0 1), (2, .ptr 1001 0 0 1), (20, .agg (ar .u64 t)), (21, I t2)], [(0, ⟨25, true, [ar .u64 m2]⟩), (1001, ⟨25, true, [ar .i64 m3]⟩), (2001, ⟨24, true, [ar .u64 m4]⟩)]⟩ = some ((.exit 0, ⟨[(0, .ptr 0 0 0 1), (2, .ptr 1001 0 0 1), (20, .agg (ar .u64 t)), (21, I e.2.1), (22, B e.2.2)], [(0, ⟨25, true, [ar .u64 e.1]⟩), (1001, ⟨25, true, [ar .i64 m3]⟩), (2001, ⟨24, true, [ar .u64 m4]⟩)]⟩)) := by
  refine loop_runG (S := (List Int) × Int) (eS := fun s => ⟨[(0, .ptr 0 0 0 1), (2, .ptr 1001 0 0 1), (20, .agg (ar .u64 t)), (21, I s.2)], [(0, ⟨25, true, [ar .u64 s.1]⟩), (1001, ⟨25, true, [ar .i64 m3]⟩), (2001, ⟨24, true, [ar .u64 m4]⟩)]⟩) (eE := fun e => (.exit 0, ⟨[(0, .ptr 0 0 0 1), (2, .ptr 1001 0 0 1), (20, .agg (ar .u64 t)), (21, I e.2.1), (22, B e.2.2)], [(0, ⟨25, true, [ar .u64 e.1]⟩), (1001, ⟨25, true, [ar .i64 m3]⟩), (2001, ⟨24, true, [ar .u64 m4]⟩)]⟩)) (fun e => ?_) (fun s o h => ?_) h
  · simp [alt]
  · obtain ⟨m2, t2⟩ := s
    simp only [i_lanes_permute_1_s] at h
    show Rn tab ow _ _ ⟨[(0, .ptr 0 0 0 1), (2, .ptr 1001 0 0 1), (20, .agg (ar .u64 t)), (21, I t2)], [(0, ⟨25, true, [ar .u64 m2]⟩), (1001, ⟨25, true, [ar .i64 m3]⟩), (2001, ⟨24, true, [ar .u64 m4]⟩)]⟩ = _
    simp +decide only [b_i_lanes_permute_3, go_sem, reduceIte, Nat.reduceAdd]
    rcases brc h with ⟨hb, h⟩ | ⟨hb, h⟩
    · refine br_t hb ?_
      obtain ⟨hb, h⟩ := brg h
      refine br_t hb ?_
      obtain ⟨x, h1, h⟩ := bd h
      refine bind_some h1 ?_
      obtain ⟨e_, h1, h⟩ := bd h
      refine goR_of (i_lanes_permute_2_l h1) ?_
      simp +decide only [go_sem, reduceIte, Nat.reduceAdd]
      obtain ⟨e_2, h1, h⟩ := bd h
      refine goR_of (i_lanes_permute_3_l h1) ?_
      simp +decide only [go_sem, reduceIte, Nat.reduceAdd]
      obtain ⟨hb, h⟩ := brg h
      refine br_t hb ?_
      obtain ⟨e_3, h1, h⟩ := bd h
      refine goR_of (i_lanes_permute_4_l h1) ?_
      simp +decide only [go_sem, reduceIte, Nat.reduceAdd]
      obtain ⟨x11, h1, h⟩ := bd h
      refine bind_some h1 ?_
      obtain ⟨hb, h⟩ := brg h
      refine br_t hb ?_
      obtain rfl := Option.some.inj h
      first | rfl | (simp only [List.length_set, go_sem]; done)
    · refine br_f hb ?_
      obtain rfl := Option.some.inj h
      first | rfl | (simp only [List.length_set, go_sem]; done)
noncomputable def i_lanes_permute (m : List Int) : Option ((List Int)) :=
  (Loop (i_lanes_permute_1_s ([0, 1, 62, 28, 27, 36, 44, 6, 55, 20, 3, 10, 43, 25, 39, 41, 45, 15, 21, 8, 18, 2, 61, 56, 14] : List Int) ([1, 32898, 9223372036854808714, 9223372039002292224, 32907, 2147483649, 9223372039002292353, 9223372036854808585, 138, 136, 2147516425, 2147483658, 2147516555, 9223372036854775947, 9223372036854808713, 9223372036854808579, 9223372036854808578, 9223372036854775936, 32778, 9223372039002259466, 9223372039002292353, 9223372036854808704, 2147483649, 9223372039002292232] : List Int) ([1, 32898, 9223372036854808714, 9223372039002292224, 32907, 2147483649, 9223372039002292353, 9223372036854808585, 138, 136, 2147516425, 2147483658, 2147516555, 9223372036854775947, 9223372036854808713, 9223372036854808579, 9223372036854808578, 9223372036854775936, 32778, 9223372039002259466, 9223372039002292353, 9223372036854808704, 2147483649, 9223372039002292232] : List Int)) (m, (0 : Int))).bind fun e_4 =>
  some e_4.1
theorem i_lanes_permute_c {m : List Int} {r : (List Int)} (h : i_lanes_permute m = some r) : Call tab ow 203 [.ptr 0 0 0 1] [⟨25, true, [ar .u64 m]⟩] = some (.tup [], [⟨25, true, [ar .u64 r]⟩]) := by
  rw [run_i_lanes_permute]
  unfold i_lanes_permute at h
  simp +decide only [b_i_lanes_permute, go_sem, reduceIte, Nat.reduceAdd]
  obtain ⟨e_4, h1, h⟩ := bd h
  refine goR_of (i_lanes_permute_1_l h1) ?_
  simp +decide only [go_sem, reduceIte, Nat.reduceAdd]
  obtain rfl := Option.some.inj h
  first | rfl | (simp only [List.length_set, go_sem]; done)
section
theorem i_lanes_text_k0 : mkR 2000 [] = rws eU8 [] := rfl
attribute [local go_sem] i_lanes_text_k0
theorem i_lanes_text_k1 : mkR 6012 [] = rws eU8 [] := rfl
attribute [local go_sem] i_lanes_text_k1
noncomputable def i_lanes_text_1_s (m2 : List Int) : (List UInt8) × Int → Option (((List UInt8) × Int) ⊕ (((List UInt8) × Int × Bool)))
  | (l, t) =>
    br (decide (t < (200 : Int))) (
      br (decide (0 ≤ (IntKind.wrap .i64 (t.tdiv (8 : Int)))) && decide ((IntKind.wrap .i64 (t.tdiv (8 : Int))).toNat < 25)) (
        (m2[(IntKind.wrap .i64 (t.tdiv (8 : Int))).toNat]?).bind fun x =>
        br (decide (0 ≤ (IntKind.wrap .i64 ((8 : Int) * (t.tmod (8 : Int)))))) (
          br (fits ((l ++ ([(UInt8.ofInt (shr64 .u64 x (IntKind.wrap .i64 ((8 : Int) * (t.tmod (8 : Int))))))] : List UInt8)).length) 1) (
            some (.inl ((l ++ ([(UInt8.ofInt (shr64 .u64 x (IntKind.wrap .i64 ((8 : Int) * (t.tmod (8 : Int))))))] : List UInt8)), (IntKind.wrap .i64 (t + (1 : Int)))))) (
            none)) (
          none)) (
        none)) (
      some (.inr (l, t, decide (t < (200 : Int)))))
theorem i_lanes_text_1_l {m2 : List Int} {l : List UInt8} {t : Int} {e : ((List UInt8) × Int × Bool)} (h : Loop (i_lanes_text_1_s m2) (l, t) = some e) : LoopX tab ow (.close [6012, 6013]) b_i_lanes_text_3 ⟨[(0, .ptr 0 0 0 1), (3, .sl 2000 0 l.length), (6, I t)], [(0, ⟨25, true, [ar .u64 m2]⟩), (2000, ⟨1, false, rws eU8 l⟩)]⟩ = some ((.exit 0, ⟨[(0, .ptr 0 0 0 1), (3, .sl 2000 0 e.1.length), (6, I e.2.1), (7, B e.2.2)], [(0, ⟨25, true, [ar .u64 m2]⟩), (2000, ⟨1, false, rws eU8 e.1⟩)]⟩)) := by
  refine loop_runG (S := (List UInt8) × Int) (eS := fun s => ⟨[(0, .ptr 0 0 0 1), (3, .sl 2000 0 s.1.length), (6, I s.2)], [(0, ⟨25, true, [ar .u64 m2]⟩), (2000, ⟨1, false, rws eU8 s.1⟩)]⟩) (eE := fun e => (.exit 0, ⟨[(0, .ptr 0 0 0 1), (3, .sl 2000 0 e.1.length), (6, I e.2.1), (7, B e.2.2)], [(0, ⟨25, true, [ar .u64 m2]⟩), (2000, ⟨1, false, rws eU8 e.1⟩)]⟩)) (fun e => ?_) (fun s o h => ?_) h
  · simp [alt]
  · obtain ⟨l, t⟩ := s
    simp only [i_lanes_text_1_s] at h
    show Rn tab ow _ _ ⟨[(0, .ptr 0 0 0 1), (3, .sl 2000 0 l.length), (6, I t)], [(0, ⟨25, true, [ar .u64 m2]⟩), (2000, ⟨1, false, rws eU8 l⟩)]⟩ = _
    simp +decide only [b_i_lanes_text_3, go_sem, reduceIte, Nat.reduceAdd]
    rcases brc h with ⟨hb, h⟩ | ⟨hb, h⟩
    · refine br_t hb ?_
      obtain ⟨hb, h⟩ := brg h
      refine br_t hb ?_
      obtain ⟨x, h1, h⟩ := bd h
      refine bind_some h1 ?_
      obtain ⟨hb, h⟩ := brg h
      refine br_t hb ?_
      obtain ⟨hb, h⟩ := brg h
      refine br_t hb ?_
      obtain rfl := Option.some.inj h
      first | rfl | (simp only [List.length_set, go_sem]; done)
    · refine br_f hb ?_
      obtain rfl := Option.some.inj h
      first | rfl | (simp only [List.length_set, go_sem]; done)
noncomputable def i_lanes_text (m : List Int) : Option ((List UInt8) × (List Int)) :=
  (Loop (i_lanes_text_1_s m) (([] : List UInt8), (0 : Int))).bind fun e_ =>
  some (e_.1, m)
theorem i_lanes_text_c {m : List Int} {r : (List UInt8) × (List Int)} (h : i_lanes_text m = some r) : Call tab ow 204 [.ptr 0 0 0 1] [⟨25, true, [ar .u64 m]⟩] = some (sl eU8 r.1, [⟨25, true, [ar .u64 r.2]⟩]) := by
  rw [run_i_lanes_text]
  unfold i_lanes_text at h
  simp +decide only [b_i_lanes_text, go_sem, reduceIte, Nat.reduceAdd]
  obtain ⟨e_, h1, h⟩ := bd h
  refine goR_of (i_lanes_text_1_l h1) ?_
  simp +decide only [go_sem, reduceIte, Nat.reduceAdd]
  obtain rfl := Option.some.inj h
  first | rfl | (simp only [List.length_set, go_sem]; done)
end
section
theorem i_keccak_k0 : mkR 2000 [] = rws eU8 [] := rfl
attribute [local go_sem] i_keccak_k0
theorem i_keccak_k1 : mkR 8001 [] = rws eU8 [] := rfl
attribute [local go_sem] i_keccak_k1
theorem i_keccak_k2 : mkR 10001 [] = rws eU8 [] := rfl
attribute [local go_sem] i_keccak_k2
noncomputable def i_keccak_1_s (t : List (List UInt8)) (t2 : Int) : (List UInt8) × Int → Option (((List UInt8) × Int) ⊕ (((List UInt8) × Int × Bool)))
  | (l, t3) =>
    br (decide (t3 < t2)) (
      (atL t t3).bind fun x =>
      br (fits ((l ++ x).length) 1) (
        some (.inl ((l ++ x), (IntKind.wrap .i64 (t3 + (1 : Int)))))) (
        none)) (
      some (.inr (l, t3, decide (t3 < t2))))
theorem i_keccak_1_l {t : List (List UInt8)} {t2 : Int} {l : List UInt8} {t3 : Int} {e : ((List UInt8) × Int × Bool)} (h : Loop (i_keccak_1_s t t2) (l, t3) = some e) : LoopX tab ow (.close [6002]) b_i_keccak_3 ⟨[(3, .sl 2000 0 l.length), (10, sl (eL eU8) t), (11, I t2), (12, I t3)], [(2000, ⟨1, false, rws eU8 l⟩)]⟩ = some ((.exit 0, ⟨[(3, .sl 2000 0 e.1.length), (10, sl (eL eU8) t), (11, I t2), (12, I e.2.1), (13, B e.2.2)], [(2000, ⟨1, false, rws eU8 e.1⟩)]⟩)) := by
  refine loop_runG (S := (List UInt8) × Int) (eS := fun s => ⟨[(3, .sl 2000 0 s.1.length), (10, sl (eL eU8) t), (11, I t2), (12, I s.2)], [(2000, ⟨1, false, rws eU8 s.1⟩)]⟩) (eE := fun e => (.exit 0, ⟨[(3, .sl 2000 0 e.1.length), (10, sl (eL eU8) t), (11, I t2), (12, I e.2.1), (13, B e.2.2)], [(2000, ⟨1, false, rws eU8 e.1⟩)]⟩)) (fun e => ?_) (fun s o h => ?_) h
  · simp [alt]
  · obtain ⟨l, t3⟩ := s
    simp only [i_keccak_1_s] at h
    show Rn tab ow _ _ ⟨[(3, .sl 2000 0 l.length), (10, sl (eL eU8) t), (11, I t2), (12, I t3)], [(2000, ⟨1, false, rws eU8 l⟩)]⟩ = _
    simp +decide only [b_i_keccak_3, go_sem, reduceIte, Nat.reduceAdd]
    rcases brc h with ⟨hb, h⟩ | ⟨hb, h⟩
    · refine br_t hb ?_
      obtain ⟨x, h1, h⟩ := bd h
      refine bind_some h1 ?_
      obtain ⟨hb, h⟩ := brg h
      refine br_t hb ?_
      obtain rfl := Option.some.inj h
      first | rfl | (simp only [List.length_set, go_sem]; done)
    · refine br_f hb ?_
      obtain rfl := Option.some.inj h
      first | rfl | (simp only [List.length_set, go_sem]; done)
noncomputable def i_keccak_2_s (l3 : List UInt8) : (List UInt8) → Option (((List UInt8)) ⊕ (((List UInt8) × Bool)))
  | l2 =>
    br ((((l2.length : Nat) : Int).tmod (136 : Int)) != (0 : Int)) (
      br (fits ((l2 ++ ([(0 : UInt8)] : List UInt8)).length) 1) (
        some (.inl (l2 ++ ([(0 : UInt8)] : List UInt8)))) (
        none)) (
      some (.inr (l2, ((((l2.length : Nat) : Int).tmod (136 : Int)) != (0 : Int)))))
theorem i_keccak_2_l {l3 : List UInt8} {l2 : List UInt8} {e : ((List UInt8) × Bool)} (h : Loop (i_keccak_2_s l3) l2 = some e) : LoopX tab ow (.close [10001, 10002]) b_i_keccak_8 ⟨[(3, .sl 2000 0 l2.length)], [(2000, ⟨1, false, rws eU8 l2⟩), (8001, ⟨1, false, rws eU8 l3⟩)]⟩ = some ((.exit 2, ⟨[(3, .sl 2000 0 e.1.length), (26, B e.2)], [(2000, ⟨1, false, rws eU8 e.1⟩), (8001, ⟨1, false, rws eU8 l3⟩)]⟩)) := by
  refine loop_runG (S := (List UInt8)) (eS := fun s => ⟨[(3, .sl 2000 0 s.length)], [(2000, ⟨1, false, rws eU8 s⟩), (8001, ⟨1, false, rws eU8 l3⟩)]⟩) (eE := fun e => (.exit 2, ⟨[(3, .sl 2000 0 e.1.length), (26, B e.2)], [(2000, ⟨1, false, rws eU8 e.1⟩), (8001, ⟨1, false, rws eU8 l3⟩)]⟩)) (fun e => ?_) (fun l2 o h => ?_) h
  · simp [alt]
  · skip
    simp only [i_keccak_2_s] at h
    show Rn tab ow _ _ ⟨[(3, .sl 2000 0 l2.length)], [(2000, ⟨1, false, rws eU8 l2⟩), (8001, ⟨1, false, rws eU8 l3⟩)]⟩ = _
    simp +decide only [b_i_keccak_8, go_sem, reduceIte, Nat.reduceAdd]
    rcases brc h with ⟨hb, h⟩ | ⟨hb, h⟩
    · refine br_t hb ?_
      obtain ⟨hb, h⟩ := brg h
      refine br_t hb ?_
      obtain rfl := Option.some.inj h
      first | rfl | (simp only [List.length_set, go_sem]; done)
    · refine br_f hb ?_
      obtain rfl := Option.some.inj h
      first | rfl | (simp only [List.length_set, go_sem]; done)
noncomputable def i_keccak_4_s (l5 : List UInt8) (all2 : List UInt8) (t4 : List Int) : (List Int) × Int → Option (((List Int) × Int) ⊕ (((List Int) × Int × Bool)))
  | (m2, t5) =>
    br (decide (t5 < (25 : Int))) (
      br (decide (0 ≤ t5) && decide (t5.toNat < 25)) (
        (t4[t5.toNat]?).bind fun x4 =>
        br (decide (0 ≤ t5) && decide (t5.toNat < 25)) (
          (m2[t5.toNat]?).bind fun x5 =>
          br (decide (0 ≤ t5) && decide (t5.toNat < 25)) (
            br (decide (t5.toNat < m2.length)) (
              some (.inl ((m2.set t5.toNat (xor64 .u64 x5 x4)), (IntKind.wrap .i64 (t5 + (1 : Int)))))) (
              none)) (
            none)) (
          none)) (
        none)) (
      some (.inr (m2, t5, decide (t5 < (25 : Int)))))
theorem i_keccak_4_l {l5 : List UInt8} {all2 : List UInt8} {t4 : List Int} {m2 : List Int} {t5 : Int} {e : ((List Int) × Int × Bool)} (h : Loop (i_keccak_4_s l5 all2 t4) (m2, t5) = some e) : LoopX tab ow (.close []) b_i_keccak_15 ⟨[(3, sl eU8 all2), (6, .ptr 12001 0 0 1), (46, .agg (ar .u64 t4)), (47, I t5)], [(8001, ⟨1, false, rws eU8 l5⟩), (12001, ⟨25, true, [ar .u64 m2]⟩)]⟩ = some ((.exit 6, ⟨[(3, sl eU8 all2), (6, .ptr 12001 0 0 1), (46, .agg (ar .u64 t4)), (47, I e.2.1), (48, B e.2.2)], [(8001, ⟨1, false, rws eU8 l5⟩), (12001, ⟨25, true, [ar .u64 e.1]⟩)]⟩)) := by
  refine loop_runG (S := (List Int) × Int) (eS := fun s => ⟨[(3, sl eU8 all2), (6, .ptr 12001 0 0 1), (46, .agg (ar .u64 t4)), (47, I s.2)], [(8001, ⟨1, false, rws eU8 l5⟩), (12001, ⟨25, true, [ar .u64 s.1]⟩)]⟩) (eE := fun e => (.exit 6, ⟨[(3, sl eU8 all2), (6, .ptr 12001 0 0 1), (46, .agg (ar .u64 t4)), (47, I e.2.1), (48, B e.2.2)], [(8001, ⟨1, false, rws eU8 l5⟩), (12001, ⟨25, true, [ar .u64 e.1]⟩)]⟩)) (fun e => ?_) (fun s o h => ?_) h
  · simp [alt]
  · obtain ⟨m2, t5⟩ := s
    simp only [i_keccak_4_s] at h
    show Rn tab ow _ _ ⟨[(3, sl eU8 all2), (6, .ptr 12001 0 0 1), (46, .agg (ar .u64 t4)), (47, I t5)], [(8001, ⟨1, false, rws eU8 l5⟩), (12001, ⟨25, true, [ar .u64 m2]⟩)]⟩ = _
    simp +decide only [b_i_keccak_15, go_sem, reduceIte, Nat.reduceAdd]
    rcases brc h with ⟨hb, h⟩ | ⟨hb, h⟩
    · refine br_t hb ?_
      obtain ⟨hb, h⟩ := brg h
      refine br_t hb ?_
      obtain ⟨x4, h1, h⟩ := bd h
      refine bind_some h1 ?_
      obtain ⟨hb, h⟩ := brg h
      refine br_t hb ?_
      obtain ⟨x5, h1, h⟩ := bd h
      refine bind_some h1 ?_
      obtain ⟨hb, h⟩ := brg h
      refine br_t hb ?_
      obtain ⟨hb, h⟩ := brg h
      refine br_t hb ?_
      obtain rfl := Option.some.inj h
      first | rfl | (simp only [List.length_set, go_sem]; done)
    · refine br_f hb ?_
      obtain rfl := Option.some.inj h
      first | rfl | (simp only [List.length_set, go_sem]; done)
noncomputable def i_keccak_3_s (l4 : List UInt8) : (List Int) × (List UInt8) → Option (((List Int) × (List UInt8)) ⊕ (((List Int) × (List UInt8) × Bool)))
  | (m, all) =>
    br (decide (((all.length : Nat) : Int) > (0 : Int))) (
      (subL all (0 : Int) (136 : Int)).bind fun y =>
      (i_lanesOf y).bind fun r_ =>
      (Loop (i_keccak_4_s l4 all r_) (m, (0 : Int))).bind fun e_3 =>
      (i_lanes_permute e_3.1).bind fun r_2 =>
      (subL all (136 : Int) ((all.length : Nat) : Int)).bind fun y2 =>
      some (.inl (r_2, y2))) (
      some (.inr (m, all, decide (((all.length : Nat) : Int) > (0 : Int)))))
theorem i_keccak_3_l {l4 : List UInt8} {m : List Int} {all : List UInt8} {e : ((List Int) × (List UInt8) × Bool)} (h : Loop (i_keccak_3_s l4) (m, all) = some e) : LoopX tab ow (.close [15002, 20000, 2000]) b_i_keccak_12 ⟨[(3, sl eU8 all), (6, .ptr 12001 0 0 1)], [(8001, ⟨1, false, rws eU8 l4⟩), (12001, ⟨25, true, [ar .u64 m]⟩)]⟩ = some ((.exit 4, ⟨[(3, sl eU8 e.2.1), (6, .ptr 12001 0 0 1), (41, B e.2.2)], [(8001, ⟨1, false, rws eU8 l4⟩), (12001, ⟨25, true, [ar .u64 e.1]⟩)]⟩)) := by
  refine loop_runG (S := (List Int) × (List UInt8)) (eS := fun s => ⟨[(3, sl eU8 s.2), (6, .ptr 12001 0 0 1)], [(8001, ⟨1, false, rws eU8 l4⟩), (12001, ⟨25, true, [ar .u64 s.1]⟩)]⟩) (eE := fun e => (.exit 4, ⟨[(3, sl eU8 e.2.1), (6, .ptr 12001 0 0 1), (41, B e.2.2)], [(8001, ⟨1, false, rws eU8 l4⟩), (12001, ⟨25, true, [ar .u64 e.1]⟩)]⟩)) (fun e => ?_) (fun s o h => ?_) h
  · simp [alt]
  · obtain ⟨m, all⟩ := s
    simp only [i_keccak_3_s] at h
    show Rn tab ow _ _ ⟨[(3, sl eU8 all), (6, .ptr 12001 0 0 1)], [(8001, ⟨1, false, rws eU8 l4⟩), (12001, ⟨25, true, [ar .u64 m]⟩)]⟩ = _
    simp +decide only [b_i_keccak_12, go_sem, reduceIte, Nat.reduceAdd]
    rcases brc h with ⟨hb, h⟩ | ⟨hb, h⟩
    · refine br_t hb ?_
      obtain ⟨y, h1, h⟩ := bd h
      refine bind_some h1 ?_
      obtain ⟨r_, h1, h⟩ := bd h
      refine call_aft (i_lanesOf_c h1) ?_
      simp +decide only [go_sem, reduceIte, Nat.reduceAdd]
      obtain ⟨e_3, h1, h⟩ := bd h
      refine goR_of (i_keccak_4_l h1) ?_
      simp +decide only [go_sem, reduceIte, Nat.reduceAdd]
      obtain ⟨r_2, h1, h⟩ := bd h
      refine call_aft (i_lanes_permute_c h1) ?_
      simp +decide only [go_sem, reduceIte, Nat.reduceAdd]
      obtain ⟨y2, h1, h⟩ := bd h
      refine bind_some h1 ?_
      obtain rfl := Option.some.inj h
      first | rfl | (simp only [List.length_set, go_sem]; done)
    · refine br_f hb ?_
      obtain rfl := Option.some.inj h
      first | rfl | (simp only [List.length_set, go_sem]; done)
noncomputable def i_keccak (pieces : (List (List UInt8))) : Option ((List UInt8)) :=
  (Loop (i_keccak_1_s pieces ((pieces.length : Nat) : Int)) (([] : List UInt8), (0 : Int))).bind fun e_ =>
  br (fits ((e_.1 ++ ([(1 : UInt8)] : List UInt8)).length) 1) (
    (Loop (i_keccak_2_s ([(1 : UInt8)] : List UInt8)) (e_.1 ++ ([(1 : UInt8)] : List UInt8))).bind fun e_2 =>
    br (decide (0 ≤ (IntKind.wrap .i64 (((e_2.1.length : Nat) : Int) - (1 : Int))))) (
      br (decide ((IntKind.wrap .i64 (((e_2.1.length : Nat) : Int) - (1 : Int))).toNat < e_2.1.length)) (
        (e_2.1[(IntKind.wrap .i64 (((e_2.1.length : Nat) : Int) - (1 : Int))).toNat]?).bind fun x2 =>
        br (decide (0 ≤ (IntKind.wrap .i64 (((e_2.1.length : Nat) : Int) - (1 : Int))))) (
          br (decide ((IntKind.wrap .i64 (((e_2.1.length : Nat) : Int) - (1 : Int))).toNat < e_2.1.length)) (
            (e_2.1[(IntKind.wrap .i64 (((e_2.1.length : Nat) : Int) - (1 : Int))).toNat]?).bind fun x3 =>
            (Loop (i_keccak_3_s ([(1 : UInt8)] : List UInt8)) ((nZ 25), (e_2.1.set ((IntKind.wrap .i64 (((e_2.1.length : Nat) : Int) - (1 : Int))).toNat) (UInt8.ofInt (or64 .u8 (x2.toNat : Int) (128 : Int)))))).bind fun e_4 =>
            (i_lanes_text e_4.1).bind fun r_3 =>
            (subL r_3.1 (0 : Int) (32 : Int)).bind fun y3 =>
            some y3) (
            none)) (
          none)) (
        none)) (
      none)) (
    none)
theorem i_keccak_c {pieces : (List (List UInt8))} {r : (List UInt8)} (h : i_keccak pieces = some r) : Call tab ow 155 [sl (eL eU8) pieces] [] = some (S r, []) := by
  rw [run_i_keccak]
  unfold i_keccak at h
  simp +decide only [b_i_keccak, go_sem, reduceIte, Nat.reduceAdd]
  obtain ⟨e_, h1, h⟩ := bd h
  refine goR_of (i_keccak_1_l h1) ?_
  simp +decide only [go_sem, reduceIte, Nat.reduceAdd]
  obtain ⟨hb, h⟩ := brg h
  refine br_t hb ?_
  obtain ⟨e_2, h1, h⟩ := bd h
  refine goR_of (i_keccak_2_l h1) ?_
  simp +decide only [go_sem, reduceIte, Nat.reduceAdd]
  obtain ⟨hb, h⟩ := brg h
  refine br_t hb ?_
  obtain ⟨hb, h⟩ := brg h
  refine br_t hb ?_
  obtain ⟨x2, h1, h⟩ := bd h
  refine bind_some h1 ?_
  obtain ⟨hb, h⟩ := brg h
  refine br_t hb ?_
  obtain ⟨hb, h⟩ := brg h
  refine br_t hb ?_
  obtain ⟨x3, h1, h⟩ := bd h
  refine bind_some h1 ?_
  obtain ⟨e_4, h1, h⟩ := bd h
  have h2 := i_keccak_3_l h1
  try simp only [List.length_set] at h2
  refine goR_of h2 ?_
  simp +decide only [go_sem, reduceIte, Nat.reduceAdd]
  obtain ⟨r_3, h1, h⟩ := bd h
  refine call_aft (i_lanes_text_c h1) ?_
  simp +decide only [go_sem, reduceIte, Nat.reduceAdd]
  obtain ⟨y3, h1, h⟩ := bd h
  refine bind_some h1 ?_
  obtain rfl := Option.some.inj h
  first | rfl | (simp only [List.length_set, go_sem]; done)
end
section
theorem i_Source_absorb_k0 : mkR 1007 [] = rws eU8 [] := rfl
attribute [local go_sem] i_Source_absorb_k0
theorem i_Source_absorb_k1 : mkR 1013 [] = rws (eL eU8) [] := rfl
attribute [local go_sem] i_Source_absorb_k1
noncomputable def i_Source_absorb (t : (List UInt8)) (m : Source) : Option (Source) :=
  br (fits m.State.length 1) (
    (i_four ((t.length : Nat) : Int)).bind fun r_ =>
    (i_keccak ([m.State, ([(97 : UInt8), (98 : UInt8), (115 : UInt8), (111 : UInt8), (114 : UInt8), (98 : UInt8)] : List UInt8), r_, t] : List (List UInt8))).bind fun r_2 =>
    some (Source.mk m.Script m.At r_2 (0 : Int))) (
    none)
theorem i_Source_absorb_c {t : (List UInt8)} {m : Source} {r : Source} (h : i_Source_absorb t m = some r) : Call tab ow 82 [.ptr 0 0 0 1, sl eU8 t] [⟨4, true, [[sl eExt m.Script, I m.At, S m.State, I m.Count]]⟩] = some (.tup [], [⟨4, true, [[sl eExt r.Script, I r.At, S r.State, I r.Count]]⟩]) := by
  rw [run_i_Source_absorb]
  unfold i_Source_absorb at h
  simp +decide only [b_i_Source_absorb, go_sem, reduceIte, Nat.reduceAdd]
  obtain ⟨hb, h⟩ := brg h
  refine br_t hb ?_
  obtain ⟨r_, h1, h⟩ := bd h
  refine call_aftD (i_four_c h1) ?_
  simp +decide only [go_sem, reduceIte, Nat.reduceAdd]
  obtain ⟨r_2, h1, h⟩ := bd h
  refine call_aftD (i_keccak_c h1) ?_
  simp +decide only [go_sem, reduceIte, Nat.reduceAdd]
  obtain rfl := Option.some.inj h
  first | rfl | (simp only [List.length_set, go_sem]; done)
end
noncomputable def i_AbsorbText (s : Source) (t : (List UInt8)) : Option (Source × Int) :=
  (i_isLong t).bind fun r_ =>
  br r_ (
    some ((Source.mk ([] : List Ext) (0 : Int) (([] : List UInt8)) (0 : Int)), (2 : Int))) (
    (i_SourceOK s).bind fun r_2 =>
    br (!r_2) (
      some ((Source.mk ([] : List Ext) (0 : Int) (([] : List UInt8)) (0 : Int)), (1 : Int))) (
      (i_Source_copied s).bind fun r_3 =>
      br (fits t.length 1) (
        (i_Source_absorb t r_3).bind fun r_4 =>
        some (r_4, (0 : Int))) (
        none)))
theorem i_AbsorbText_c {s : Source} {t : (List UInt8)} {r : Source × Int} (h : i_AbsorbText s t = some r) : Call tab ow 19 [.agg [sl eExt s.Script, I s.At, S s.State, I s.Count], S t] [] = some (.tup [.agg [sl eExt r.1.Script, I r.1.At, S r.1.State, I r.1.Count], I r.2], []) := by
  rw [run_i_AbsorbText]
  unfold i_AbsorbText at h
  simp +decide only [b_i_AbsorbText, go_sem, reduceIte, Nat.reduceAdd]
  obtain ⟨r_, h1, h⟩ := bd h
  refine call_aft (i_isLong_c h1) ?_
  simp +decide only [go_sem, reduceIte, Nat.reduceAdd]
  rcases brc h with ⟨hb, h⟩ | ⟨hb, h⟩
  · refine br_t hb ?_
    obtain rfl := Option.some.inj h
    first | rfl | (simp only [List.length_set, go_sem]; done)
  · refine br_f hb ?_
    obtain ⟨r_2, h1, h⟩ := bd h
    refine call_aft (i_SourceOK_c h1) ?_
    simp +decide only [go_sem, reduceIte, Nat.reduceAdd]
    rcases brc h with ⟨hb, h⟩ | ⟨hb, h⟩
    · refine br_t hb ?_
      obtain rfl := Option.some.inj h
      first | rfl | (simp only [List.length_set, go_sem]; done)
    · refine br_f hb ?_
      obtain ⟨r_3, h1, h⟩ := bd h
      refine call_aft (i_Source_copied_c h1) ?_
      simp +decide only [go_sem, reduceIte, Nat.reduceAdd]
      obtain ⟨hb, h⟩ := brg h
      refine br_t hb ?_
      obtain ⟨r_4, h1, h⟩ := bd h
      refine call_aft (i_Source_absorb_c h1) ?_
      simp +decide only [go_sem, reduceIte, Nat.reduceAdd]
      obtain rfl := Option.some.inj h
      first | rfl | (simp only [List.length_set, go_sem]; done)
noncomputable def s_SourceOK (s : Source) : Option (Bool) :=
  br (decide (((s.Script.length : Nat) : Int) ≤ (64 : Int))) (
    (s_l02List s.Script).bind fun r_ =>
    br r_ (
      (s_l01In s.At (0 : Int) (1000000 : Int)).bind fun r_2 =>
      br r_2 (
        br (((s.State.length : Nat) : Int) == (32 : Int)) (
          (s_l01In s.Count (0 : Int) (1000000 : Int)).bind fun r_3 =>
          some r_3) (
          some false)) (
        some false)) (
      some false)) (
    some false)
theorem s_SourceOK_c {s : Source} {r : Bool} (h : s_SourceOK s = some r) : Call tab ow 83 [.agg [sl eExt s.Script, I s.At, S s.State, I s.Count]] [] = some (B r, []) := by
  rw [run_s_SourceOK]
  unfold s_SourceOK at h
  simp +decide only [b_s_SourceOK, go_sem, reduceIte, Nat.reduceAdd]
  rcases brc h with ⟨hb, h⟩ | ⟨hb, h⟩
  · refine br_t hb ?_
    obtain ⟨r_, h1, h⟩ := bd h
    refine call_aft (s_l02List_c h1) ?_
    simp +decide only [go_sem, reduceIte, Nat.reduceAdd]
    rcases brc h with ⟨hb, h⟩ | ⟨hb, h⟩
    · refine br_t hb ?_
      obtain ⟨r_2, h1, h⟩ := bd h
      refine call_aft (s_l01In_c h1) ?_
      simp +decide only [go_sem, reduceIte, Nat.reduceAdd]
      rcases brc h with ⟨hb, h⟩ | ⟨hb, h⟩
      · refine br_t hb ?_
        rcases brc h with ⟨hb, h⟩ | ⟨hb, h⟩
        · refine br_t hb ?_
          obtain ⟨r_3, h1, h⟩ := bd h
          refine call_aft (s_l01In_c h1) ?_
          simp +decide only [go_sem, reduceIte, Nat.reduceAdd]
          obtain rfl := Option.some.inj h
          first | rfl | (simp only [List.length_set, go_sem]; done)
        · refine br_f hb ?_
          obtain rfl := Option.some.inj h
          first | rfl | (simp only [List.length_set, go_sem]; done)
      · refine br_f hb ?_
        obtain rfl := Option.some.inj h
        first | rfl | (simp only [List.length_set, go_sem]; done)
    · refine br_f hb ?_
      obtain rfl := Option.some.inj h
      first | rfl | (simp only [List.length_set, go_sem]; done)
  · refine br_f hb ?_
    obtain rfl := Option.some.inj h
    first | rfl | (simp only [List.length_set, go_sem]; done)
noncomputable def s_AbsorbText (s : Source) (t : (List UInt8)) : Option (Source × Int) :=
  br (decide (((t.length : Nat) : Int) > (65536 : Int))) (
    some ((Source.mk ([] : List Ext) (0 : Int) (([] : List UInt8)) (0 : Int)), (2 : Int))) (
    (s_SourceOK s).bind fun r_ =>
    br (!r_) (
      some ((Source.mk ([] : List Ext) (0 : Int) (([] : List UInt8)) (0 : Int)), (1 : Int))) (
      (s_l05Absorb s t).bind fun r_2 =>
      (s_l05Own r_2).bind fun r_3 =>
      some (r_3, (0 : Int))))
theorem s_AbsorbText_c {s : Source} {t : (List UInt8)} {r : Source × Int} (h : s_AbsorbText s t = some r) : Call tab ow 20 [.agg [sl eExt s.Script, I s.At, S s.State, I s.Count], S t] [] = some (.tup [.agg [sl eExt r.1.Script, I r.1.At, S r.1.State, I r.1.Count], I r.2], []) := by
  rw [run_s_AbsorbText]
  unfold s_AbsorbText at h
  simp +decide only [b_s_AbsorbText, go_sem, reduceIte, Nat.reduceAdd]
  rcases brc h with ⟨hb, h⟩ | ⟨hb, h⟩
  · refine br_t hb ?_
    obtain rfl := Option.some.inj h
    first | rfl | (simp only [List.length_set, go_sem]; done)
  · refine br_f hb ?_
    obtain ⟨r_, h1, h⟩ := bd h
    refine call_aft (s_SourceOK_c h1) ?_
    simp +decide only [go_sem, reduceIte, Nat.reduceAdd]
    rcases brc h with ⟨hb, h⟩ | ⟨hb, h⟩
    · refine br_t hb ?_
      obtain rfl := Option.some.inj h
      first | rfl | (simp only [List.length_set, go_sem]; done)
    · refine br_f hb ?_
      obtain ⟨r_2, h1, h⟩ := bd h
      refine call_aft (s_l05Absorb_c h1) ?_
      simp +decide only [go_sem, reduceIte, Nat.reduceAdd]
      obtain ⟨r_3, h1, h⟩ := bd h
      refine call_aft (s_l05Own_c h1) ?_
      simp +decide only [go_sem, reduceIte, Nat.reduceAdd]
      obtain rfl := Option.some.inj h
      first | rfl | (simp only [List.length_set, go_sem]; done)
noncomputable def w_at (more : (List UInt8)) (i : Int) (n : Int) : Option (Int) :=
  br (decide (n ≤ (1 : Int))) (
    some (0 : Int)) (
    br (((more.length : Nat) : Int) == (0 : Int)) (
      br (decide (n ≠ 0)) (
        some ((IntKind.wrap .i64 (i * (7 : Int))).tmod n)) (
        none)) (
      br (decide (((more.length : Nat) : Int) ≠ 0)) (
        (atL more (i.tmod ((more.length : Nat) : Int))).bind fun x =>
        br (decide (((more.length : Nat) : Int) ≠ 0)) (
          (atL more ((IntKind.wrap .i64 (i + (1 : Int))).tmod ((more.length : Nat) : Int))).bind fun x2 =>
          br (decide (((more.length : Nat) : Int) ≠ 0)) (
            br (decide (n ≠ 0)) (
              some ((IntKind.wrap .i64 ((IntKind.wrap .i64 ((IntKind.wrap .i64 ((IntKind.wrap .i64 (x.toNat : Int)) * (31 : Int))) + (IntKind.wrap .i64 (x2.toNat : Int)))) + (IntKind.wrap .i64 (i.tdiv ((more.length : Nat) : Int))))).tmod n)) (
              none)) (
            none)) (
          none)) (
        none)))
theorem w_at_c {more : (List UInt8)} {i : Int} {n : Int} {r : Int} (h : w_at more i n = some r) : Call tab ow 21 [sl eU8 more, I i, I n] [] = some (I r, []) := by
  rw [run_w_at]
  unfold w_at at h
  simp +decide only [b_w_at, go_sem, reduceIte, Nat.reduceAdd]
  rcases brc h with ⟨hb, h⟩ | ⟨hb, h⟩
  · refine br_t hb ?_
    obtain rfl := Option.some.inj h
    first | rfl | (simp only [List.length_set, go_sem]; done)
  · refine br_f hb ?_
    rcases brc h with ⟨hb, h⟩ | ⟨hb, h⟩
    · refine br_t hb ?_
      obtain ⟨hb, h⟩ := brg h
      refine br_t hb ?_
      obtain rfl := Option.some.inj h
      first | rfl | (simp only [List.length_set, go_sem]; done)
    · refine br_f hb ?_
      obtain ⟨hb, h⟩ := brg h
      refine br_t hb ?_
      obtain ⟨x, h1, h⟩ := bd h
      refine bind_some h1 ?_
      obtain ⟨hb, h⟩ := brg h
      refine br_t hb ?_
      obtain ⟨x2, h1, h⟩ := bd h
      refine bind_some h1 ?_
      obtain ⟨hb, h⟩ := brg h
      refine br_t hb ?_
      obtain ⟨hb, h⟩ := brg h
      refine br_t hb ?_
      obtain rfl := Option.some.inj h
      first | rfl | (simp only [List.length_set, go_sem]; done)
noncomputable def i_Source_left (s : Source) : Option (Int) :=
  some (IntKind.wrap .i64 ((1000000 : Int) - (mx s.At s.Count)))
theorem i_Source_left_c {s : Source} {r : Int} (h : i_Source_left s = some r) : Call tab ow 87 [.agg [sl eExt s.Script, I s.At, S s.State, I s.Count]] [] = some (I r, []) := by
  rw [run_i_Source_left]
  unfold i_Source_left at h
  simp +decide only [b_i_Source_left, go_sem, reduceIte, Nat.reduceAdd]
  obtain rfl := Option.some.inj h
  first | rfl | (simp only [List.length_set, go_sem]; done)
noncomputable def i_modulo_1_s (t : List UInt8) (t2 : Int) : Int × Int → Option ((Int × Int) ⊕ ((Int × Int × Bool)))
  | (n, t3) =>
    br (decide (t3 < t2)) (
      (atL t t3).bind fun x =>
      some (.inl ((or64 .u64 (shl64 .u64 n (8 : Int)) (IntKind.wrap .u64 (x.toNat : Int))), (IntKind.wrap .i64 (t3 + (1 : Int)))))) (
      some (.inr (n, t3, decide (t3 < t2))))
theorem i_modulo_1_l {t : List UInt8} {t2 : Int} {n : Int} {t3 : Int} {e : (Int × Int × Bool)} (h : Loop (i_modulo_1_s t t2) (n, t3) = some e) : LoopX tab ow (.close []) b_i_modulo_3 ⟨[(3, .lit (.int .u64 n)), (6, sl eU8 t), (7, I t2), (8, I t3)], []⟩ = some ((.exit 0, ⟨[(3, .lit (.int .u64 e.1)), (6, sl eU8 t), (7, I t2), (8, I e.2.1), (9, B e.2.2)], []⟩)) := by
  refine loop_runG (S := Int × Int) (eS := fun s => ⟨[(3, .lit (.int .u64 s.1)), (6, sl eU8 t), (7, I t2), (8, I s.2)], []⟩) (eE := fun e => (.exit 0, ⟨[(3, .lit (.int .u64 e.1)), (6, sl eU8 t), (7, I t2), (8, I e.2.1), (9, B e.2.2)], []⟩)) (fun e => ?_) (fun s o h => ?_) h
  · simp [alt]
  · obtain ⟨n, t3⟩ := s
    simp only [i_modulo_1_s] at h
    show Rn tab ow _ _ ⟨[(3, .lit (.int .u64 n)), (6, sl eU8 t), (7, I t2), (8, I t3)], []⟩ = _
    simp +decide only [b_i_modulo_3, go_sem, reduceIte, Nat.reduceAdd]
    rcases brc h with ⟨hb, h⟩ | ⟨hb, h⟩
    · refine br_t hb ?_
      obtain ⟨x, h1, h⟩ := bd h
      refine bind_some h1 ?_
      obtain rfl := Option.some.inj h
      first | rfl | (simp only [List.length_set, go_sem]; done)
    · refine br_f hb ?_
      obtain rfl := Option.some.inj h
      first | rfl | (simp only [List.length_set, go_sem]; done)
noncomputable def i_modulo (b : (List UInt8)) : Option (Int) :=
  (Loop (i_modulo_1_s b ((b.length : Nat) : Int)) ((0 : Int), (0 : Int))).bind fun e_ =>
  some (IntKind.wrap .i64 (e_.1.tmod (2130706433 : Int)))
theorem i_modulo_c {b : (List UInt8)} {r : Int} (h : i_modulo b = some r) : Call tab ow 208 [sl eU8 b] [] = some (I r, []) := by
  rw [run_i_modulo]
  unfold i_modulo at h
  simp +decide only [b_i_modulo, go_sem, reduceIte, Nat.reduceAdd]
  obtain ⟨e_, h1, h⟩ := bd h
  refine goR_of (i_modulo_1_l h1) ?_
  simp +decide only [go_sem, reduceIte, Nat.reduceAdd]
  obtain rfl := Option.some.inj h
  first | rfl | (simp only [List.length_set, go_sem]; done)
section
theorem i_Source_draw_k0 : mkR 5005 [] = rws eU8 [] := rfl
attribute [local go_sem] i_Source_draw_k0
theorem i_Source_draw_k1 : mkR 5012 [] = rws (eL eU8) [] := rfl
attribute [local go_sem] i_Source_draw_k1
noncomputable def i_Source_draw (m : Source) : Option (Ext × Source) :=
  br (decide (((m.Script.length : Nat) : Int) > (0 : Int))) (
    br (decide (((m.Script.length : Nat) : Int) ≠ 0)) (
      (atL m.Script ((IntKind.wrap .i64 ((IntKind.wrap .i64 (m.At + (1 : Int))) - (1 : Int))).tmod ((m.Script.length : Nat) : Int))).bind fun x =>
      some (x, (Source.mk m.Script (IntKind.wrap .i64 (m.At + (1 : Int))) m.State m.Count))) (
      none)) (
    br (fits m.State.length 1) (
      (i_four m.Count).bind fun r_ =>
      (i_keccak ([m.State, ([(100 : UInt8), (114 : UInt8), (97 : UInt8), (119 : UInt8)] : List UInt8), r_] : List (List UInt8))).bind fun r_2 =>
      br (fits r_2.length 1) (
        (subL r_2 (0 : Int) (8 : Int)).bind fun y =>
        (i_modulo y).bind fun r_3 =>
        (subL r_2 (8 : Int) (16 : Int)).bind fun y2 =>
        (i_modulo y2).bind fun r_4 =>
        some ((Ext.mk r_3 r_4), (Source.mk m.Script m.At m.State (IntKind.wrap .i64 (m.Count + (1 : Int)))))) (
        none)) (
      none))
theorem i_Source_draw_c {m : Source} {r : Ext × Source} (h : i_Source_draw m = some r) : Call tab ow 159 [.ptr 0 0 0 1] [⟨4, true, [[sl eExt m.Script, I m.At, S m.State, I m.Count]]⟩] = some (.agg [I r.1.A, I r.1.B], [⟨4, true, [[sl eExt r.2.Script, I r.2.At, S r.2.State, I r.2.Count]]⟩]) := by
  rw [run_i_Source_draw]
  unfold i_Source_draw at h
  simp +decide only [b_i_Source_draw, go_sem, reduceIte, Nat.reduceAdd]
  rcases brc h with ⟨hb, h⟩ | ⟨hb, h⟩
  · refine br_t hb ?_
    obtain ⟨hb, h⟩ := brg h
    refine br_t hb ?_
    obtain ⟨x, h1, h⟩ := bd h
    refine bind_some h1 ?_
    obtain rfl := Option.some.inj h
    first | rfl | (simp only [List.length_set, go_sem]; done)
  · refine br_f hb ?_
    obtain ⟨hb, h⟩ := brg h
    refine br_t hb ?_
    obtain ⟨r_, h1, h⟩ := bd h
    refine call_aftD (i_four_c h1) ?_
    simp +decide only [go_sem, reduceIte, Nat.reduceAdd]
    obtain ⟨r_2, h1, h⟩ := bd h
    refine call_aftD (i_keccak_c h1) ?_
    simp +decide only [go_sem, reduceIte, Nat.reduceAdd]
    obtain ⟨hb, h⟩ := brg h
    refine br_t hb ?_
    obtain ⟨y, h1, h⟩ := bd h
    refine bind_some h1 ?_
    obtain ⟨r_3, h1, h⟩ := bd h
    refine call_aftD (i_modulo_c h1) ?_
    simp +decide only [go_sem, reduceIte, Nat.reduceAdd]
    obtain ⟨y2, h1, h⟩ := bd h
    refine bind_some h1 ?_
    obtain ⟨r_4, h1, h⟩ := bd h
    refine call_aftD (i_modulo_c h1) ?_
    simp +decide only [go_sem, reduceIte, Nat.reduceAdd]
    obtain rfl := Option.some.inj h
    first | rfl | (simp only [List.length_set, go_sem]; done)
end
end Go.AI.Fn

set_option linter.unusedVariables false
set_option linter.unusedSimpArgs false
set_option maxRecDepth 100000
set_option maxHeartbeats 1000000
namespace Go.AI.Fn
section
theorem i_Source_draws_k0 : mkR 2000 [] = rws eExt [] := rfl
attribute [local go_sem] i_Source_draws_k0
theorem i_Source_draws_k1 : mkR 5003 [] = rws eExt [] := rfl
attribute [local go_sem] i_Source_draws_k1
noncomputable def i_Source_draws_1_s (t : Int) : (List Ext) × Int × (List Ext) × Int × (List UInt8) × Int → Option (((List Ext) × Int × (List Ext) × Int × (List UInt8) × Int) ⊕ (((List Ext) × Int × Bool × (List Ext) × Int × (List UInt8) × Int)))
  | (l, t2, c, c2, c3, c4) =>
    br (decide (t2 < t)) (
      (i_Source_draw (Source.mk c c2 c3 c4)).bind fun r_ =>
      br (fits ((l ++ ([r_.1] : List Ext)).length) 16) (
        some (.inl ((l ++ ([r_.1] : List Ext)), (IntKind.wrap .i64 (t2 + (1 : Int))), r_.2.Script, r_.2.At, r_.2.State, r_.2.Count))) (
        none)) (
      some (.inr (l, t2, decide (t2 < t), c, c2, c3, c4)))
theorem i_Source_draws_1_l {t : Int} {l : List Ext} {t2 : Int} {c : List Ext} {c2 : Int} {c3 : List UInt8} {c4 : Int} {e : ((List Ext) × Int × Bool × (List Ext) × Int × (List UInt8) × Int)} (h : Loop (i_Source_draws_1_s t) (l, t2, c, c2, c3, c4) = some e) : LoopX tab ow (.close [5002, 5003, 5004]) b_i_Source_draws_3 ⟨[(0, .ptr 0 0 0 1), (5, .sl 2000 0 l.length), (7, I t), (8, I t2)], [(0, ⟨4, true, [[sl eExt c, I c2, S c3, I c4]]⟩), (2000, ⟨2, false, rws eExt l⟩)]⟩ = some ((.exit 0, ⟨[(0, .ptr 0 0 0 1), (5, .sl 2000 0 e.1.length), (7, I t), (8, I e.2.1), (9, B e.2.2.1)], [(0, ⟨4, true, [[sl eExt e.2.2.2.1, I e.2.2.2.2.1, S e.2.2.2.2.2.1, I e.2.2.2.2.2.2]]⟩), (2000, ⟨2, false, rws eExt e.1⟩)]⟩)) := by
  refine loop_runG (S := (List Ext) × Int × (List Ext) × Int × (List UInt8) × Int) (eS := fun s => ⟨[(0, .ptr 0 0 0 1), (5, .sl 2000 0 s.1.length), (7, I t), (8, I s.2.1)], [(0, ⟨4, true, [[sl eExt s.2.2.1, I s.2.2.2.1, S s.2.2.2.2.1, I s.2.2.2.2.2]]⟩), (2000, ⟨2, false, rws eExt s.1⟩)]⟩) (eE := fun e => (.exit 0, ⟨[(0, .ptr 0 0 0 1), (5, .sl 2000 0 e.1.length), (7, I t), (8, I e.2.1), (9, B e.2.2.1)], [(0, ⟨4, true, [[sl eExt e.2.2.2.1, I e.2.2.2.2.1, S e.2.2.2.2.2.1, I e.2.2.2.2.2.2]]⟩), (2000, ⟨2, false, rws eExt e.1⟩)]⟩)) (fun e => ?_) (fun s o h => ?_) h
  · simp [alt]
  · obtain ⟨l, t2, c, c2, c3, c4⟩ := s
    simp only [i_Source_draws_1_s] at h
    show Rn tab ow _ _ ⟨[(0, .ptr 0 0 0 1), (5, .sl 2000 0 l.length), (7, I t), (8, I t2)], [(0, ⟨4, true, [[sl eExt c, I c2, S c3, I c4]]⟩), (2000, ⟨2, false, rws eExt l⟩)]⟩ = _
    simp +decide only [b_i_Source_draws_3, go_sem, reduceIte, Nat.reduceAdd]
    rcases brc h with ⟨hb, h⟩ | ⟨hb, h⟩
    · refine br_t hb ?_
      obtain ⟨r_, h1, h⟩ := bd h
      refine call_aft (i_Source_draw_c h1) ?_
      simp +decide only [go_sem, reduceIte, Nat.reduceAdd]
      obtain ⟨hb, h⟩ := brg h
      refine br_t hb ?_
      obtain rfl := Option.some.inj h
      first | rfl | (simp only [List.length_set, go_sem]; done)
    · refine br_f hb ?_
      obtain rfl := Option.some.inj h
      first | rfl | (simp only [List.length_set, go_sem]; done)
noncomputable def i_Source_draws (n : Int) (m : Source) : Option ((List Ext) × Source) :=
  (Loop (i_Source_draws_1_s n) (([] : List Ext), (0 : Int), m.Script, m.At, m.State, m.Count)).bind fun e_ =>
  some (e_.1, (Source.mk e_.2.2.2.1 e_.2.2.2.2.1 e_.2.2.2.2.2.1 e_.2.2.2.2.2.2))
theorem i_Source_draws_c {n : Int} {m : Source} {r : (List Ext) × Source} (h : i_Source_draws n m = some r) : Call tab ow 88 [.ptr 0 0 0 1, I n] [⟨4, true, [[sl eExt m.Script, I m.At, S m.State, I m.Count]]⟩] = some (sl eExt r.1, [⟨4, true, [[sl eExt r.2.Script, I r.2.At, S r.2.State, I r.2.Count]]⟩]) := by
  rw [run_i_Source_draws]
  unfold i_Source_draws at h
  simp +decide only [b_i_Source_draws, go_sem, reduceIte, Nat.reduceAdd]
  obtain ⟨e_, h1, h⟩ := bd h
  refine goR_of (i_Source_draws_1_l h1) ?_
  simp +decide only [go_sem, reduceIte, Nat.reduceAdd]
  obtain rfl := Option.some.inj h
  first | rfl | (simp only [List.length_set, go_sem]; done)
end
noncomputable def i_TakeSome (s : Source) (n : Int) : Option (Source × (List Ext) × Int) :=
  (i_SourceOK s).bind fun r_ =>
  br (!r_) (
    some ((Source.mk ([] : List Ext) (0 : Int) (([] : List UInt8)) (0 : Int)), ([] : List Ext), (1 : Int))) (
    (i_in n (0 : Int) (100 : Int)).bind fun r_2 =>
    br (!r_2) (
      some ((Source.mk ([] : List Ext) (0 : Int) (([] : List UInt8)) (0 : Int)), ([] : List Ext), (4 : Int))) (
      (i_Source_left s).bind fun r_3 =>
      br (decide (n > r_3)) (
        (i_Source_copied s).bind fun r_4 =>
        some (r_4, ([] : List Ext), (6 : Int))) (
        (i_Source_copied s).bind fun r_5 =>
        (i_Source_draws n r_5).bind fun r_6 =>
        some (r_6.2, r_6.1, (0 : Int)))))
theorem i_TakeSome_c {s : Source} {n : Int} {r : Source × (List Ext) × Int} (h : i_TakeSome s n = some r) : Call tab ow 22 [.agg [sl eExt s.Script, I s.At, S s.State, I s.Count], I n] [] = some (.tup [.agg [sl eExt r.1.Script, I r.1.At, S r.1.State, I r.1.Count], sl eExt r.2.1, I r.2.2], []) := by
  rw [run_i_TakeSome]
  unfold i_TakeSome at h
  simp +decide only [b_i_TakeSome, go_sem, reduceIte, Nat.reduceAdd]
  obtain ⟨r_, h1, h⟩ := bd h
  refine call_aft (i_SourceOK_c h1) ?_
  simp +decide only [go_sem, reduceIte, Nat.reduceAdd]
  rcases brc h with ⟨hb, h⟩ | ⟨hb, h⟩
  · refine br_t hb ?_
    obtain rfl := Option.some.inj h
    first | rfl | (simp only [List.length_set, go_sem]; done)
  · refine br_f hb ?_
    obtain ⟨r_2, h1, h⟩ := bd h
    refine call_aft (i_in_c h1) ?_
    simp +decide only [go_sem, reduceIte, Nat.reduceAdd]
    rcases brc h with ⟨hb, h⟩ | ⟨hb, h⟩
    · refine br_t hb ?_
      obtain rfl := Option.some.inj h
      first | rfl | (simp only [List.length_set, go_sem]; done)
    · refine br_f hb ?_
      obtain ⟨r_3, h1, h⟩ := bd h
      refine call_aft (i_Source_left_c h1) ?_
      simp +decide only [go_sem, reduceIte, Nat.reduceAdd]
      rcases brc h with ⟨hb, h⟩ | ⟨hb, h⟩
      · refine br_t hb ?_
        obtain ⟨r_4, h1, h⟩ := bd h
        refine call_aft (i_Source_copied_c h1) ?_
        simp +decide only [go_sem, reduceIte, Nat.reduceAdd]
        obtain rfl := Option.some.inj h
        first | rfl | (simp only [List.length_set, go_sem]; done)
      · refine br_f hb ?_
        obtain ⟨r_5, h1, h⟩ := bd h
        refine call_aft (i_Source_copied_c h1) ?_
        simp +decide only [go_sem, reduceIte, Nat.reduceAdd]
        obtain ⟨r_6, h1, h⟩ := bd h
        refine call_aft (i_Source_draws_c h1) ?_
        simp +decide only [go_sem, reduceIte, Nat.reduceAdd]
        obtain rfl := Option.some.inj h
        first | rfl | (simp only [List.length_set, go_sem]; done)
noncomputable def s_l05Spent (s : Source) (n : Int) : Option (Bool) :=
  br (decide (s.At > (IntKind.wrap .i64 ((1000000 : Int) - n)))) (
    some true) (
    some (decide (s.Count > (IntKind.wrap .i64 ((1000000 : Int) - n)))))
theorem s_l05Spent_c {s : Source} {n : Int} {r : Bool} (h : s_l05Spent s n = some r) : Call tab ow 89 [.agg [sl eExt s.Script, I s.At, S s.State, I s.Count], I n] [] = some (B r, []) := by
  rw [run_s_l05Spent]
  unfold s_l05Spent at h
  simp +decide only [b_s_l05Spent, go_sem, reduceIte, Nat.reduceAdd]
  rcases brc h with ⟨hb, h⟩ | ⟨hb, h⟩
  · refine br_t hb ?_
    obtain rfl := Option.some.inj h
    first | rfl | (simp only [List.length_set, go_sem]; done)
  · refine br_f hb ?_
    obtain rfl := Option.some.inj h
    first | rfl | (simp only [List.length_set, go_sem]; done)
section
theorem s_l05Some_k0 : mkR 2000 [] = rws eExt [] := rfl
attribute [local go_sem] s_l05Some_k0
theorem s_l05Some_k1 : mkR 8002 [] = rws eExt [] := rfl
attribute [local go_sem] s_l05Some_k1
noncomputable def s_l05Some_1_s (n2 : Int) (c5 : Int) (c6 : List UInt8) (c7 : Int) : (List Ext) × Int × (List Ext) × Int × (List UInt8) × Int → Option (((List Ext) × Int × (List Ext) × Int × (List UInt8) × Int) ⊕ (((List Ext) × Int × Bool × (List Ext) × Int × (List UInt8) × Int)))
  | (l, i, c, c2, c3, c4) =>
    br (decide (i < n2)) (
      (s_l05Draw (Source.mk c c2 c3 c4)).bind fun r_ =>
      br (fits ((l ++ ([r_.2] : List Ext)).length) 16) (
        some (.inl ((l ++ ([r_.2] : List Ext)), (IntKind.wrap .i64 (i + (1 : Int))), r_.1.Script, r_.1.At, r_.1.State, r_.1.Count))) (
        none)) (
      some (.inr (l, i, decide (i < n2), c, c2, c3, c4)))
theorem s_l05Some_1_l {n2 : Int} {c5 : Int} {c6 : List UInt8} {c7 : Int} {l : List Ext} {i : Int} {c : List Ext} {c2 : Int} {c3 : List UInt8} {c4 : Int} {e : ((List Ext) × Int × Bool × (List Ext) × Int × (List UInt8) × Int)} (h : Loop (s_l05Some_1_s n2 c5 c6 c7) (l, i, c, c2, c3, c4) = some e) : LoopX tab ow (.close [6001, 6005, 6006, 8002, 8003]) b_s_l05Some_3 ⟨[(1, I n2), (2, .ptr 1000 0 0 1), (4, .ptr 1001 0 0 1), (6, .sl 2000 0 l.length), (7, I i)], [(1000, ⟨4, true, [[sl eExt c, I c2, S c3, I c4]]⟩), (1001, ⟨4, true, [[.lit (.slice none 0 0), I c5, S c6, I c7]]⟩), (2000, ⟨2, false, rws eExt l⟩)]⟩ = some ((.exit 0, ⟨[(1, I n2), (2, .ptr 1000 0 0 1), (4, .ptr 1001 0 0 1), (6, .sl 2000 0 e.1.length), (7, I e.2.1), (13, B e.2.2.1)], [(1000, ⟨4, true, [[sl eExt e.2.2.2.1, I e.2.2.2.2.1, S e.2.2.2.2.2.1, I e.2.2.2.2.2.2]]⟩), (1001, ⟨4, true, [[.lit (.slice none 0 0), I c5, S c6, I c7]]⟩), (2000, ⟨2, false, rws eExt e.1⟩)]⟩)) := by
  refine loop_runG (S := (List Ext) × Int × (List Ext) × Int × (List UInt8) × Int) (eS := fun s => ⟨[(1, I n2), (2, .ptr 1000 0 0 1), (4, .ptr 1001 0 0 1), (6, .sl 2000 0 s.1.length), (7, I s.2.1)], [(1000, ⟨4, true, [[sl eExt s.2.2.1, I s.2.2.2.1, S s.2.2.2.2.1, I s.2.2.2.2.2]]⟩), (1001, ⟨4, true, [[.lit (.slice none 0 0), I c5, S c6, I c7]]⟩), (2000, ⟨2, false, rws eExt s.1⟩)]⟩) (eE := fun e => (.exit 0, ⟨[(1, I n2), (2, .ptr 1000 0 0 1), (4, .ptr 1001 0 0 1), (6, .sl 2000 0 e.1.length), (7, I e.2.1), (13, B e.2.2.1)], [(1000, ⟨4, true, [[sl eExt e.2.2.2.1, I e.2.2.2.2.1, S e.2.2.2.2.2.1, I e.2.2.2.2.2.2]]⟩), (1001, ⟨4, true, [[.lit (.slice none 0 0), I c5, S c6, I c7]]⟩), (2000, ⟨2, false, rws eExt e.1⟩)]⟩)) (fun e => ?_) (fun s o h => ?_) h
  · simp [alt]
  · obtain ⟨l, i, c, c2, c3, c4⟩ := s
    simp only [s_l05Some_1_s] at h
    show Rn tab ow _ _ ⟨[(1, I n2), (2, .ptr 1000 0 0 1), (4, .ptr 1001 0 0 1), (6, .sl 2000 0 l.length), (7, I i)], [(1000, ⟨4, true, [[sl eExt c, I c2, S c3, I c4]]⟩), (1001, ⟨4, true, [[.lit (.slice none 0 0), I c5, S c6, I c7]]⟩), (2000, ⟨2, false, rws eExt l⟩)]⟩ = _
    simp +decide only [b_s_l05Some_3, go_sem, reduceIte, Nat.reduceAdd]
    rcases brc h with ⟨hb, h⟩ | ⟨hb, h⟩
    · refine br_t hb ?_
      obtain ⟨r_, h1, h⟩ := bd h
      refine call_aft (s_l05Draw_c h1) ?_
      simp +decide only [go_sem, reduceIte, Nat.reduceAdd]
      obtain ⟨hb, h⟩ := brg h
      refine br_t hb ?_
      obtain rfl := Option.some.inj h
      first | rfl | (simp only [List.length_set, go_sem]; done)
    · refine br_f hb ?_
      obtain rfl := Option.some.inj h
      first | rfl | (simp only [List.length_set, go_sem]; done)
noncomputable def s_l05Some (s : Source) (n : Int) : Option (Source × (List Ext)) :=
  (Loop (s_l05Some_1_s n (0 : Int) (([] : List UInt8)) (0 : Int)) (([] : List Ext), (0 : Int), s.Script, s.At, s.State, s.Count)).bind fun e_ =>
  some ((Source.mk e_.2.2.2.1 e_.2.2.2.2.1 e_.2.2.2.2.2.1 e_.2.2.2.2.2.2), e_.1)
theorem s_l05Some_c {s : Source} {n : Int} {r : Source × (List Ext)} (h : s_l05Some s n = some r) : Call tab ow 90 [.agg [sl eExt s.Script, I s.At, S s.State, I s.Count], I n] [] = some (.tup [.agg [sl eExt r.1.Script, I r.1.At, S r.1.State, I r.1.Count], sl eExt r.2], []) := by
  rw [run_s_l05Some]
  unfold s_l05Some at h
  simp +decide only [b_s_l05Some, go_sem, reduceIte, Nat.reduceAdd]
  obtain ⟨e_, h1, h⟩ := bd h
  refine goR_of (s_l05Some_1_l h1) ?_
  simp +decide only [go_sem, reduceIte, Nat.reduceAdd]
  obtain rfl := Option.some.inj h
  first | rfl | (simp only [List.length_set, go_sem]; done)
end
section
theorem s_TakeSome_k0 : mkR 3001 [] = rws eExt [] := rfl
attribute [local go_sem] s_TakeSome_k0
theorem s_TakeSome_k1 : mkR 5001 [] = rws eExt [] := rfl
attribute [local go_sem] s_TakeSome_k1
theorem s_TakeSome_k2 : mkR 7002 [] = rws eExt [] := rfl
attribute [local go_sem] s_TakeSome_k2
noncomputable def s_TakeSome (s : Source) (n : Int) : Option (Source × (List Ext) × Int) :=
  (s_SourceOK s).bind fun r_ =>
  br (!r_) (
    some ((Source.mk ([] : List Ext) (0 : Int) (([] : List UInt8)) (0 : Int)), ([] : List Ext), (1 : Int))) (
    (s_l01In n (0 : Int) (100 : Int)).bind fun r_2 =>
    br (!r_2) (
      some ((Source.mk ([] : List Ext) (0 : Int) (([] : List UInt8)) (0 : Int)), ([] : List Ext), (4 : Int))) (
      (s_l05Spent s n).bind fun r_3 =>
      br r_3 (
        (s_l05Own s).bind fun r_4 =>
        some (r_4, ([] : List Ext), (6 : Int))) (
        (s_l05Some s n).bind fun r_5 =>
        (s_l05Own r_5.1).bind fun r_6 =>
        some (r_6, r_5.2, (0 : Int)))))
theorem s_TakeSome_c {s : Source} {n : Int} {r : Source × (List Ext) × Int} (h : s_TakeSome s n = some r) : Call tab ow 23 [.agg [sl eExt s.Script, I s.At, S s.State, I s.Count], I n] [] = some (.tup [.agg [sl eExt r.1.Script, I r.1.At, S r.1.State, I r.1.Count], sl eExt r.2.1, I r.2.2], []) := by
  rw [run_s_TakeSome]
  unfold s_TakeSome at h
  simp +decide only [b_s_TakeSome, go_sem, reduceIte, Nat.reduceAdd]
  obtain ⟨r_, h1, h⟩ := bd h
  refine call_aft (s_SourceOK_c h1) ?_
  simp +decide only [go_sem, reduceIte, Nat.reduceAdd]
  rcases brc h with ⟨hb, h⟩ | ⟨hb, h⟩
  · refine br_t hb ?_
    obtain rfl := Option.some.inj h
    first | rfl | (simp only [List.length_set, go_sem]; done)
  · refine br_f hb ?_
    obtain ⟨r_2, h1, h⟩ := bd h
    refine call_aft (s_l01In_c h1) ?_
    simp +decide only [go_sem, reduceIte, Nat.reduceAdd]
    rcases brc h with ⟨hb, h⟩ | ⟨hb, h⟩
    · refine br_t hb ?_
      obtain rfl := Option.some.inj h
      first | rfl | (simp only [List.length_set, go_sem]; done)
    · refine br_f hb ?_
      obtain ⟨r_3, h1, h⟩ := bd h
      refine call_aft (s_l05Spent_c h1) ?_
      simp +decide only [go_sem, reduceIte, Nat.reduceAdd]
      rcases brc h with ⟨hb, h⟩ | ⟨hb, h⟩
      · refine br_t hb ?_
        obtain ⟨r_4, h1, h⟩ := bd h
        refine call_aft (s_l05Own_c h1) ?_
        simp +decide only [go_sem, reduceIte, Nat.reduceAdd]
        obtain rfl := Option.some.inj h
        first | rfl | (simp only [List.length_set, go_sem]; done)
      · refine br_f hb ?_
        obtain ⟨r_5, h1, h⟩ := bd h
        refine call_aft (s_l05Some_c h1) ?_
        simp +decide only [go_sem, reduceIte, Nat.reduceAdd]
        obtain ⟨r_6, h1, h⟩ := bd h
        refine call_aft (s_l05Own_c h1) ?_
        simp +decide only [go_sem, reduceIte, Nat.reduceAdd]
        obtain rfl := Option.some.inj h
        first | rfl | (simp only [List.length_set, go_sem]; done)
end
noncomputable def w_sameExts_1_s (a2 : List Ext) (b2 : List Ext) : Int → Option ((Int) ⊕ (Unit ⊕ (Int × Bool)))
  | i =>
    br (decide (i < ((a2.length : Nat) : Int))) (
      (atL a2 i).bind fun x =>
      (atL b2 i).bind fun x2 =>
      br (x.A == x2.A) (
        br (x.B == x2.B) (
          some (.inl (IntKind.wrap .i64 (i + (1 : Int))))) (
          some (.inr (.inl ())))) (
        some (.inr (.inl ())))) (
      some (.inr (.inr (i, decide (i < ((a2.length : Nat) : Int))))))
theorem w_sameExts_1_l {a2 : List Ext} {b2 : List Ext} {i : Int} {e : Unit ⊕ (Int × Bool)} (h : Loop (w_sameExts_1_s a2 b2) i = some e) : LoopX tab ow (.close []) b_w_sameExts_4 ⟨[(0, sl eExt a2), (1, sl eExt b2), (5, I i)], []⟩ = some ((alt (fun e => ((.ret, ⟨[(4, B false)], []⟩) : AExit × St)) (fun e => (.exit 0, ⟨[(0, sl eExt a2), (1, sl eExt b2), (5, I e.1), (14, B e.2)], []⟩))) e) := by
  refine loop_runG (S := Int) (eS := fun s => ⟨[(0, sl eExt a2), (1, sl eExt b2), (5, I s)], []⟩) (eE := fun e => (alt (fun e => ((.ret, ⟨[(4, B false)], []⟩) : AExit × St)) (fun e => (.exit 0, ⟨[(0, sl eExt a2), (1, sl eExt b2), (5, I e.1), (14, B e.2)], []⟩))) e) (fun e => ?_) (fun i o h => ?_) h
  · rcases e with e | e <;> simp [alt]
  · skip
    simp only [w_sameExts_1_s] at h
    show Rn tab ow _ _ ⟨[(0, sl eExt a2), (1, sl eExt b2), (5, I i)], []⟩ = _
    simp +decide only [b_w_sameExts_4, go_sem, reduceIte, Nat.reduceAdd]
    rcases brc h with ⟨hb, h⟩ | ⟨hb, h⟩
    · refine br_t hb ?_
      obtain ⟨x, h1, h⟩ := bd h
      refine bind_some h1 ?_
      obtain ⟨x2, h1, h⟩ := bd h
      refine bind_some h1 ?_
      rcases brc h with ⟨hb, h⟩ | ⟨hb, h⟩
      · refine br_t hb ?_
        rcases brc h with ⟨hb, h⟩ | ⟨hb, h⟩
        · refine br_t hb ?_
          obtain rfl := Option.some.inj h
          first | rfl | (simp only [List.length_set, go_sem]; done)
        · refine br_f hb ?_
          obtain rfl := Option.some.inj h
          first | rfl | (simp only [List.length_set, go_sem]; done)
      · refine br_f hb ?_
        obtain rfl := Option.some.inj h
        first | rfl | (simp only [List.length_set, go_sem]; done)
    · refine br_f hb ?_
      obtain rfl := Option.some.inj h
      first | rfl | (simp only [List.length_set, go_sem]; done)
noncomputable def w_sameExts (a : (List Ext)) (b : (List Ext)) : Option (Bool) :=
  br (((a.length : Nat) : Int) != ((b.length : Nat) : Int)) (
    some false) (
    (Loop (w_sameExts_1_s a b) (0 : Int)).bind (alt (fun e_2 =>
      some false) (fun e_3 =>
      some true)))
theorem w_sameExts_c {a : (List Ext)} {b : (List Ext)} {r : Bool} (h : w_sameExts a b = some r) : Call tab ow 25 [sl eExt a, sl eExt b] [] = some (B r, []) := by
  rw [run_w_sameExts]
  unfold w_sameExts at h
  simp +decide only [b_w_sameExts, go_sem, reduceIte, Nat.reduceAdd]
  rcases brc h with ⟨hb, h⟩ | ⟨hb, h⟩
  · refine br_t hb ?_
    obtain rfl := Option.some.inj h
    first | rfl | (simp only [List.length_set, go_sem]; done)
  · refine br_f hb ?_
    obtain ⟨e_, h1, h⟩ := bd h
    refine goR_of (w_sameExts_1_l h1) ?_
    rcases e_ with e_2 | e_3
    · simp +decide only [go_sem, reduceIte, Nat.reduceAdd]
      obtain rfl := Option.some.inj h
      first | rfl | (simp only [List.length_set, go_sem]; done)
    · simp +decide only [go_sem, reduceIte, Nat.reduceAdd]
      obtain rfl := Option.some.inj h
      first | rfl | (simp only [List.length_set, go_sem]; done)
noncomputable def w_sameSource (a : Source) (b : Source) : Option (Bool) :=
  (w_sameExts a.Script b.Script).bind fun r_ =>
  br r_ (
    br (a.At == b.At) (
      br (a.State == b.State) (
        some (a.Count == b.Count)) (
        some false)) (
      some false)) (
    some false)
theorem w_sameSource_c {a : Source} {b : Source} {r : Bool} (h : w_sameSource a b = some r) : Call tab ow 24 [.agg [sl eExt a.Script, I a.At, S a.State, I a.Count], .agg [sl eExt b.Script, I b.At, S b.State, I b.Count]] [] = some (B r, []) := by
  rw [run_w_sameSource]
  unfold w_sameSource at h
  simp +decide only [b_w_sameSource, go_sem, reduceIte, Nat.reduceAdd]
  obtain ⟨r_, h1, h⟩ := bd h
  refine call_aft (w_sameExts_c h1) ?_
  simp +decide only [go_sem, reduceIte, Nat.reduceAdd]
  rcases brc h with ⟨hb, h⟩ | ⟨hb, h⟩
  · refine br_t hb ?_
    rcases brc h with ⟨hb, h⟩ | ⟨hb, h⟩
    · refine br_t hb ?_
      rcases brc h with ⟨hb, h⟩ | ⟨hb, h⟩
      · refine br_t hb ?_
        obtain rfl := Option.some.inj h
        first | rfl | (simp only [List.length_set, go_sem]; done)
      · refine br_f hb ?_
        obtain rfl := Option.some.inj h
        first | rfl | (simp only [List.length_set, go_sem]; done)
    · refine br_f hb ?_
      obtain rfl := Option.some.inj h
      first | rfl | (simp only [List.length_set, go_sem]; done)
  · refine br_f hb ?_
    obtain rfl := Option.some.inj h
    first | rfl | (simp only [List.length_set, go_sem]; done)
noncomputable def i_TakeOne (s : Source) : Option (Source × Ext × Int) :=
  (i_TakeSome s (1 : Int)).bind fun r_ =>
  br (r_.2.2 != (0 : Int)) (
    some (r_.1, (Ext.mk (0 : Int) (0 : Int)), r_.2.2)) (
    (atL r_.2.1 (0 : Int)).bind fun x =>
    some (r_.1, x, (0 : Int)))
theorem i_TakeOne_c {s : Source} {r : Source × Ext × Int} (h : i_TakeOne s = some r) : Call tab ow 27 [.agg [sl eExt s.Script, I s.At, S s.State, I s.Count]] [] = some (.tup [.agg [sl eExt r.1.Script, I r.1.At, S r.1.State, I r.1.Count], .agg [I r.2.1.A, I r.2.1.B], I r.2.2], []) := by
  rw [run_i_TakeOne]
  unfold i_TakeOne at h
  simp +decide only [b_i_TakeOne, go_sem, reduceIte, Nat.reduceAdd]
  obtain ⟨r_, h1, h⟩ := bd h
  refine call_aft (i_TakeSome_c h1) ?_
  simp +decide only [go_sem, reduceIte, Nat.reduceAdd]
  rcases brc h with ⟨hb, h⟩ | ⟨hb, h⟩
  · refine br_t hb ?_
    obtain rfl := Option.some.inj h
    first | rfl | (simp only [List.length_set, go_sem]; done)
  · refine br_f hb ?_
    obtain ⟨x, h1, h⟩ := bd h
    refine bind_some h1 ?_
    obtain rfl := Option.some.inj h
    first | rfl | (simp only [List.length_set, go_sem]; done)
section
theorem i_four_o_k0 : mkR 2012 [] = rws eU8 [] := rfl
attribute [local go_sem] i_four_o_k0
noncomputable def i_four_o (n : Int) (l : List UInt8) : Option ((List UInt8)) :=
  br (fits ((l ++ ([(UInt8.ofInt (shr64 .i64 n (24 : Int))), (UInt8.ofInt (shr64 .i64 n (16 : Int))), (UInt8.ofInt (shr64 .i64 n (8 : Int))), (UInt8.ofInt n)] : List UInt8)).length) 1) (
    some (l ++ ([(UInt8.ofInt (shr64 .i64 n (24 : Int))), (UInt8.ofInt (shr64 .i64 n (16 : Int))), (UInt8.ofInt (shr64 .i64 n (8 : Int))), (UInt8.ofInt n)] : List UInt8))) (
    none)
theorem i_four_o_c {n : Int} {l : List UInt8} {r : (List UInt8)} (h : i_four_o n l = some r) : Call tab ow 156 [.sl 0 0 l.length, I n] [⟨1, false, rws eU8 l⟩] = some (.sl 0 0 r.length, [⟨1, false, rws eU8 r⟩]) := by
  rw [run_i_four]
  unfold i_four_o at h
  simp +decide only [b_i_four, go_sem, reduceIte, Nat.reduceAdd]
  obtain ⟨hb, h⟩ := brg h
  refine br_t hb ?_
  obtain rfl := Option.some.inj h
  first | rfl | (simp only [List.length_set, go_sem]; done)
end
section
theorem i_extBytes_k0 : mkR 2000 [] = rws eU8 [] := rfl
attribute [local go_sem] i_extBytes_k0
noncomputable def i_extBytes_1_s (t : List Ext) (t2 : Int) : (List UInt8) × Int → Option (((List UInt8) × Int) ⊕ (((List UInt8) × Int × Bool)))
  | (l, t3) =>
    br (decide (t3 < t2)) (
      (atL t t3).bind fun x =>
      (i_four_o x.A l).bind fun r_ =>
      (i_four_o x.B r_).bind fun r_2 =>
      some (.inl (r_2, (IntKind.wrap .i64 (t3 + (1 : Int)))))) (
      some (.inr (l, t3, decide (t3 < t2))))
theorem i_extBytes_1_l {t : List Ext} {t2 : Int} {l : List UInt8} {t3 : Int} {e : ((List UInt8) × Int × Bool)} (h : Loop (i_extBytes_1_s t t2) (l, t3) = some e) : LoopX tab ow (.close [5002, 6003, 6006]) b_i_extBytes_3 ⟨[(3, .sl 2000 0 l.length), (7, sl eExt t), (8, I t2), (9, I t3)], [(2000, ⟨1, false, rws eU8 l⟩)]⟩ = some ((.exit 0, ⟨[(3, .sl 2000 0 e.1.length), (7, sl eExt t), (8, I t2), (9, I e.2.1), (10, B e.2.2)], [(2000, ⟨1, false, rws eU8 e.1⟩)]⟩)) := by
  refine loop_runG (S := (List UInt8) × Int) (eS := fun s => ⟨[(3, .sl 2000 0 s.1.length), (7, sl eExt t), (8, I t2), (9, I s.2)], [(2000, ⟨1, false, rws eU8 s.1⟩)]⟩) (eE := fun e => (.exit 0, ⟨[(3, .sl 2000 0 e.1.length), (7, sl eExt t), (8, I t2), (9, I e.2.1), (10, B e.2.2)], [(2000, ⟨1, false, rws eU8 e.1⟩)]⟩)) (fun e => ?_) (fun s o h => ?_) h
  · simp [alt]
  · obtain ⟨l, t3⟩ := s
    simp only [i_extBytes_1_s] at h
    show Rn tab ow _ _ ⟨[(3, .sl 2000 0 l.length), (7, sl eExt t), (8, I t2), (9, I t3)], [(2000, ⟨1, false, rws eU8 l⟩)]⟩ = _
    simp +decide only [b_i_extBytes_3, go_sem, reduceIte, Nat.reduceAdd]
    rcases brc h with ⟨hb, h⟩ | ⟨hb, h⟩
    · refine br_t hb ?_
      obtain ⟨x, h1, h⟩ := bd h
      refine bind_some h1 ?_
      obtain ⟨r_, h1, h⟩ := bd h
      refine call_aftD (i_four_o_c h1) ?_
      simp +decide only [go_sem, reduceIte, Nat.reduceAdd]
      obtain ⟨r_2, h1, h⟩ := bd h
      refine call_aftD (i_four_o_c h1) ?_
      simp +decide only [go_sem, reduceIte, Nat.reduceAdd]
      obtain rfl := Option.some.inj h
      first | rfl | (simp only [List.length_set, go_sem]; done)
    · refine br_f hb ?_
      obtain rfl := Option.some.inj h
      first | rfl | (simp only [List.length_set, go_sem]; done)
noncomputable def i_extBytes (list : (List Ext)) : Option ((List UInt8)) :=
  (Loop (i_extBytes_1_s list ((list.length : Nat) : Int)) (([] : List UInt8), (0 : Int))).bind fun e_ =>
  some e_.1
theorem i_extBytes_c {list : (List Ext)} {r : (List UInt8)} (h : i_extBytes list = some r) : Call tab ow 163 [sl eExt list] [] = some (sl eU8 r, []) := by
  rw [run_i_extBytes]
  unfold i_extBytes at h
  simp +decide only [b_i_extBytes, go_sem, reduceIte, Nat.reduceAdd]
  obtain ⟨e_, h1, h⟩ := bd h
  refine goR_of (i_extBytes_1_l h1) ?_
  simp +decide only [go_sem, reduceIte, Nat.reduceAdd]
  obtain rfl := Option.some.inj h
  first | rfl | (simp only [List.length_set, go_sem]; done)
end
noncomputable def i_Source_absorbExts (list : (List Ext)) (m : Source) : Option (Source) :=
  (i_extBytes list).bind fun r_ =>
  (i_Source_absorb r_ m).bind fun r_2 =>
  some r_2
theorem i_Source_absorbExts_c {list : (List Ext)} {m : Source} {r : Source} (h : i_Source_absorbExts list m = some r) : Call tab ow 94 [.ptr 0 0 0 1, sl eExt list] [⟨4, true, [[sl eExt m.Script, I m.At, S m.State, I m.Count]]⟩] = some (.tup [], [⟨4, true, [[sl eExt r.Script, I r.At, S r.State, I r.Count]]⟩]) := by
  rw [run_i_Source_absorbExts]
  unfold i_Source_absorbExts at h
  simp +decide only [b_i_Source_absorbExts, go_sem, reduceIte, Nat.reduceAdd]
  obtain ⟨r_, h1, h⟩ := bd h
  refine call_aft (i_extBytes_c h1) ?_
  simp +decide only [go_sem, reduceIte, Nat.reduceAdd]
  obtain ⟨r_2, h1, h⟩ := bd h
  refine call_aft (i_Source_absorb_c h1) ?_
  simp +decide only [go_sem, reduceIte, Nat.reduceAdd]
  obtain rfl := Option.some.inj h
  first | rfl | (simp only [List.length_set, go_sem]; done)
noncomputable def i_AbsorbExts (s : Source) (list : (List Ext)) : Option (Source × Int) :=
  br (decide (((list.length : Nat) : Int) > (4096 : Int))) (
    some ((Source.mk ([] : List Ext) (0 : Int) (([] : List UInt8)) (0 : Int)), (2 : Int))) (
    (i_SourceOK s).bind fun r_ =>
    br (!r_) (
      some ((Source.mk ([] : List Ext) (0 : Int) (([] : List UInt8)) (0 : Int)), (1 : Int))) (
      (i_are_i_Ext_ExtOK list).bind fun r_2 =>
      br (!r_2) (
        some ((Source.mk ([] : List Ext) (0 : Int) (([] : List UInt8)) (0 : Int)), (1 : Int))) (
        (i_Source_copied s).bind fun r_3 =>
        (i_Source_absorbExts list r_3).bind fun r_4 =>
        some (r_4, (0 : Int)))))
theorem i_AbsorbExts_c {s : Source} {list : (List Ext)} {r : Source × Int} (h : i_AbsorbExts s list = some r) : Call tab ow 28 [.agg [sl eExt s.Script, I s.At, S s.State, I s.Count], sl eExt list] [] = some (.tup [.agg [sl eExt r.1.Script, I r.1.At, S r.1.State, I r.1.Count], I r.2], []) := by
  rw [run_i_AbsorbExts]
  unfold i_AbsorbExts at h
  simp +decide only [b_i_AbsorbExts, go_sem, reduceIte, Nat.reduceAdd]
  rcases brc h with ⟨hb, h⟩ | ⟨hb, h⟩
  · refine br_t hb ?_
    obtain rfl := Option.some.inj h
    first | rfl | (simp only [List.length_set, go_sem]; done)
  · refine br_f hb ?_
    obtain ⟨r_, h1, h⟩ := bd h
    refine call_aft (i_SourceOK_c h1) ?_
    simp +decide only [go_sem, reduceIte, Nat.reduceAdd]
    rcases brc h with ⟨hb, h⟩ | ⟨hb, h⟩
    · refine br_t hb ?_
      obtain rfl := Option.some.inj h
      first | rfl | (simp only [List.length_set, go_sem]; done)
    · refine br_f hb ?_
      obtain ⟨r_2, h1, h⟩ := bd h
      refine call_aft (i_are_i_Ext_ExtOK_c h1) ?_
      simp +decide only [go_sem, reduceIte, Nat.reduceAdd]
      rcases brc h with ⟨hb, h⟩ | ⟨hb, h⟩
      · refine br_t hb ?_
        obtain rfl := Option.some.inj h
        first | rfl | (simp only [List.length_set, go_sem]; done)
      · refine br_f hb ?_
        obtain ⟨r_3, h1, h⟩ := bd h
        refine call_aft (i_Source_copied_c h1) ?_
        simp +decide only [go_sem, reduceIte, Nat.reduceAdd]
        obtain ⟨r_4, h1, h⟩ := bd h
        refine call_aft (i_Source_absorbExts_c h1) ?_
        simp +decide only [go_sem, reduceIte, Nat.reduceAdd]
        obtain rfl := Option.some.inj h
        first | rfl | (simp only [List.length_set, go_sem]; done)
section
theorem s_l02Bytes_k0 : mkR 2000 [] = rws eU8 [] := rfl
attribute [local go_sem] s_l02Bytes_k0
noncomputable def s_l02Bytes_1_s (list2 : List Ext) : (List UInt8) × Int → Option (((List UInt8) × Int) ⊕ (((List UInt8) × Int × Bool)))
  | (l, i) =>
    br (decide (i < ((list2.length : Nat) : Int))) (
      (atL list2 i).bind fun x =>
      (s_l02Number x.A (4 : Int)).bind fun r_ =>
      br (fits ((l ++ r_).length) 1) (
        (atL list2 i).bind fun x2 =>
        (s_l02Number x2.B (4 : Int)).bind fun r_2 =>
        br (fits (((l ++ r_) ++ r_2).length) 1) (
          some (.inl (((l ++ r_) ++ r_2), (IntKind.wrap .i64 (i + (1 : Int)))))) (
          none)) (
        none)) (
      some (.inr (l, i, decide (i < ((list2.length : Nat) : Int)))))
theorem s_l02Bytes_1_l {list2 : List Ext} {l : List UInt8} {i : Int} {e : ((List UInt8) × Int × Bool)} (h : Loop (s_l02Bytes_1_s list2) (l, i) = some e) : LoopX tab ow (.close [6006, 6007, 6013, 6014]) b_s_l02Bytes_3 ⟨[(0, sl eExt list2), (3, .sl 2000 0 l.length), (4, I i)], [(2000, ⟨1, false, rws eU8 l⟩)]⟩ = some ((.exit 0, ⟨[(0, sl eExt list2), (3, .sl 2000 0 e.1.length), (4, I e.2.1), (9, B e.2.2)], [(2000, ⟨1, false, rws eU8 e.1⟩)]⟩)) := by
  refine loop_runG (S := (List UInt8) × Int) (eS := fun s => ⟨[(0, sl eExt list2), (3, .sl 2000 0 s.1.length), (4, I s.2)], [(2000, ⟨1, false, rws eU8 s.1⟩)]⟩) (eE := fun e => (.exit 0, ⟨[(0, sl eExt list2), (3, .sl 2000 0 e.1.length), (4, I e.2.1), (9, B e.2.2)], [(2000, ⟨1, false, rws eU8 e.1⟩)]⟩)) (fun e => ?_) (fun s o h => ?_) h
  · simp [alt]
  · obtain ⟨l, i⟩ := s
    simp only [s_l02Bytes_1_s] at h
    show Rn tab ow _ _ ⟨[(0, sl eExt list2), (3, .sl 2000 0 l.length), (4, I i)], [(2000, ⟨1, false, rws eU8 l⟩)]⟩ = _
    simp +decide only [b_s_l02Bytes_3, go_sem, reduceIte, Nat.reduceAdd]
    rcases brc h with ⟨hb, h⟩ | ⟨hb, h⟩
    · refine br_t hb ?_
      obtain ⟨x, h1, h⟩ := bd h
      refine bind_some h1 ?_
      obtain ⟨r_, h1, h⟩ := bd h
      refine call_aftD (s_l02Number_c h1) ?_
      simp +decide only [go_sem, reduceIte, Nat.reduceAdd]
      obtain ⟨hb, h⟩ := brg h
      refine br_t hb ?_
      obtain ⟨x2, h1, h⟩ := bd h
      refine bind_some h1 ?_
      obtain ⟨r_2, h1, h⟩ := bd h
      refine call_aftD (s_l02Number_c h1) ?_
      simp +decide only [go_sem, reduceIte, Nat.reduceAdd]
      obtain ⟨hb, h⟩ := brg h
      refine br_t hb ?_
      obtain rfl := Option.some.inj h
      first | rfl | (simp only [List.length_set, go_sem]; done)
    · refine br_f hb ?_
      obtain rfl := Option.some.inj h
      first | rfl | (simp only [List.length_set, go_sem]; done)
noncomputable def s_l02Bytes (list : (List Ext)) : Option ((List UInt8)) :=
  (Loop (s_l02Bytes_1_s list) (([] : List UInt8), (0 : Int))).bind fun e_ =>
  some e_.1
theorem s_l02Bytes_c {list : (List Ext)} {r : (List UInt8)} (h : s_l02Bytes list = some r) : Call tab ow 164 [sl eExt list] [] = some (sl eU8 r, []) := by
  rw [run_s_l02Bytes]
  unfold s_l02Bytes at h
  simp +decide only [b_s_l02Bytes, go_sem, reduceIte, Nat.reduceAdd]
  obtain ⟨e_, h1, h⟩ := bd h
  refine goR_of (s_l02Bytes_1_l h1) ?_
  simp +decide only [go_sem, reduceIte, Nat.reduceAdd]
  obtain rfl := Option.some.inj h
  first | rfl | (simp only [List.length_set, go_sem]; done)
end
noncomputable def s_l05Exts (s : Source) (list : (List Ext)) : Option (Source) :=
  (s_l02Bytes list).bind fun r_ =>
  (s_l05Absorb s r_).bind fun r_2 =>
  some r_2
theorem s_l05Exts_c {s : Source} {list : (List Ext)} {r : Source} (h : s_l05Exts s list = some r) : Call tab ow 96 [.agg [sl eExt s.Script, I s.At, S s.State, I s.Count], sl eExt list] [] = some (.agg [sl eExt r.Script, I r.At, S r.State, I r.Count], []) := by
  rw [run_s_l05Exts]
  unfold s_l05Exts at h
  simp +decide only [b_s_l05Exts, go_sem, reduceIte, Nat.reduceAdd]
  obtain ⟨r_, h1, h⟩ := bd h
  refine call_aftD (s_l02Bytes_c h1) ?_
  simp +decide only [go_sem, reduceIte, Nat.reduceAdd]
  obtain ⟨r_2, h1, h⟩ := bd h
  refine call_aftD (s_l05Absorb_c h1) ?_
  simp +decide only [go_sem, reduceIte, Nat.reduceAdd]
  obtain rfl := Option.some.inj h
  first | rfl | (simp only [List.length_set, go_sem]; done)
noncomputable def s_AbsorbExts (s : Source) (list : (List Ext)) : Option (Source × Int) :=
  br (decide (((list.length : Nat) : Int) > (4096 : Int))) (
    some ((Source.mk ([] : List Ext) (0 : Int) (([] : List UInt8)) (0 : Int)), (2 : Int))) (
    (s_SourceOK s).bind fun r_ =>
    br (!r_) (
      some ((Source.mk ([] : List Ext) (0 : Int) (([] : List UInt8)) (0 : Int)), (1 : Int))) (
      (s_l02List list).bind fun r_2 =>
      br (!r_2) (
        some ((Source.mk ([] : List Ext) (0 : Int) (([] : List UInt8)) (0 : Int)), (1 : Int))) (
        (s_l05Exts s list).bind fun r_3 =>
        (s_l05Own r_3).bind fun r_4 =>
        some (r_4, (0 : Int)))))
theorem s_AbsorbExts_c {s : Source} {list : (List Ext)} {r : Source × Int} (h : s_AbsorbExts s list = some r) : Call tab ow 29 [.agg [sl eExt s.Script, I s.At, S s.State, I s.Count], sl eExt list] [] = some (.tup [.agg [sl eExt r.1.Script, I r.1.At, S r.1.State, I r.1.Count], I r.2], []) := by
  rw [run_s_AbsorbExts]
  unfold s_AbsorbExts at h
  simp +decide only [b_s_AbsorbExts, go_sem, reduceIte, Nat.reduceAdd]
  rcases brc h with ⟨hb, h⟩ | ⟨hb, h⟩
  · refine br_t hb ?_
    obtain rfl := Option.some.inj h
    first | rfl | (simp only [List.length_set, go_sem]; done)
  · refine br_f hb ?_
    obtain ⟨r_, h1, h⟩ := bd h
    refine call_aft (s_SourceOK_c h1) ?_
    simp +decide only [go_sem, reduceIte, Nat.reduceAdd]
    rcases brc h with ⟨hb, h⟩ | ⟨hb, h⟩
    · refine br_t hb ?_
      obtain rfl := Option.some.inj h
      first | rfl | (simp only [List.length_set, go_sem]; done)
    · refine br_f hb ?_
      obtain ⟨r_2, h1, h⟩ := bd h
      refine call_aft (s_l02List_c h1) ?_
      simp +decide only [go_sem, reduceIte, Nat.reduceAdd]
      rcases brc h with ⟨hb, h⟩ | ⟨hb, h⟩
      · refine br_t hb ?_
        obtain rfl := Option.some.inj h
        first | rfl | (simp only [List.length_set, go_sem]; done)
      · refine br_f hb ?_
        obtain ⟨r_3, h1, h⟩ := bd h
        refine call_aft (s_l05Exts_c h1) ?_
        simp +decide only [go_sem, reduceIte, Nat.reduceAdd]
        obtain ⟨r_4, h1, h⟩ := bd h
        refine call_aft (s_l05Own_c h1) ?_
        simp +decide only [go_sem, reduceIte, Nat.reduceAdd]
        obtain rfl := Option.some.inj h
        first | rfl | (simp only [List.length_set, go_sem]; done)
section
theorem i_places_k0 : mkR 2000 [] = rws eI [] := rfl
attribute [local go_sem] i_places_k0
theorem i_places_k1 : mkR 6005 [] = rws eI [] := rfl
attribute [local go_sem] i_places_k1
noncomputable def i_places_1_s (most2 : Int) (t : List Ext) (t2 : Int) : (List Int) × Int → Option (((List Int) × Int) ⊕ (((List Int) × Int × Bool)))
  | (l, t3) =>
    br (decide (t3 < t2)) (
      (atL t t3).bind fun x =>
      br (decide (most2 ≠ 0)) (
        br (fits ((l ++ ([(x.A.tmod most2)] : List Int)).length) 8) (
          some (.inl ((l ++ ([(x.A.tmod most2)] : List Int)), (IntKind.wrap .i64 (t3 + (1 : Int)))))) (
          none)) (
        none)) (
      some (.inr (l, t3, decide (t3 < t2))))
theorem i_places_1_l {most2 : Int} {t : List Ext} {t2 : Int} {l : List Int} {t3 : Int} {e : ((List Int) × Int × Bool)} (h : Loop (i_places_1_s most2 t t2) (l, t3) = some e) : LoopX tab ow (.close [5002, 6005, 6006]) b_i_places_3 ⟨[(1, I most2), (5, .sl 2000 0 l.length), (9, sl eExt t), (10, I t2), (11, I t3)], [(2000, ⟨1, false, rws eI l⟩)]⟩ = some ((.exit 0, ⟨[(1, I most2), (5, .sl 2000 0 e.1.length), (9, sl eExt t), (10, I t2), (11, I e.2.1), (12, B e.2.2)], [(2000, ⟨1, false, rws eI e.1⟩)]⟩)) := by
  refine loop_runG (S := (List Int) × Int) (eS := fun s => ⟨[(1, I most2), (5, .sl 2000 0 s.1.length), (9, sl eExt t), (10, I t2), (11, I s.2)], [(2000, ⟨1, false, rws eI s.1⟩)]⟩) (eE := fun e => (.exit 0, ⟨[(1, I most2), (5, .sl 2000 0 e.1.length), (9, sl eExt t), (10, I t2), (11, I e.2.1), (12, B e.2.2)], [(2000, ⟨1, false, rws eI e.1⟩)]⟩)) (fun e => ?_) (fun s o h => ?_) h
  · simp [alt]
  · obtain ⟨l, t3⟩ := s
    simp only [i_places_1_s] at h
    show Rn tab ow _ _ ⟨[(1, I most2), (5, .sl 2000 0 l.length), (9, sl eExt t), (10, I t2), (11, I t3)], [(2000, ⟨1, false, rws eI l⟩)]⟩ = _
    simp +decide only [b_i_places_3, go_sem, reduceIte, Nat.reduceAdd]
    rcases brc h with ⟨hb, h⟩ | ⟨hb, h⟩
    · refine br_t hb ?_
      obtain ⟨x, h1, h⟩ := bd h
      refine bind_some h1 ?_
      obtain ⟨hb, h⟩ := brg h
      refine br_t hb ?_
      obtain ⟨hb, h⟩ := brg h
      refine br_t hb ?_
      obtain rfl := Option.some.inj h
      first | rfl | (simp only [List.length_set, go_sem]; done)
    · refine br_f hb ?_
      obtain rfl := Option.some.inj h
      first | rfl | (simp only [List.length_set, go_sem]; done)
noncomputable def i_places (list : (List Ext)) (most : Int) : Option ((List Int)) :=
  (Loop (i_places_1_s most list ((list.length : Nat) : Int)) (([] : List Int), (0 : Int))).bind fun e_ =>
  some e_.1
theorem i_places_c {list : (List Ext)} {most : Int} {r : (List Int)} (h : i_places list most = some r) : Call tab ow 97 [sl eExt list, I most] [] = some (sl eI r, []) := by
  rw [run_i_places]
  unfold i_places at h
  simp +decide only [b_i_places, go_sem, reduceIte, Nat.reduceAdd]
  obtain ⟨e_, h1, h⟩ := bd h
  refine goR_of (i_places_1_l h1) ?_
  simp +decide only [go_sem, reduceIte, Nat.reduceAdd]
  obtain rfl := Option.some.inj h
  first | rfl | (simp only [List.length_set, go_sem]; done)
end
noncomputable def i_TakePlaces (s : Source) (n : Int) (most : Int) : Option (Source × (List Int) × Int) :=
  (i_SourceOK s).bind fun r_ =>
  br (!r_) (
    some ((Source.mk ([] : List Ext) (0 : Int) (([] : List UInt8)) (0 : Int)), ([] : List Int), (1 : Int))) (
    (i_in n (0 : Int) (100 : Int)).bind fun r_2 =>
    br (!r_2) (
      some ((Source.mk ([] : List Ext) (0 : Int) (([] : List UInt8)) (0 : Int)), ([] : List Int), (4 : Int))) (
      (i_in most (1 : Int) (65536 : Int)).bind fun r_3 =>
      br (!r_3) (
        some ((Source.mk ([] : List Ext) (0 : Int) (([] : List UInt8)) (0 : Int)), ([] : List Int), (4 : Int))) (
        (i_TakeSome s n).bind fun r_4 =>
        br (r_4.2.2 != (0 : Int)) (
          some (r_4.1, ([] : List Int), r_4.2.2)) (
          (i_places r_4.2.1 most).bind fun r_5 =>
          some (r_4.1, r_5, (0 : Int))))))
theorem i_TakePlaces_c {s : Source} {n : Int} {most : Int} {r : Source × (List Int) × Int} (h : i_TakePlaces s n most = some r) : Call tab ow 30 [.agg [sl eExt s.Script, I s.At, S s.State, I s.Count], I n, I most] [] = some (.tup [.agg [sl eExt r.1.Script, I r.1.At, S r.1.State, I r.1.Count], sl eI r.2.1, I r.2.2], []) := by
  rw [run_i_TakePlaces]
  unfold i_TakePlaces at h
  simp +decide only [b_i_TakePlaces, go_sem, reduceIte, Nat.reduceAdd]
  obtain ⟨r_, h1, h⟩ := bd h
  refine call_aft (i_SourceOK_c h1) ?_
  simp +decide only [go_sem, reduceIte, Nat.reduceAdd]
  rcases brc h with ⟨hb, h⟩ | ⟨hb, h⟩
  · refine br_t hb ?_
    obtain rfl := Option.some.inj h
    first | rfl | (simp only [List.length_set, go_sem]; done)
  · refine br_f hb ?_
    obtain ⟨r_2, h1, h⟩ := bd h
    refine call_aft (i_in_c h1) ?_
    simp +decide only [go_sem, reduceIte, Nat.reduceAdd]
    rcases brc h with ⟨hb, h⟩ | ⟨hb, h⟩
    · refine br_t hb ?_
      obtain rfl := Option.some.inj h
      first | rfl | (simp only [List.length_set, go_sem]; done)
    · refine br_f hb ?_
      obtain ⟨r_3, h1, h⟩ := bd h
      refine call_aft (i_in_c h1) ?_
      simp +decide only [go_sem, reduceIte, Nat.reduceAdd]
      rcases brc h with ⟨hb, h⟩ | ⟨hb, h⟩
      · refine br_t hb ?_
        obtain rfl := Option.some.inj h
        first | rfl | (simp only [List.length_set, go_sem]; done)
      · refine br_f hb ?_
        obtain ⟨r_4, h1, h⟩ := bd h
        refine call_aft (i_TakeSome_c h1) ?_
        simp +decide only [go_sem, reduceIte, Nat.reduceAdd]
        rcases brc h with ⟨hb, h⟩ | ⟨hb, h⟩
        · refine br_t hb ?_
          obtain rfl := Option.some.inj h
          first | rfl | (simp only [List.length_set, go_sem]; done)
        · refine br_f hb ?_
          obtain ⟨r_5, h1, h⟩ := bd h
          refine call_aftD (i_places_c h1) ?_
          simp +decide only [go_sem, reduceIte, Nat.reduceAdd]
          obtain rfl := Option.some.inj h
          first | rfl | (simp only [List.length_set, go_sem]; done)
section
theorem s_l05Places_k0 : mkR 3000 [] = rws eI [] := rfl
attribute [local go_sem] s_l05Places_k0
theorem s_l05Places_k1 : mkR 7008 [] = rws eI [] := rfl
attribute [local go_sem] s_l05Places_k1
noncomputable def s_l05Places_1_s (n2 : Int) (most2 : Int) (list : List Ext) (c : List Ext) (c2 : Int) (c3 : List UInt8) (c4 : Int) (c5 : Int) (c6 : List UInt8) (c7 : Int) (c8 : List Ext) (c9 : Int) (c10 : List UInt8) (c11 : Int) : (List Int) × Int → Option (((List Int) × Int) ⊕ (((List Int) × Int × Bool)))
  | (l, i) =>
    br (decide (i < n2)) (
      (atL list i).bind fun x =>
      br (decide (most2 ≠ 0)) (
        br (fits ((l ++ ([(x.A.tmod most2)] : List Int)).length) 8) (
          some (.inl ((l ++ ([(x.A.tmod most2)] : List Int)), (IntKind.wrap .i64 (i + (1 : Int)))))) (
          none)) (
        none)) (
      some (.inr (l, i, decide (i < n2))))
theorem s_l05Places_1_l {n2 : Int} {most2 : Int} {list : List Ext} {c : List Ext} {c2 : Int} {c3 : List UInt8} {c4 : Int} {c5 : Int} {c6 : List UInt8} {c7 : Int} {c8 : List Ext} {c9 : Int} {c10 : List UInt8} {c11 : Int} {l : List Int} {i : Int} {e : ((List Int) × Int × Bool)} (h : Loop (s_l05Places_1_s n2 most2 list c c2 c3 c4 c5 c6 c7 c8 c9 c10 c11) (l, i) = some e) : LoopX tab ow (.close [7008, 7009]) b_s_l05Places_4 ⟨[(1, I n2), (2, I most2), (6, .ptr 1001 0 0 1), (8, .ptr 2006 0 0 1), (9, sl eExt list), (10, .sl 3000 0 l.length), (11, I i)], [(1000, ⟨4, true, [[sl eExt c, I c2, S c3, I c4]]⟩), (1001, ⟨4, true, [[.lit (.slice none 0 0), I c5, S c6, I c7]]⟩), (2006, ⟨4, true, [[sl eExt c8, I c9, S c10, I c11]]⟩), (3000, ⟨1, false, rws eI l⟩)]⟩ = some ((.exit 0, ⟨[(1, I n2), (2, I most2), (6, .ptr 1001 0 0 1), (8, .ptr 2006 0 0 1), (9, sl eExt list), (10, .sl 3000 0 e.1.length), (11, I e.2.1), (21, B e.2.2)], [(1000, ⟨4, true, [[sl eExt c, I c2, S c3, I c4]]⟩), (1001, ⟨4, true, [[.lit (.slice none 0 0), I c5, S c6, I c7]]⟩), (2006, ⟨4, true, [[sl eExt c8, I c9, S c10, I c11]]⟩), (3000, ⟨1, false, rws eI e.1⟩)]⟩)) := by
  refine loop_runG (S := (List Int) × Int) (eS := fun s => ⟨[(1, I n2), (2, I most2), (6, .ptr 1001 0 0 1), (8, .ptr 2006 0 0 1), (9, sl eExt list), (10, .sl 3000 0 s.1.length), (11, I s.2)], [(1000, ⟨4, true, [[sl eExt c, I c2, S c3, I c4]]⟩), (1001, ⟨4, true, [[.lit (.slice none 0 0), I c5, S c6, I c7]]⟩), (2006, ⟨4, true, [[sl eExt c8, I c9, S c10, I c11]]⟩), (3000, ⟨1, false, rws eI s.1⟩)]⟩) (eE := fun e => (.exit 0, ⟨[(1, I n2), (2, I most2), (6, .ptr 1001 0 0 1), (8, .ptr 2006 0 0 1), (9, sl eExt list), (10, .sl 3000 0 e.1.length), (11, I e.2.1), (21, B e.2.2)], [(1000, ⟨4, true, [[sl eExt c, I c2, S c3, I c4]]⟩), (1001, ⟨4, true, [[.lit (.slice none 0 0), I c5, S c6, I c7]]⟩), (2006, ⟨4, true, [[sl eExt c8, I c9, S c10, I c11]]⟩), (3000, ⟨1, false, rws eI e.1⟩)]⟩)) (fun e => ?_) (fun s o h => ?_) h
  · simp [alt]
  · obtain ⟨l, i⟩ := s
    simp only [s_l05Places_1_s] at h
    show Rn tab ow _ _ ⟨[(1, I n2), (2, I most2), (6, .ptr 1001 0 0 1), (8, .ptr 2006 0 0 1), (9, sl eExt list), (10, .sl 3000 0 l.length), (11, I i)], [(1000, ⟨4, true, [[sl eExt c, I c2, S c3, I c4]]⟩), (1001, ⟨4, true, [[.lit (.slice none 0 0), I c5, S c6, I c7]]⟩), (2006, ⟨4, true, [[sl eExt c8, I c9, S c10, I c11]]⟩), (3000, ⟨1, false, rws eI l⟩)]⟩ = _
    simp +decide only [b_s_l05Places_4, go_sem, reduceIte, Nat.reduceAdd]
    rcases brc h with ⟨hb, h⟩ | ⟨hb, h⟩
    · refine br_t hb ?_
      obtain ⟨x, h1, h⟩ := bd h
      refine bind_some h1 ?_
      obtain ⟨hb, h⟩ := brg h
      refine br_t hb ?_
      obtain ⟨hb, h⟩ := brg h
      refine br_t hb ?_
      obtain rfl := Option.some.inj h
      first | rfl | (simp only [List.length_set, go_sem]; done)
    · refine br_f hb ?_
      obtain rfl := Option.some.inj h
      first | rfl | (simp only [List.length_set, go_sem]; done)
noncomputable def s_l05Places (s : Source) (n : Int) (most : Int) : Option (Source × (List Int)) :=
  (s_l05Some s n).bind fun r_ =>
  (Loop (s_l05Places_1_s n most r_.2 s.Script s.At s.State s.Count (0 : Int) (([] : List UInt8)) (0 : Int) r_.1.Script r_.1.At r_.1.State r_.1.Count) (([] : List Int), (0 : Int))).bind fun e_ =>
  some (r_.1, e_.1)
theorem s_l05Places_c {s : Source} {n : Int} {most : Int} {r : Source × (List Int)} (h : s_l05Places s n most = some r) : Call tab ow 98 [.agg [sl eExt s.Script, I s.At, S s.State, I s.Count], I n, I most] [] = some (.tup [.agg [sl eExt r.1.Script, I r.1.At, S r.1.State, I r.1.Count], sl eI r.2], []) := by
  rw [run_s_l05Places]
  unfold s_l05Places at h
  simp +decide only [b_s_l05Places, go_sem, reduceIte, Nat.reduceAdd]
  obtain ⟨r_, h1, h⟩ := bd h
  refine call_aft (s_l05Some_c h1) ?_
  simp +decide only [go_sem, reduceIte, Nat.reduceAdd]
  obtain ⟨e_, h1, h⟩ := bd h
  refine goR_of (s_l05Places_1_l h1) ?_
  simp +decide only [go_sem, reduceIte, Nat.reduceAdd]
  obtain rfl := Option.some.inj h
  first | rfl | (simp only [List.length_set, go_sem]; done)
end
section
theorem s_TakePlaces_k0 : mkR 3001 [] = rws eI [] := rfl
attribute [local go_sem] s_TakePlaces_k0
theorem s_TakePlaces_k1 : mkR 5001 [] = rws eI [] := rfl
attribute [local go_sem] s_TakePlaces_k1
theorem s_TakePlaces_k2 : mkR 7002 [] = rws eI [] := rfl
attribute [local go_sem] s_TakePlaces_k2
noncomputable def s_TakePlaces (s : Source) (n : Int) (most : Int) : Option (Source × (List Int) × Int) :=
  (s_SourceOK s).bind fun r_ =>
  br (!r_) (
    some ((Source.mk ([] : List Ext) (0 : Int) (([] : List UInt8)) (0 : Int)), ([] : List Int), (1 : Int))) (
    (s_l01In n (0 : Int) (100 : Int)).bind fun r_2 =>
    br (!r_2) (
      some ((Source.mk ([] : List Ext) (0 : Int) (([] : List UInt8)) (0 : Int)), ([] : List Int), (4 : Int))) (
      (s_l01In most (1 : Int) (65536 : Int)).bind fun r_3 =>
      br (!r_3) (
        some ((Source.mk ([] : List Ext) (0 : Int) (([] : List UInt8)) (0 : Int)), ([] : List Int), (4 : Int))) (
        (s_l05Spent s n).bind fun r_4 =>
        br r_4 (
          (s_l05Own s).bind fun r_5 =>
          some (r_5, ([] : List Int), (6 : Int))) (
          (s_l05Places s n most).bind fun r_6 =>
          (s_l05Own r_6.1).bind fun r_7 =>
          some (r_7, r_6.2, (0 : Int))))))
theorem s_TakePlaces_c {s : Source} {n : Int} {most : Int} {r : Source × (List Int) × Int} (h : s_TakePlaces s n most = some r) : Call tab ow 31 [.agg [sl eExt s.Script, I s.At, S s.State, I s.Count], I n, I most] [] = some (.tup [.agg [sl eExt r.1.Script, I r.1.At, S r.1.State, I r.1.Count], sl eI r.2.1, I r.2.2], []) := by
  rw [run_s_TakePlaces]
  unfold s_TakePlaces at h
  simp +decide only [b_s_TakePlaces, go_sem, reduceIte, Nat.reduceAdd]
  obtain ⟨r_, h1, h⟩ := bd h
  refine call_aft (s_SourceOK_c h1) ?_
  simp +decide only [go_sem, reduceIte, Nat.reduceAdd]
  rcases brc h with ⟨hb, h⟩ | ⟨hb, h⟩
  · refine br_t hb ?_
    obtain rfl := Option.some.inj h
    first | rfl | (simp only [List.length_set, go_sem]; done)
  · refine br_f hb ?_
    obtain ⟨r_2, h1, h⟩ := bd h
    refine call_aft (s_l01In_c h1) ?_
    simp +decide only [go_sem, reduceIte, Nat.reduceAdd]
    rcases brc h with ⟨hb, h⟩ | ⟨hb, h⟩
    · refine br_t hb ?_
      obtain rfl := Option.some.inj h
      first | rfl | (simp only [List.length_set, go_sem]; done)
    · refine br_f hb ?_
      obtain ⟨r_3, h1, h⟩ := bd h
      refine call_aft (s_l01In_c h1) ?_
      simp +decide only [go_sem, reduceIte, Nat.reduceAdd]
      rcases brc h with ⟨hb, h⟩ | ⟨hb, h⟩
      · refine br_t hb ?_
        obtain rfl := Option.some.inj h
        first | rfl | (simp only [List.length_set, go_sem]; done)
      · refine br_f hb ?_
        obtain ⟨r_4, h1, h⟩ := bd h
        refine call_aft (s_l05Spent_c h1) ?_
        simp +decide only [go_sem, reduceIte, Nat.reduceAdd]
        rcases brc h with ⟨hb, h⟩ | ⟨hb, h⟩
        · refine br_t hb ?_
          obtain ⟨r_5, h1, h⟩ := bd h
          refine call_aft (s_l05Own_c h1) ?_
          simp +decide only [go_sem, reduceIte, Nat.reduceAdd]
          obtain rfl := Option.some.inj h
          first | rfl | (simp only [List.length_set, go_sem]; done)
        · refine br_f hb ?_
          obtain ⟨r_6, h1, h⟩ := bd h
          refine call_aft (s_l05Places_c h1) ?_
          simp +decide only [go_sem, reduceIte, Nat.reduceAdd]
          obtain ⟨r_7, h1, h⟩ := bd h
          refine call_aft (s_l05Own_c h1) ?_
          simp +decide only [go_sem, reduceIte, Nat.reduceAdd]
          obtain rfl := Option.some.inj h
          first | rfl | (simp only [List.length_set, go_sem]; done)
end
noncomputable def w_sameInts_1_s (a2 : List Int) (b2 : List Int) : Int → Option ((Int) ⊕ (Unit ⊕ (Int × Bool)))
  | i =>
    br (decide (i < ((a2.length : Nat) : Int))) (
      (atL a2 i).bind fun x =>
      (atL b2 i).bind fun x2 =>
      br (x != x2) (
        some (.inr (.inl ()))) (
        some (.inl (IntKind.wrap .i64 (i + (1 : Int)))))) (
      some (.inr (.inr (i, decide (i < ((a2.length : Nat) : Int))))))
theorem w_sameInts_1_l {a2 : List Int} {b2 : List Int} {i : Int} {e : Unit ⊕ (Int × Bool)} (h : Loop (w_sameInts_1_s a2 b2) i = some e) : LoopX tab ow (.close []) b_w_sameInts_4 ⟨[(0, sl eI a2), (1, sl eI b2), (5, I i)], []⟩ = some ((alt (fun e => ((.ret, ⟨[(4, B false)], []⟩) : AExit × St)) (fun e => (.exit 0, ⟨[(0, sl eI a2), (1, sl eI b2), (5, I e.1), (14, B e.2)], []⟩))) e) := by
  refine loop_runG (S := Int) (eS := fun s => ⟨[(0, sl eI a2), (1, sl eI b2), (5, I s)], []⟩) (eE := fun e => (alt (fun e => ((.ret, ⟨[(4, B false)], []⟩) : AExit × St)) (fun e => (.exit 0, ⟨[(0, sl eI a2), (1, sl eI b2), (5, I e.1), (14, B e.2)], []⟩))) e) (fun e => ?_) (fun i o h => ?_) h
  · rcases e with e | e <;> simp [alt]
  · skip
    simp only [w_sameInts_1_s] at h
    show Rn tab ow _ _ ⟨[(0, sl eI a2), (1, sl eI b2), (5, I i)], []⟩ = _
    simp +decide only [b_w_sameInts_4, go_sem, reduceIte, Nat.reduceAdd]
    rcases brc h with ⟨hb, h⟩ | ⟨hb, h⟩
    · refine br_t hb ?_
      obtain ⟨x, h1, h⟩ := bd h
      refine bind_some h1 ?_
      obtain ⟨x2, h1, h⟩ := bd h
      refine bind_some h1 ?_
      rcases brc h with ⟨hb, h⟩ | ⟨hb, h⟩
      · refine br_t hb ?_
        obtain rfl := Option.some.inj h
        first | rfl | (simp only [List.length_set, go_sem]; done)
      · refine br_f hb ?_
        obtain rfl := Option.some.inj h
        first | rfl | (simp only [List.length_set, go_sem]; done)
    · refine br_f hb ?_
      obtain rfl := Option.some.inj h
      first | rfl | (simp only [List.length_set, go_sem]; done)
noncomputable def w_sameInts (a : (List Int)) (b : (List Int)) : Option (Bool) :=
  br (((a.length : Nat) : Int) != ((b.length : Nat) : Int)) (
    some false) (
    (Loop (w_sameInts_1_s a b) (0 : Int)).bind (alt (fun e_2 =>
      some false) (fun e_3 =>
      some true)))
theorem w_sameInts_c {a : (List Int)} {b : (List Int)} {r : Bool} (h : w_sameInts a b = some r) : Call tab ow 32 [sl eI a, sl eI b] [] = some (B r, []) := by
  rw [run_w_sameInts]
  unfold w_sameInts at h
  simp +decide only [b_w_sameInts, go_sem, reduceIte, Nat.reduceAdd]
  rcases brc h with ⟨hb, h⟩ | ⟨hb, h⟩
  · refine br_t hb ?_
    obtain rfl := Option.some.inj h
    first | rfl | (simp only [List.length_set, go_sem]; done)
  · refine br_f hb ?_
    obtain ⟨e_, h1, h⟩ := bd h
    refine goR_of (w_sameInts_1_l h1) ?_
    rcases e_ with e_2 | e_3
    · simp +decide only [go_sem, reduceIte, Nat.reduceAdd]
      obtain rfl := Option.some.inj h
      first | rfl | (simp only [List.length_set, go_sem]; done)
    · simp +decide only [go_sem, reduceIte, Nat.reduceAdd]
      obtain rfl := Option.some.inj h
      first | rfl | (simp only [List.length_set, go_sem]; done)
end Go.AI.Fn

set_option linter.unusedVariables false
set_option linter.unusedSimpArgs false
set_option maxRecDepth 100000
set_option maxHeartbeats 1000000
namespace Go.AI.Fn
noncomputable def w_FnSource_1_s (t : List UInt8) (t2 : Int) (t3 : List Ext) (c : List Ext) (c2 : Int) (c3 : List UInt8) (c4 : Int) (c5 : List Ext) (c6 : Int) (c7 : List UInt8) (c8 : Int) (c9 : List Ext) (c10 : Int) (c11 : List UInt8) (c12 : Int) (c13 : List Ext) (c14 : Int) (c15 : List UInt8) (c16 : Int) (c17 : List Ext) (c18 : Int) (c19 : List UInt8) (c20 : Int) : Int × (List Ext) × Int × (List UInt8) × Int → Option ((Int × (List Ext) × Int × (List UInt8) × Int) ⊕ (((List Ext) × Int × (List UInt8) × Int × (List Ext) × Int × (List UInt8) × Int × Int × Int) ⊕ (Int × Bool × (List Ext) × Int × (List UInt8) × Int)))
  | (t4, c21, c22, c23, c24) =>
    br (decide (t4 < t2)) (
      (i_TakeOne (Source.mk c21 c22 c23 c24)).bind fun r_12 =>
      br (r_12.2.2 != (0 : Int)) (
        some (.inr (.inl (c21, c22, c23, c24, r_12.1.Script, r_12.1.At, r_12.1.State, r_12.1.Count, r_12.2.1.A, r_12.2.1.B)))) (
        (atL t3 t4).bind fun x =>
        br (r_12.2.1.A == x.A) (
          br (r_12.2.1.B == x.B) (
            some (.inl ((IntKind.wrap .i64 (t4 + (1 : Int))), r_12.1.Script, r_12.1.At, r_12.1.State, r_12.1.Count))) (
            some (.inr (.inl (c21, c22, c23, c24, r_12.1.Script, r_12.1.At, r_12.1.State, r_12.1.Count, r_12.2.1.A, r_12.2.1.B))))) (
          some (.inr (.inl (c21, c22, c23, c24, r_12.1.Script, r_12.1.At, r_12.1.State, r_12.1.Count, r_12.2.1.A, r_12.2.1.B)))))) (
      some (.inr (.inr (t4, decide (t4 < t2), c21, c22, c23, c24))))
theorem w_FnSource_1_l {t : List UInt8} {t2 : Int} {t3 : List Ext} {c : List Ext} {c2 : Int} {c3 : List UInt8} {c4 : Int} {c5 : List Ext} {c6 : Int} {c7 : List UInt8} {c8 : Int} {c9 : List Ext} {c10 : Int} {c11 : List UInt8} {c12 : Int} {c13 : List Ext} {c14 : Int} {c15 : List UInt8} {c16 : Int} {c17 : List Ext} {c18 : Int} {c19 : List UInt8} {c20 : Int} {t4 : Int} {c21 : List Ext} {c22 : Int} {c23 : List UInt8} {c24 : Int} {e : ((List Ext) × Int × (List UInt8) × Int × (List Ext) × Int × (List UInt8) × Int × Int × Int) ⊕ (Int × Bool × (List Ext) × Int × (List UInt8) × Int)} (h : Loop (w_FnSource_1_s t t2 t3 c c2 c3 c4 c5 c6 c7 c8 c9 c10 c11 c12 c13 c14 c15 c16 c17 c18 c19 c20) (t4, c21, c22, c23, c24) = some e) : LoopX tab ow (.close [17001, 17006, 17007]) b_w_FnSource_14 ⟨[(1, sl eU8 t), (5, .ptr 4002 0 0 1), (7, .ptr 6006 0 0 1), (11, I t2), (12, .ptr 9007 0 0 1), (13, sl eExt t3), (18, .ptr 13001 0 0 1), (19, I t4)], [(4002, ⟨4, true, [[sl eExt c, I c2, S c3, I c4]]⟩), (6006, ⟨4, true, [[sl eExt c5, I c6, S c7, I c8]]⟩), (7006, ⟨4, true, [[sl eExt c9, I c10, S c11, I c12]]⟩), (9007, ⟨4, true, [[sl eExt c13, I c14, S c15, I c16]]⟩), (10007, ⟨4, true, [[sl eExt c17, I c18, S c19, I c20]]⟩), (13001, ⟨4, true, [[sl eExt c21, I c22, S c23, I c24]]⟩)]⟩ = some ((alt (fun e => ((.ret, ⟨[(4, B false)], [(4002, ⟨4, true, [[sl eExt c, I c2, S c3, I c4]]⟩), (6006, ⟨4, true, [[sl eExt c5, I c6, S c7, I c8]]⟩), (7006, ⟨4, true, [[sl eExt c9, I c10, S c11, I c12]]⟩), (9007, ⟨4, true, [[sl eExt c13, I c14, S c15, I c16]]⟩), (10007, ⟨4, true, [[sl eExt c17, I c18, S c19, I c20]]⟩), (13001, ⟨4, true, [[sl eExt e.1, I e.2.1, S e.2.2.1, I e.2.2.2.1]]⟩), (17006, ⟨4, true, [[sl eExt e.2.2.2.2.1, I e.2.2.2.2.2.1, S e.2.2.2.2.2.2.1, I e.2.2.2.2.2.2.2.1]]⟩), (17007, ⟨2, true, [[I e.2.2.2.2.2.2.2.2.1, I e.2.2.2.2.2.2.2.2.2]]⟩)]⟩) : AExit × St)) (fun e => (.exit 0, ⟨[(1, sl eU8 t), (5, .ptr 4002 0 0 1), (7, .ptr 6006 0 0 1), (11, I t2), (12, .ptr 9007 0 0 1), (13, sl eExt t3), (18, .ptr 13001 0 0 1), (19, I e.1), (107, B e.2.1)], [(4002, ⟨4, true, [[sl eExt c, I c2, S c3, I c4]]⟩), (6006, ⟨4, true, [[sl eExt c5, I c6, S c7, I c8]]⟩), (7006, ⟨4, true, [[sl eExt c9, I c10, S c11, I c12]]⟩), (9007, ⟨4, true, [[sl eExt c13, I c14, S c15, I c16]]⟩), (10007, ⟨4, true, [[sl eExt c17, I c18, S c19, I c20]]⟩), (13001, ⟨4, true, [[sl eExt e.2.2.1, I e.2.2.2.1, S e.2.2.2.2.1, I e.2.2.2.2.2]]⟩)]⟩))) e) := by
  refine loop_runG (S := Int × (List Ext) × Int × (List UInt8) × Int) (eS := fun s => ⟨[(1, sl eU8 t), (5, .ptr 4002 0 0 1), (7, .ptr 6006 0 0 1), (11, I t2), (12, .ptr 9007 0 0 1), (13, sl eExt t3), (18, .ptr 13001 0 0 1), (19, I s.1)], [(4002, ⟨4, true, [[sl eExt c, I c2, S c3, I c4]]⟩), (6006, ⟨4, true, [[sl eExt c5, I c6, S c7, I c8]]⟩), (7006, ⟨4, true, [[sl eExt c9, I c10, S c11, I c12]]⟩), (9007, ⟨4, true, [[sl eExt c13, I c14, S c15, I c16]]⟩), (10007, ⟨4, true, [[sl eExt c17, I c18, S c19, I c20]]⟩), (13001, ⟨4, true, [[sl eExt s.2.1, I s.2.2.1, S s.2.2.2.1, I s.2.2.2.2]]⟩)]⟩) (eE := fun e => (alt (fun e => ((.ret, ⟨[(4, B false)], [(4002, ⟨4, true, [[sl eExt c, I c2, S c3, I c4]]⟩), (6006, ⟨4, true, [[sl eExt c5, I c6, S c7, I c8]]⟩), (7006, ⟨4, true, [[sl eExt c9, I c10, S c11, I c12]]⟩), (9007, ⟨4, true, [[sl eExt c13, I c14, S c15, I c16]]⟩), (10007, ⟨4, true, [[sl eExt c17, I c18, S c19, I c20]]⟩), (13001, ⟨4, true, [[sl eExt e.1, I e.2.1, S e.2.2.1, I e.2.2.2.1]]⟩), (17006, ⟨4, true, [[sl eExt e.2.2.2.2.1, I e.2.2.2.2.2.1, S e.2.2.2.2.2.2.1, I e.2.2.2.2.2.2.2.1]]⟩), (17007, ⟨2, true, [[I e.2.2.2.2.2.2.2.2.1, I e.2.2.2.2.2.2.2.2.2]]⟩)]⟩) : AExit × St)) (fun e => (.exit 0, ⟨[(1, sl eU8 t), (5, .ptr 4002 0 0 1), (7, .ptr 6006 0 0 1), (11, I t2), (12, .ptr 9007 0 0 1), (13, sl eExt t3), (18, .ptr 13001 0 0 1), (19, I e.1), (107, B e.2.1)], [(4002, ⟨4, true, [[sl eExt c, I c2, S c3, I c4]]⟩), (6006, ⟨4, true, [[sl eExt c5, I c6, S c7, I c8]]⟩), (7006, ⟨4, true, [[sl eExt c9, I c10, S c11, I c12]]⟩), (9007, ⟨4, true, [[sl eExt c13, I c14, S c15, I c16]]⟩), (10007, ⟨4, true, [[sl eExt c17, I c18, S c19, I c20]]⟩), (13001, ⟨4, true, [[sl eExt e.2.2.1, I e.2.2.2.1, S e.2.2.2.2.1, I e.2.2.2.2.2]]⟩)]⟩))) e) (fun e => ?_) (fun s o h => ?_) h
  · rcases e with e | e <;> simp [alt]
  · obtain ⟨t4, c21, c22, c23, c24⟩ := s
    simp only [w_FnSource_1_s] at h
    show Rn tab ow _ _ ⟨[(1, sl eU8 t), (5, .ptr 4002 0 0 1), (7, .ptr 6006 0 0 1), (11, I t2), (12, .ptr 9007 0 0 1), (13, sl eExt t3), (18, .ptr 13001 0 0 1), (19, I t4)], [(4002, ⟨4, true, [[sl eExt c, I c2, S c3, I c4]]⟩), (6006, ⟨4, true, [[sl eExt c5, I c6, S c7, I c8]]⟩), (7006, ⟨4, true, [[sl eExt c9, I c10, S c11, I c12]]⟩), (9007, ⟨4, true, [[sl eExt c13, I c14, S c15, I c16]]⟩), (10007, ⟨4, true, [[sl eExt c17, I c18, S c19, I c20]]⟩), (13001, ⟨4, true, [[sl eExt c21, I c22, S c23, I c24]]⟩)]⟩ = _
    simp +decide only [b_w_FnSource_14, go_sem, reduceIte, Nat.reduceAdd]
    rcases brc h with ⟨hb, h⟩ | ⟨hb, h⟩
    · refine br_t hb ?_
      obtain ⟨r_12, h1, h⟩ := bd h
      refine call_aft (i_TakeOne_c h1) ?_
      simp +decide only [go_sem, reduceIte, Nat.reduceAdd]
      rcases brc h with ⟨hb, h⟩ | ⟨hb, h⟩
      · refine br_t hb ?_
        obtain rfl := Option.some.inj h
        first | rfl | (simp only [List.length_set, go_sem]; done)
      · refine br_f hb ?_
        obtain ⟨x, h1, h⟩ := bd h
        refine bind_some h1 ?_
        rcases brc h with ⟨hb, h⟩ | ⟨hb, h⟩
        · refine br_t hb ?_
          rcases brc h with ⟨hb, h⟩ | ⟨hb, h⟩
          · refine br_t hb ?_
            obtain rfl := Option.some.inj h
            first | rfl | (simp only [List.length_set, go_sem]; done)
          · refine br_f hb ?_
            obtain rfl := Option.some.inj h
            first | rfl | (simp only [List.length_set, go_sem]; done)
        · refine br_f hb ?_
          obtain rfl := Option.some.inj h
          first | rfl | (simp only [List.length_set, go_sem]; done)
    · refine br_f hb ?_
      obtain rfl := Option.some.inj h
      first | rfl | (simp only [List.length_set, go_sem]; done)
noncomputable def w_FnSource_2_s (t5 : List UInt8) (t6 : Int) (t7 : List Int) (t8 : Int) (t9 : List Int) (c25 : List Ext) (c26 : Int) (c27 : List UInt8) (c28 : Int) (c29 : List Ext) (c30 : Int) (c31 : List UInt8) (c32 : Int) (c33 : List Ext) (c34 : Int) (c35 : List UInt8) (c36 : Int) (c37 : List Ext) (c38 : Int) (c39 : List UInt8) (c40 : Int) (c41 : List Ext) (c42 : Int) (c43 : List UInt8) (c44 : Int) (c45 : List Ext) (c46 : Int) (c47 : List UInt8) (c48 : Int) (c49 : List Ext) (c50 : Int) (c51 : List UInt8) (c52 : Int) (c53 : List Ext) (c54 : Int) (c55 : List UInt8) (c56 : Int) (c57 : List Ext) (c58 : Int) (c59 : List UInt8) (c60 : Int) (c61 : List Ext) (c62 : Int) (c63 : List UInt8) (c64 : Int) : Int → Option ((Int) ⊕ (Unit ⊕ (Int × Bool)))
  | t10 =>
    br (decide (t10 < ((t7.length : Nat) : Int))) (
      (atL t7 t10).bind fun x2 =>
      br (decide (x2 < (0 : Int))) (
        some (.inr (.inl ()))) (
        (atL t7 t10).bind fun x3 =>
        (w_at t5 (1 : Int) (90 : Int)).bind fun r_19 =>
        br (decide (x3 > r_19)) (
          some (.inr (.inl ()))) (
          some (.inl (IntKind.wrap .i64 (t10 + (1 : Int))))))) (
      some (.inr (.inr (t10, decide (t10 < ((t7.length : Nat) : Int))))))
theorem w_FnSource_2_l {t5 : List UInt8} {t6 : Int} {t7 : List Int} {t8 : Int} {t9 : List Int} {c25 : List Ext} {c26 : Int} {c27 : List UInt8} {c28 : Int} {c29 : List Ext} {c30 : Int} {c31 : List UInt8} {c32 : Int} {c33 : List Ext} {c34 : Int} {c35 : List UInt8} {c36 : Int} {c37 : List Ext} {c38 : Int} {c39 : List UInt8} {c40 : Int} {c41 : List Ext} {c42 : Int} {c43 : List UInt8} {c44 : Int} {c45 : List Ext} {c46 : Int} {c47 : List UInt8} {c48 : Int} {c49 : List Ext} {c50 : Int} {c51 : List UInt8} {c52 : Int} {c53 : List Ext} {c54 : Int} {c55 : List UInt8} {c56 : Int} {c57 : List Ext} {c58 : Int} {c59 : List UInt8} {c60 : Int} {c61 : List Ext} {c62 : Int} {c63 : List UInt8} {c64 : Int} {t10 : Int} {e : Unit ⊕ (Int × Bool)} (h : Loop (w_FnSource_2_s t5 t6 t7 t8 t9 c25 c26 c27 c28 c29 c30 c31 c32 c33 c34 c35 c36 c37 c38 c39 c40 c41 c42 c43 c44 c45 c46 c47 c48 c49 c50 c51 c52 c53 c54 c55 c56 c57 c58 c59 c60 c61 c62 c63 c64) t10 = some e) : LoopX tab ow (.close [28011]) b_w_FnSource_25 ⟨[(1, sl eU8 t5), (12, .ptr 9007 0 0 1), (18, .ptr 13001 0 0 1), (23, .ptr 21006 0 0 1), (24, I t6), (25, .ptr 22006 0 0 1), (27, .ptr 23010 0 0 1), (28, sl eI t7), (29, I t8), (31, sl eI t9), (33, I t10)], [(4002, ⟨4, true, [[sl eExt c25, I c26, S c27, I c28]]⟩), (6006, ⟨4, true, [[sl eExt c29, I c30, S c31, I c32]]⟩), (7006, ⟨4, true, [[sl eExt c33, I c34, S c35, I c36]]⟩), (9007, ⟨4, true, [[sl eExt c37, I c38, S c39, I c40]]⟩), (10007, ⟨4, true, [[sl eExt c41, I c42, S c43, I c44]]⟩), (13001, ⟨4, true, [[sl eExt c45, I c46, S c47, I c48]]⟩), (21006, ⟨4, true, [[sl eExt c49, I c50, S c51, I c52]]⟩), (22006, ⟨4, true, [[sl eExt c53, I c54, S c55, I c56]]⟩), (23010, ⟨4, true, [[sl eExt c57, I c58, S c59, I c60]]⟩), (24010, ⟨4, true, [[sl eExt c61, I c62, S c63, I c64]]⟩)]⟩ = some ((alt (fun e => ((.ret, ⟨[(4, B false)], [(4002, ⟨4, true, [[sl eExt c25, I c26, S c27, I c28]]⟩), (6006, ⟨4, true, [[sl eExt c29, I c30, S c31, I c32]]⟩), (7006, ⟨4, true, [[sl eExt c33, I c34, S c35, I c36]]⟩), (9007, ⟨4, true, [[sl eExt c37, I c38, S c39, I c40]]⟩), (10007, ⟨4, true, [[sl eExt c41, I c42, S c43, I c44]]⟩), (13001, ⟨4, true, [[sl eExt c45, I c46, S c47, I c48]]⟩), (21006, ⟨4, true, [[sl eExt c49, I c50, S c51, I c52]]⟩), (22006, ⟨4, true, [[sl eExt c53, I c54, S c55, I c56]]⟩), (23010, ⟨4, true, [[sl eExt c57, I c58, S c59, I c60]]⟩), (24010, ⟨4, true, [[sl eExt c61, I c62, S c63, I c64]]⟩)]⟩) : AExit × St)) (fun e => (.exit 2, ⟨[(1, sl eU8 t5), (12, .ptr 9007 0 0 1), (18, .ptr 13001 0 0 1), (23, .ptr 21006 0 0 1), (24, I t6), (25, .ptr 22006 0 0 1), (27, .ptr 23010 0 0 1), (28, sl eI t7), (29, I t8), (31, sl eI t9), (33, I e.1), (162, B e.2)], [(4002, ⟨4, true, [[sl eExt c25, I c26, S c27, I c28]]⟩), (6006, ⟨4, true, [[sl eExt c29, I c30, S c31, I c32]]⟩), (7006, ⟨4, true, [[sl eExt c33, I c34, S c35, I c36]]⟩), (9007, ⟨4, true, [[sl eExt c37, I c38, S c39, I c40]]⟩), (10007, ⟨4, true, [[sl eExt c41, I c42, S c43, I c44]]⟩), (13001, ⟨4, true, [[sl eExt c45, I c46, S c47, I c48]]⟩), (21006, ⟨4, true, [[sl eExt c49, I c50, S c51, I c52]]⟩), (22006, ⟨4, true, [[sl eExt c53, I c54, S c55, I c56]]⟩), (23010, ⟨4, true, [[sl eExt c57, I c58, S c59, I c60]]⟩), (24010, ⟨4, true, [[sl eExt c61, I c62, S c63, I c64]]⟩)]⟩))) e) := by
  refine loop_runG (S := Int) (eS := fun s => ⟨[(1, sl eU8 t5), (12, .ptr 9007 0 0 1), (18, .ptr 13001 0 0 1), (23, .ptr 21006 0 0 1), (24, I t6), (25, .ptr 22006 0 0 1), (27, .ptr 23010 0 0 1), (28, sl eI t7), (29, I t8), (31, sl eI t9), (33, I s)], [(4002, ⟨4, true, [[sl eExt c25, I c26, S c27, I c28]]⟩), (6006, ⟨4, true, [[sl eExt c29, I c30, S c31, I c32]]⟩), (7006, ⟨4, true, [[sl eExt c33, I c34, S c35, I c36]]⟩), (9007, ⟨4, true, [[sl eExt c37, I c38, S c39, I c40]]⟩), (10007, ⟨4, true, [[sl eExt c41, I c42, S c43, I c44]]⟩), (13001, ⟨4, true, [[sl eExt c45, I c46, S c47, I c48]]⟩), (21006, ⟨4, true, [[sl eExt c49, I c50, S c51, I c52]]⟩), (22006, ⟨4, true, [[sl eExt c53, I c54, S c55, I c56]]⟩), (23010, ⟨4, true, [[sl eExt c57, I c58, S c59, I c60]]⟩), (24010, ⟨4, true, [[sl eExt c61, I c62, S c63, I c64]]⟩)]⟩) (eE := fun e => (alt (fun e => ((.ret, ⟨[(4, B false)], [(4002, ⟨4, true, [[sl eExt c25, I c26, S c27, I c28]]⟩), (6006, ⟨4, true, [[sl eExt c29, I c30, S c31, I c32]]⟩), (7006, ⟨4, true, [[sl eExt c33, I c34, S c35, I c36]]⟩), (9007, ⟨4, true, [[sl eExt c37, I c38, S c39, I c40]]⟩), (10007, ⟨4, true, [[sl eExt c41, I c42, S c43, I c44]]⟩), (13001, ⟨4, true, [[sl eExt c45, I c46, S c47, I c48]]⟩), (21006, ⟨4, true, [[sl eExt c49, I c50, S c51, I c52]]⟩), (22006, ⟨4, true, [[sl eExt c53, I c54, S c55, I c56]]⟩), (23010, ⟨4, true, [[sl eExt c57, I c58, S c59, I c60]]⟩), (24010, ⟨4, true, [[sl eExt c61, I c62, S c63, I c64]]⟩)]⟩) : AExit × St)) (fun e => (.exit 2, ⟨[(1, sl eU8 t5), (12, .ptr 9007 0 0 1), (18, .ptr 13001 0 0 1), (23, .ptr 21006 0 0 1), (24, I t6), (25, .ptr 22006 0 0 1), (27, .ptr 23010 0 0 1), (28, sl eI t7), (29, I t8), (31, sl eI t9), (33, I e.1), (162, B e.2)], [(4002, ⟨4, true, [[sl eExt c25, I c26, S c27, I c28]]⟩), (6006, ⟨4, true, [[sl eExt c29, I c30, S c31, I c32]]⟩), (7006, ⟨4, true, [[sl eExt c33, I c34, S c35, I c36]]⟩), (9007, ⟨4, true, [[sl eExt c37, I c38, S c39, I c40]]⟩), (10007, ⟨4, true, [[sl eExt c41, I c42, S c43, I c44]]⟩), (13001, ⟨4, true, [[sl eExt c45, I c46, S c47, I c48]]⟩), (21006, ⟨4, true, [[sl eExt c49, I c50, S c51, I c52]]⟩), (22006, ⟨4, true, [[sl eExt c53, I c54, S c55, I c56]]⟩), (23010, ⟨4, true, [[sl eExt c57, I c58, S c59, I c60]]⟩), (24010, ⟨4, true, [[sl eExt c61, I c62, S c63, I c64]]⟩)]⟩))) e) (fun e => ?_) (fun t10 o h => ?_) h
  · rcases e with e | e <;> simp [alt]
  · skip
    simp only [w_FnSource_2_s] at h
    show Rn tab ow _ _ ⟨[(1, sl eU8 t5), (12, .ptr 9007 0 0 1), (18, .ptr 13001 0 0 1), (23, .ptr 21006 0 0 1), (24, I t6), (25, .ptr 22006 0 0 1), (27, .ptr 23010 0 0 1), (28, sl eI t7), (29, I t8), (31, sl eI t9), (33, I t10)], [(4002, ⟨4, true, [[sl eExt c25, I c26, S c27, I c28]]⟩), (6006, ⟨4, true, [[sl eExt c29, I c30, S c31, I c32]]⟩), (7006, ⟨4, true, [[sl eExt c33, I c34, S c35, I c36]]⟩), (9007, ⟨4, true, [[sl eExt c37, I c38, S c39, I c40]]⟩), (10007, ⟨4, true, [[sl eExt c41, I c42, S c43, I c44]]⟩), (13001, ⟨4, true, [[sl eExt c45, I c46, S c47, I c48]]⟩), (21006, ⟨4, true, [[sl eExt c49, I c50, S c51, I c52]]⟩), (22006, ⟨4, true, [[sl eExt c53, I c54, S c55, I c56]]⟩), (23010, ⟨4, true, [[sl eExt c57, I c58, S c59, I c60]]⟩), (24010, ⟨4, true, [[sl eExt c61, I c62, S c63, I c64]]⟩)]⟩ = _
    simp +decide only [b_w_FnSource_25, go_sem, reduceIte, Nat.reduceAdd]
    rcases brc h with ⟨hb, h⟩ | ⟨hb, h⟩
    · refine br_t hb ?_
      obtain ⟨x2, h1, h⟩ := bd h
      refine bind_some h1 ?_
      rcases brc h with ⟨hb, h⟩ | ⟨hb, h⟩
      · refine br_t hb ?_
        obtain rfl := Option.some.inj h
        first | rfl | (simp only [List.length_set, go_sem]; done)
      · refine br_f hb ?_
        obtain ⟨x3, h1, h⟩ := bd h
        refine bind_some h1 ?_
        obtain ⟨r_19, h1, h⟩ := bd h
        refine call_aftD (w_at_c h1) ?_
        simp +decide only [go_sem, reduceIte, Nat.reduceAdd]
        rcases brc h with ⟨hb, h⟩ | ⟨hb, h⟩
        · refine br_t hb ?_
          obtain rfl := Option.some.inj h
          first | rfl | (simp only [List.length_set, go_sem]; done)
        · refine br_f hb ?_
          obtain rfl := Option.some.inj h
          first | rfl | (simp only [List.length_set, go_sem]; done)
    · refine br_f hb ?_
      obtain rfl := Option.some.inj h
      first | rfl | (simp only [List.length_set, go_sem]; done)
noncomputable def w_FnSource (ListtoArray : (List UInt8)) (a : (List UInt8)) : Option (Bool) :=
  br (decide (((ListtoArray.length : Nat) : Int) > (1048576 : Int))) (
    some true) (
    br (decide (((a.length : Nat) : Int) > (1048576 : Int))) (
      some true) (
      (s_SourceOf ListtoArray).bind fun r_ =>
      (s_BytesOf a (30 : Int)).bind fun r_2 =>
      (i_AbsorbText r_ r_2).bind fun r_3 =>
      (s_AbsorbText r_ r_2).bind fun r_4 =>
      (w_at a (0 : Int) (5 : Int)).bind fun r_5 =>
      (i_TakeSome r_3.1 r_5).bind fun r_6 =>
      (s_TakeSome r_3.1 r_5).bind fun r_7 =>
      br (r_3.2 != (0 : Int)) (
        some false) (
        (w_sameSource r_3.1 r_4.1).bind fun r_8 =>
        br (!r_8) (
          some false) (
          br (r_6.2.2 != (0 : Int)) (
            some false) (
            (w_sameSource r_6.1 r_7.1).bind fun r_9 =>
            br (!r_9) (
              some false) (
              (w_sameExts r_6.2.1 r_7.2.1).bind fun r_10 =>
              br (!r_10) (
                some false) (
                (i_SourceOK r_6.1).bind fun r_11 =>
                br (!r_11) (
                  some false) (
                  (Loop (w_FnSource_1_s a r_5 r_6.2.1 r_.Script r_.At r_.State r_.Count r_3.1.Script r_3.1.At r_3.1.State r_3.1.Count r_4.1.Script r_4.1.At r_4.1.State r_4.1.Count r_6.1.Script r_6.1.At r_6.1.State r_6.1.Count r_7.1.Script r_7.1.At r_7.1.State r_7.1.Count) ((0 : Int), r_3.1.Script, r_3.1.At, r_3.1.State, r_3.1.Count)).bind (alt (fun e_2 =>
                    some false) (fun e_3 =>
                    (i_AbsorbExts r_ r_6.2.1).bind fun r_13 =>
                    (s_AbsorbExts r_ r_6.2.1).bind fun r_14 =>
                    (w_at a (1 : Int) (90 : Int)).bind fun r_15 =>
                    (i_TakePlaces r_3.1 r_5 (IntKind.wrap .i64 ((1 : Int) + r_15))).bind fun r_16 =>
                    (w_at a (1 : Int) (90 : Int)).bind fun r_17 =>
                    (s_TakePlaces r_3.1 r_5 (IntKind.wrap .i64 ((1 : Int) + r_17))).bind fun r_18 =>
                    (Loop (w_FnSource_2_s a r_13.2 r_16.2.1 r_16.2.2 r_18.2.1 r_.Script r_.At r_.State r_.Count r_3.1.Script r_3.1.At r_3.1.State r_3.1.Count r_4.1.Script r_4.1.At r_4.1.State r_4.1.Count r_6.1.Script r_6.1.At r_6.1.State r_6.1.Count r_7.1.Script r_7.1.At r_7.1.State r_7.1.Count e_3.2.2.1 e_3.2.2.2.1 e_3.2.2.2.2.1 e_3.2.2.2.2.2 r_13.1.Script r_13.1.At r_13.1.State r_13.1.Count r_14.1.Script r_14.1.At r_14.1.State r_14.1.Count r_16.1.Script r_16.1.At r_16.1.State r_16.1.Count r_18.1.Script r_18.1.At r_18.1.State r_18.1.Count) (0 : Int)).bind (alt (fun e_5 =>
                      some false) (fun e_6 =>
                      (w_sameSource (Source.mk e_3.2.2.1 e_3.2.2.2.1 e_3.2.2.2.2.1 e_3.2.2.2.2.2) r_6.1).bind fun r_20 =>
                      br r_20 (
                        br (r_13.2 == (0 : Int)) (
                          (w_sameSource r_13.1 r_14.1).bind fun r_21 =>
                          br r_21 (
                            br (r_16.2.2 == (0 : Int)) (
                              (w_sameInts r_16.2.1 r_18.2.1).bind fun r_22 =>
                              br r_22 (
                                (w_sameSource r_16.1 r_6.1).bind fun r_23 =>
                                some r_23) (
                                some false)) (
                              some false)) (
                            some false)) (
                          some false)) (
                        some false)))))))))))))
theorem w_FnSource_c {ListtoArray : (List UInt8)} {a : (List UInt8)} {r : Bool} (h : w_FnSource ListtoArray a = some r) : Call tab ow 4 [sl eU8 ListtoArray, sl eU8 a] [] = some (B r, []) := by
  rw [run_w_FnSource]
  unfold w_FnSource at h
  simp +decide only [b_w_FnSource, go_sem, reduceIte, Nat.reduceAdd]
  rcases brc h with ⟨hb, h⟩ | ⟨hb, h⟩
  · refine br_t hb ?_
    obtain rfl := Option.some.inj h
    first | rfl | (simp only [List.length_set, go_sem]; done)
  · refine br_f hb ?_
    rcases brc h with ⟨hb, h⟩ | ⟨hb, h⟩
    · refine br_t hb ?_
      obtain rfl := Option.some.inj h
      first | rfl | (simp only [List.length_set, go_sem]; done)
    · refine br_f hb ?_
      obtain ⟨r_, h1, h⟩ := bd h
      refine call_aft (s_SourceOf_c h1) ?_
      simp +decide only [go_sem, reduceIte, Nat.reduceAdd]
      obtain ⟨r_2, h1, h⟩ := bd h
      refine call_aft (s_BytesOf_c h1) ?_
      simp +decide only [go_sem, reduceIte, Nat.reduceAdd]
      obtain ⟨r_3, h1, h⟩ := bd h
      refine call_aft (i_AbsorbText_c h1) ?_
      simp +decide only [go_sem, reduceIte, Nat.reduceAdd]
      obtain ⟨r_4, h1, h⟩ := bd h
      refine call_aft (s_AbsorbText_c h1) ?_
      simp +decide only [go_sem, reduceIte, Nat.reduceAdd]
      obtain ⟨r_5, h1, h⟩ := bd h
      refine call_aft (w_at_c h1) ?_
      simp +decide only [go_sem, reduceIte, Nat.reduceAdd]
      obtain ⟨r_6, h1, h⟩ := bd h
      refine call_aft (i_TakeSome_c h1) ?_
      simp +decide only [go_sem, reduceIte, Nat.reduceAdd]
      obtain ⟨r_7, h1, h⟩ := bd h
      refine call_aft (s_TakeSome_c h1) ?_
      simp +decide only [go_sem, reduceIte, Nat.reduceAdd]
      rcases brc h with ⟨hb, h⟩ | ⟨hb, h⟩
      · refine br_t hb ?_
        obtain rfl := Option.some.inj h
        first | rfl | (simp only [List.length_set, go_sem]; done)
      · refine br_f hb ?_
        obtain ⟨r_8, h1, h⟩ := bd h
        refine call_aft (w_sameSource_c h1) ?_
        simp +decide only [go_sem, reduceIte, Nat.reduceAdd]
        rcases brc h with ⟨hb, h⟩ | ⟨hb, h⟩
        · refine br_t hb ?_
          obtain rfl := Option.some.inj h
          first | rfl | (simp only [List.length_set, go_sem]; done)
        · refine br_f hb ?_
          rcases brc h with ⟨hb, h⟩ | ⟨hb, h⟩
          · refine br_t hb ?_
            obtain rfl := Option.some.inj h
            first | rfl | (simp only [List.length_set, go_sem]; done)
          · refine br_f hb ?_
            obtain ⟨r_9, h1, h⟩ := bd h
            refine call_aft (w_sameSource_c h1) ?_
            simp +decide only [go_sem, reduceIte, Nat.reduceAdd]
            rcases brc h with ⟨hb, h⟩ | ⟨hb, h⟩
            · refine br_t hb ?_
              obtain rfl := Option.some.inj h
              first | rfl | (simp only [List.length_set, go_sem]; done)
            · refine br_f hb ?_
              obtain ⟨r_10, h1, h⟩ := bd h
              refine call_aft (w_sameExts_c h1) ?_
              simp +decide only [go_sem, reduceIte, Nat.reduceAdd]
              rcases brc h with ⟨hb, h⟩ | ⟨hb, h⟩
              · refine br_t hb ?_
                obtain rfl := Option.some.inj h
                first | rfl | (simp only [List.length_set, go_sem]; done)
              · refine br_f hb ?_
                obtain ⟨r_11, h1, h⟩ := bd h
                refine call_aft (i_SourceOK_c h1) ?_
                simp +decide only [go_sem, reduceIte, Nat.reduceAdd]
                rcases brc h with ⟨hb, h⟩ | ⟨hb, h⟩
                · refine br_t hb ?_
                  obtain rfl := Option.some.inj h
                  first | rfl | (simp only [List.length_set, go_sem]; done)
                · refine br_f hb ?_
                  obtain ⟨e_, h1, h⟩ := bd h
                  refine goR_of (w_FnSource_1_l h1) ?_
                  rcases e_ with e_2 | e_3
                  · simp +decide only [go_sem, reduceIte, Nat.reduceAdd]
                    obtain rfl := Option.some.inj h
                    first | rfl | (simp only [List.length_set, go_sem]; done)
                  · simp +decide only [go_sem, reduceIte, Nat.reduceAdd]
                    obtain ⟨r_13, h1, h⟩ := bd h
                    refine call_aft (i_AbsorbExts_c h1) ?_
                    simp +decide only [go_sem, reduceIte, Nat.reduceAdd]
                    obtain ⟨r_14, h1, h⟩ := bd h
                    refine call_aft (s_AbsorbExts_c h1) ?_
                    simp +decide only [go_sem, reduceIte, Nat.reduceAdd]
                    obtain ⟨r_15, h1, h⟩ := bd h
                    refine call_aftD (w_at_c h1) ?_
                    simp +decide only [go_sem, reduceIte, Nat.reduceAdd]
                    obtain ⟨r_16, h1, h⟩ := bd h
                    refine call_aftD (i_TakePlaces_c h1) ?_
                    simp +decide only [go_sem, reduceIte, Nat.reduceAdd]
                    obtain ⟨r_17, h1, h⟩ := bd h
                    refine call_aftD (w_at_c h1) ?_
                    simp +decide only [go_sem, reduceIte, Nat.reduceAdd]
                    obtain ⟨r_18, h1, h⟩ := bd h
                    refine call_aftD (s_TakePlaces_c h1) ?_
                    simp +decide only [go_sem, reduceIte, Nat.reduceAdd]
                    obtain ⟨e_4, h1, h⟩ := bd h
                    refine goR_of (w_FnSource_2_l h1) ?_
                    rcases e_4 with e_5 | e_6
                    · simp +decide only [go_sem, reduceIte, Nat.reduceAdd]
                      obtain rfl := Option.some.inj h
                      first | rfl | (simp only [List.length_set, go_sem]; done)
                    · simp +decide only [go_sem, reduceIte, Nat.reduceAdd]
                      obtain ⟨r_20, h1, h⟩ := bd h
                      refine call_aft (w_sameSource_c h1) ?_
                      simp +decide only [go_sem, reduceIte, Nat.reduceAdd]
                      rcases brc h with ⟨hb, h⟩ | ⟨hb, h⟩
                      · refine br_t hb ?_
                        rcases brc h with ⟨hb, h⟩ | ⟨hb, h⟩
                        · refine br_t hb ?_
                          obtain ⟨r_21, h1, h⟩ := bd h
                          refine call_aft (w_sameSource_c h1) ?_
                          simp +decide only [go_sem, reduceIte, Nat.reduceAdd]
                          rcases brc h with ⟨hb, h⟩ | ⟨hb, h⟩
                          · refine br_t hb ?_
                            rcases brc h with ⟨hb, h⟩ | ⟨hb, h⟩
                            · refine br_t hb ?_
                              obtain ⟨r_22, h1, h⟩ := bd h
                              refine call_aft (w_sameInts_c h1) ?_
                              simp +decide only [go_sem, reduceIte, Nat.reduceAdd]
                              rcases brc h with ⟨hb, h⟩ | ⟨hb, h⟩
                              · refine br_t hb ?_
                                obtain ⟨r_23, h1, h⟩ := bd h
                                refine call_aft (w_sameSource_c h1) ?_
                                simp +decide only [go_sem, reduceIte, Nat.reduceAdd]
                                obtain rfl := Option.some.inj h
                                first | rfl | (simp only [List.length_set, go_sem]; done)
                              · refine br_f hb ?_
                                obtain rfl := Option.some.inj h
                                first | rfl | (simp only [List.length_set, go_sem]; done)
                            · refine br_f hb ?_
                              obtain rfl := Option.some.inj h
                              first | rfl | (simp only [List.length_set, go_sem]; done)
                          · refine br_f hb ?_
                            obtain rfl := Option.some.inj h
                            first | rfl | (simp only [List.length_set, go_sem]; done)
                        · refine br_f hb ?_
                          obtain rfl := Option.some.inj h
                          first | rfl | (simp only [List.length_set, go_sem]; done)
                      · refine br_f hb ?_
                        obtain rfl := Option.some.inj h
                        first | rfl | (simp only [List.length_set, go_sem]; done)
end Go.AI.Fn

