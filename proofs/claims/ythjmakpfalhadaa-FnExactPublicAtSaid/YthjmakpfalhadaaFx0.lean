/- Walks through the program, with open values. -/
import Derived.Test.YthjmakpfalhadaaStr
import Derived.Test.YthjmakpfalhadaaTb2
set_option linter.unusedVariables false
set_option linter.unusedSimpArgs false
set_option maxRecDepth 100000
set_option maxHeartbeats 1000000
namespace Go.AI.Fn
noncomputable def i_in (n : Int) (low : Int) (high : Int) : Option (Bool) :=
  br (decide (low ≤ n)) (
    some (decide (n ≤ high))) (
    some false)
theorem i_in_c {n : Int} {low : Int} {high : Int} {r : Bool} (h : i_in n low high = some r) : Call tab ow 111 [I n, I low, I high] [] = some (B r, []) := by
  rw [run_i_in]
  unfold i_in at h
  simp +decide only [b_i_in, go_sem, reduceIte, Nat.reduceAdd]
  rcases brc h with ⟨hb, h⟩ | ⟨hb, h⟩
  · refine br_t hb ?_
    obtain rfl := Option.some.inj h
    first | rfl | (simp only [List.length_set, go_sem]; done)
  · refine br_f hb ?_
    obtain rfl := Option.some.inj h
    first | rfl | (simp only [List.length_set, go_sem]; done)
noncomputable def i_System_half (s : System) : Option (Int) :=
  br (decide (0 ≤ (IntKind.wrap .i64 (s.Cols - (1 : Int))))) (
    some (shl64 .i64 (1 : Int) (IntKind.wrap .i64 (s.Cols - (1 : Int))))) (
    none)
theorem i_System_half_c {s : System} {r : Int} (h : i_System_half s = some r) : Call tab ow 103 [.agg [I s.Rows, I s.Cols, I s.Publics, sl eEntry s.A, sl eEntry s.B, sl eEntry s.C]] [] = some (I r, []) := by
  rw [run_i_System_half]
  unfold i_System_half at h
  simp +decide only [b_i_System_half, go_sem, reduceIte, Nat.reduceAdd]
  obtain ⟨hb, h⟩ := brg h
  refine br_t hb ?_
  obtain rfl := Option.some.inj h
  first | rfl | (simp only [List.length_set, go_sem]; done)
noncomputable def i_System_matrices (s : System) : Option (((List Entry) × (List Entry) × (List Entry))) :=
  some (s.A, s.B, s.C)
theorem i_System_matrices_c {s : System} {r : ((List Entry) × (List Entry) × (List Entry))} (h : i_System_matrices s = some r) : Call tab ow 203 [.agg [I s.Rows, I s.Cols, I s.Publics, sl eEntry s.A, sl eEntry s.B, sl eEntry s.C]] [] = some (.agg [sl eEntry r.1, sl eEntry r.2.1, sl eEntry r.2.2], []) := by
  rw [run_i_System_matrices]
  unfold i_System_matrices at h
  simp +decide only [b_i_System_matrices, go_sem, reduceIte, Nat.reduceAdd]
  obtain rfl := Option.some.inj h
  first | rfl | (simp only [List.length_set, go_sem]; done)
noncomputable def cmp_isNaN_int (x : Int) : Option (Bool) :=
  some (x != x)
theorem cmp_isNaN_int_c {x : Int} {r : Bool} (h : cmp_isNaN_int x = some r) : Call tab ow 293 [I x] [] = some (B r, []) := by
  rw [run_cmp_isNaN_int]
  unfold cmp_isNaN_int at h
  simp +decide only [b_cmp_isNaN_int, go_sem, reduceIte, Nat.reduceAdd]
  obtain rfl := Option.some.inj h
  first | rfl | (simp only [List.length_set, go_sem]; done)
noncomputable def cmp_Compare_int (x : Int) (y : Int) : Option (Int) :=
  (cmp_isNaN_int x).bind fun r_ =>
  (cmp_isNaN_int y).bind fun r_2 =>
  br r_ (
    br r_2 (
      some (0 : Int)) (
      some (-1 : Int))) (
    br r_2 (
      some (1 : Int)) (
      br (decide (x < y)) (
        some (-1 : Int)) (
        br (decide (x > y)) (
          some (1 : Int)) (
          some (0 : Int)))))
theorem cmp_Compare_int_c {x : Int} {y : Int} {r : Int} (h : cmp_Compare_int x y = some r) : Call tab ow 279 [I x, I y] [] = some (I r, []) := by
  rw [run_cmp_Compare_int]
  unfold cmp_Compare_int at h
  simp +decide only [b_cmp_Compare_int, go_sem, reduceIte, Nat.reduceAdd]
  obtain ⟨r_, h1, h⟩ := bd h
  refine call_aft (cmp_isNaN_int_c h1) ?_
  simp +decide only [go_sem, reduceIte, Nat.reduceAdd]
  obtain ⟨r_2, h1, h⟩ := bd h
  refine call_aft (cmp_isNaN_int_c h1) ?_
  simp +decide only [go_sem, reduceIte, Nat.reduceAdd]
  rcases brc h with ⟨hb, h⟩ | ⟨hb, h⟩
  · refine br_t hb ?_
    rcases brc h with ⟨hb, h⟩ | ⟨hb, h⟩
    · refine br_t hb ?_
      obtain rfl := Option.some.inj h
      first | rfl | (simp only [List.length_set, go_sem]; done)
    · refine br_f hb ?_
      obtain rfl := Option.some.inj h
      first | rfl | (simp only [List.length_set, go_sem]; done)
  · refine br_f hb ?_
    rcases brc h with ⟨hb, h⟩ | ⟨hb, h⟩
    · refine br_t hb ?_
      obtain rfl := Option.some.inj h
      first | rfl | (simp only [List.length_set, go_sem]; done)
    · refine br_f hb ?_
      rcases brc h with ⟨hb, h⟩ | ⟨hb, h⟩
      · refine br_t hb ?_
        obtain rfl := Option.some.inj h
        first | rfl | (simp only [List.length_set, go_sem]; done)
      · refine br_f hb ?_
        rcases brc h with ⟨hb, h⟩ | ⟨hb, h⟩
        · refine br_t hb ?_
          obtain rfl := Option.some.inj h
          first | rfl | (simp only [List.length_set, go_sem]; done)
        · refine br_f hb ?_
          obtain rfl := Option.some.inj h
          first | rfl | (simp only [List.length_set, go_sem]; done)
noncomputable def cmp_Or_int_1_s (zero : Int) (t : List Int) (t2 : Int) : Int → Option ((Int) ⊕ (Int ⊕ (Int × Bool)))
  | t3 =>
    br (decide (t3 < t2)) (
      (atL t t3).bind fun x =>
      br (x != zero) (
        some (.inr (.inl x))) (
        some (.inl (IntKind.wrap .i64 (t3 + (1 : Int)))))) (
      some (.inr (.inr (t3, decide (t3 < t2)))))
theorem cmp_Or_int_1_l {zero : Int} {t : List Int} {t2 : Int} {t3 : Int} {e : Int ⊕ (Int × Bool)} (h : Loop (cmp_Or_int_1_s zero t t2) t3 = some e) : LoopX tab ow (.close []) b_cmp_Or_int_3 ⟨[(3, I zero), (6, sl eI t), (7, I t2), (8, I t3)], []⟩ = some ((alt (fun e => ((.ret, ⟨[(2, I e)], []⟩) : AExit × St)) (fun e => (.exit 0, ⟨[(3, I zero), (6, sl eI t), (7, I t2), (8, I e.1), (9, B e.2)], []⟩))) e) := by
  refine loop_runG (S := Int) (eS := fun s => ⟨[(3, I zero), (6, sl eI t), (7, I t2), (8, I s)], []⟩) (eE := fun e => (alt (fun e => ((.ret, ⟨[(2, I e)], []⟩) : AExit × St)) (fun e => (.exit 0, ⟨[(3, I zero), (6, sl eI t), (7, I t2), (8, I e.1), (9, B e.2)], []⟩))) e) (fun e => ?_) (fun t3 o h => ?_) h
  · rcases e with e | e <;> simp [alt]
  · skip
    simp only [cmp_Or_int_1_s] at h
    show Rn tab ow _ _ ⟨[(3, I zero), (6, sl eI t), (7, I t2), (8, I t3)], []⟩ = _
    simp +decide only [b_cmp_Or_int_3, go_sem, reduceIte, Nat.reduceAdd]
    rcases brc h with ⟨hb, h⟩ | ⟨hb, h⟩
    · refine br_t hb ?_
      obtain ⟨x, h1, h⟩ := bd h
      refine bind_some h1 ?_
      rcases brc h with ⟨hb, h⟩ | ⟨hb, h⟩
      · refine br_t hb ?_
        obtain rfl := Option.some.inj h
        first | rfl | (simp only [List.length_set, go_sem]; done)
      · refine br_f hb ?_
        obtain rfl := Option.some.inj h
        first | rfl | (simp only [List.length_set, go_sem]; done)
    · refine br_f hb ?_
      obtain rfl := Option.some.inj h
      first | rfl | (simp only [List.length_set, go_sem]; done)
noncomputable def cmp_Or_int (vals : (List Int)) : Option (Int) :=
  (Loop (cmp_Or_int_1_s (0 : Int) vals ((vals.length : Nat) : Int)) (0 : Int)).bind (alt (fun e_2 =>
    some e_2) (fun e_3 =>
    some (0 : Int)))
theorem cmp_Or_int_c {vals : (List Int)} {r : Int} (h : cmp_Or_int vals = some r) : Call tab ow 278 [sl eI vals] [] = some (I r, []) := by
  rw [run_cmp_Or_int]
  unfold cmp_Or_int at h
  simp +decide only [b_cmp_Or_int, go_sem, reduceIte, Nat.reduceAdd]
  obtain ⟨e_, h1, h⟩ := bd h
  refine goR_of (cmp_Or_int_1_l h1) ?_
  rcases e_ with e_2 | e_3
  · simp +decide only [go_sem, reduceIte, Nat.reduceAdd]
    obtain rfl := Option.some.inj h
    first | rfl | (simp only [List.length_set, go_sem]; done)
  · simp +decide only [go_sem, reduceIte, Nat.reduceAdd]
    obtain rfl := Option.some.inj h
    first | rfl | (simp only [List.length_set, go_sem]; done)
section
theorem i_Entry_order_k0 : mkR 2010 [] = rws eI [] := rfl
attribute [local go_sem] i_Entry_order_k0
noncomputable def i_Entry_order (e_ : Entry) (f : Entry) : Option (Int) :=
  (cmp_Compare_int e_.Row f.Row).bind fun r_ =>
  (cmp_Compare_int e_.Col f.Col).bind fun r_2 =>
  (cmp_Or_int ([r_, r_2] : List Int)).bind fun r_3 =>
  some r_3
theorem i_Entry_order_c {e_ : Entry} {f : Entry} {r : Int} (h : i_Entry_order e_ f = some r) : Call tab ow 251 [.agg [I e_.Row, I e_.Col, I e_.Value], .agg [I f.Row, I f.Col, I f.Value]] [] = some (I r, []) := by
  rw [run_i_Entry_order]
  unfold i_Entry_order at h
  simp +decide only [b_i_Entry_order, go_sem, reduceIte, Nat.reduceAdd]
  obtain ⟨r_, h1, h⟩ := bd h
  refine call_aftD (cmp_Compare_int_c h1) ?_
  simp +decide only [go_sem, reduceIte, Nat.reduceAdd]
  obtain ⟨r_2, h1, h⟩ := bd h
  refine call_aftD (cmp_Compare_int_c h1) ?_
  simp +decide only [go_sem, reduceIte, Nat.reduceAdd]
  obtain ⟨r_3, h1, h⟩ := bd h
  refine call_aftD (cmp_Or_int_c h1) ?_
  simp +decide only [go_sem, reduceIte, Nat.reduceAdd]
  obtain rfl := Option.some.inj h
  first | rfl | (simp only [List.length_set, go_sem]; done)
end
noncomputable def i_isMatrix_1_s (list2 : List Entry) (rows2 : Int) (cols2 : Int) (t : List Entry) (t2 : Int) : Int → Option ((Int) ⊕ ((Int × Int × Int) ⊕ (Int × Bool)))
  | t3 =>
    br (decide (t3 < t2)) (
      (atL t t3).bind fun x =>
      (i_in x.Row (0 : Int) (IntKind.wrap .i64 (rows2 - (1 : Int)))).bind fun r_ =>
      br (!r_) (
        some (.inr (.inl (x.Row, x.Col, x.Value)))) (
        (i_in x.Col (0 : Int) (IntKind.wrap .i64 (cols2 - (1 : Int)))).bind fun r_2 =>
        br (!r_2) (
          some (.inr (.inl (x.Row, x.Col, x.Value)))) (
          (i_in x.Value (1 : Int) (2130706432 : Int)).bind fun r_3 =>
          br (!r_3) (
            some (.inr (.inl (x.Row, x.Col, x.Value)))) (
            br (decide (t3 > (0 : Int))) (
              (atL list2 (IntKind.wrap .i64 (t3 - (1 : Int)))).bind fun x2 =>
              (i_Entry_order x2 x).bind fun r_4 =>
              br (decide (r_4 ≥ (0 : Int))) (
                some (.inr (.inl (x.Row, x.Col, x.Value)))) (
                some (.inl (IntKind.wrap .i64 (t3 + (1 : Int)))))) (
              some (.inl (IntKind.wrap .i64 (t3 + (1 : Int))))))))) (
      some (.inr (.inr (t3, decide (t3 < t2)))))
theorem i_isMatrix_1_l {list2 : List Entry} {rows2 : Int} {cols2 : Int} {t : List Entry} {t2 : Int} {t3 : Int} {e : (Int × Int × Int) ⊕ (Int × Bool)} (h : Loop (i_isMatrix_1_s list2 rows2 cols2 t t2) t3 = some e) : LoopX tab ow (.close [4003, 5004, 5011, 5017, 5030]) b_i_isMatrix_2 ⟨[(0, sl eEntry list2), (1, I rows2), (2, I cols2), (9, sl eEntry t), (10, I t2), (11, I t3)], []⟩ = some ((alt (fun e => ((.ret, ⟨[(6, B false)], [(4003, ⟨3, true, [[I e.1, I e.2.1, I e.2.2]]⟩)]⟩) : AExit × St)) (fun e => (.exit 0, ⟨[(0, sl eEntry list2), (1, I rows2), (2, I cols2), (9, sl eEntry t), (10, I t2), (11, I e.1), (12, B e.2)], []⟩))) e) := by
  refine loop_runG (S := Int) (eS := fun s => ⟨[(0, sl eEntry list2), (1, I rows2), (2, I cols2), (9, sl eEntry t), (10, I t2), (11, I s)], []⟩) (eE := fun e => (alt (fun e => ((.ret, ⟨[(6, B false)], [(4003, ⟨3, true, [[I e.1, I e.2.1, I e.2.2]]⟩)]⟩) : AExit × St)) (fun e => (.exit 0, ⟨[(0, sl eEntry list2), (1, I rows2), (2, I cols2), (9, sl eEntry t), (10, I t2), (11, I e.1), (12, B e.2)], []⟩))) e) (fun e => ?_) (fun t3 o h => ?_) h
  · rcases e with e | e <;> simp [alt]
  · skip
    simp only [i_isMatrix_1_s] at h
    show Rn tab ow _ _ ⟨[(0, sl eEntry list2), (1, I rows2), (2, I cols2), (9, sl eEntry t), (10, I t2), (11, I t3)], []⟩ = _
    simp +decide only [b_i_isMatrix_2, go_sem, reduceIte, Nat.reduceAdd]
    rcases brc h with ⟨hb, h⟩ | ⟨hb, h⟩
    · refine br_t hb ?_
      obtain ⟨x, h1, h⟩ := bd h
      refine bind_some h1 ?_
      obtain ⟨r_, h1, h⟩ := bd h
      refine call_aftD (i_in_c h1) ?_
      simp +decide only [go_sem, reduceIte, Nat.reduceAdd]
      rcases brc h with ⟨hb, h⟩ | ⟨hb, h⟩
      · refine br_t hb ?_
        obtain rfl := Option.some.inj h
        first | rfl | (simp only [List.length_set, go_sem]; done)
      · refine br_f hb ?_
        obtain ⟨r_2, h1, h⟩ := bd h
        refine call_aftD (i_in_c h1) ?_
        simp +decide only [go_sem, reduceIte, Nat.reduceAdd]
        rcases brc h with ⟨hb, h⟩ | ⟨hb, h⟩
        · refine br_t hb ?_
          obtain rfl := Option.some.inj h
          first | rfl | (simp only [List.length_set, go_sem]; done)
        · refine br_f hb ?_
          obtain ⟨r_3, h1, h⟩ := bd h
          refine call_aftD (i_in_c h1) ?_
          simp +decide only [go_sem, reduceIte, Nat.reduceAdd]
          rcases brc h with ⟨hb, h⟩ | ⟨hb, h⟩
          · refine br_t hb ?_
            obtain rfl := Option.some.inj h
            first | rfl | (simp only [List.length_set, go_sem]; done)
          · refine br_f hb ?_
            rcases brc h with ⟨hb, h⟩ | ⟨hb, h⟩
            · refine br_t hb ?_
              obtain ⟨x2, h1, h⟩ := bd h
              refine bind_some h1 ?_
              obtain ⟨r_4, h1, h⟩ := bd h
              refine call_aftD (i_Entry_order_c h1) ?_
              simp +decide only [go_sem, reduceIte, Nat.reduceAdd]
              rcases brc h with ⟨hb, h⟩ | ⟨hb, h⟩
              · refine br_t hb ?_
                obtain rfl := Option.some.inj h
                first | rfl | (simp only [List.length_set, go_sem]; done)
              · refine br_f hb ?_
                obtain rfl := Option.some.inj h
                first | rfl | (simp only [List.length_set, go_sem]; done)
            · refine br_f hb ?_
              obtain rfl := Option.some.inj h
              first | rfl | (simp only [List.length_set, go_sem]; done)
    · refine br_f hb ?_
      obtain rfl := Option.some.inj h
      first | rfl | (simp only [List.length_set, go_sem]; done)
noncomputable def i_isMatrix (list : (List Entry)) (rows : Int) (cols : Int) : Option (Bool) :=
  (Loop (i_isMatrix_1_s list rows cols list ((list.length : Nat) : Int)) (0 : Int)).bind (alt (fun e_2 =>
    some false) (fun e_3 =>
    some (decide (((list.length : Nat) : Int) ≤ (200 : Int)))))
theorem i_isMatrix_c {list : (List Entry)} {rows : Int} {cols : Int} {r : Bool} (h : i_isMatrix list rows cols = some r) : Call tab ow 169 [sl eEntry list, I rows, I cols] [] = some (B r, []) := by
  rw [run_i_isMatrix]
  unfold i_isMatrix at h
  simp +decide only [b_i_isMatrix, go_sem, reduceIte, Nat.reduceAdd]
  obtain ⟨e_, h1, h⟩ := bd h
  refine goR_of (i_isMatrix_1_l h1) ?_
  rcases e_ with e_2 | e_3
  · simp +decide only [go_sem, reduceIte, Nat.reduceAdd]
    obtain rfl := Option.some.inj h
    first | rfl | (simp only [List.length_set, go_sem]; done)
  · simp +decide only [go_sem, reduceIte, Nat.reduceAdd]
    obtain rfl := Option.some.inj h
    first | rfl | (simp only [List.length_set, go_sem]; done)
noncomputable def i_SystemOK (s : System) : Option (Bool) :=
  (i_in s.Rows (1 : Int) (5 : Int)).bind fun r_ =>
  br (!r_) (
    some false) (
    (i_in s.Cols (2 : Int) (5 : Int)).bind fun r_2 =>
    br (!r_2) (
      some false) (
      (i_System_half s).bind fun r_3 =>
      (i_in s.Publics (0 : Int) (IntKind.wrap .i64 (r_3 - (1 : Int)))).bind fun r_4 =>
      br (!r_4) (
        some false) (
        (i_System_matrices s).bind fun r_5 =>
        br (decide (0 ≤ s.Rows)) (
          br (decide (0 ≤ s.Cols)) (
            (i_isMatrix r_5.1 (shl64 .i64 (1 : Int) s.Rows) (shl64 .i64 (1 : Int) s.Cols)).bind fun r_6 =>
            br (!r_6) (
              some false) (
              br (decide (0 ≤ s.Rows)) (
                br (decide (0 ≤ s.Cols)) (
                  (i_isMatrix r_5.2.1 (shl64 .i64 (1 : Int) s.Rows) (shl64 .i64 (1 : Int) s.Cols)).bind fun r_7 =>
                  br (!r_7) (
                    some false) (
                    br (decide (0 ≤ s.Rows)) (
                      br (decide (0 ≤ s.Cols)) (
                        (i_isMatrix r_5.2.2 (shl64 .i64 (1 : Int) s.Rows) (shl64 .i64 (1 : Int) s.Cols)).bind fun r_8 =>
                        br (!r_8) (
                          some false) (
                          some true)) (
                        none)) (
                      none))) (
                  none)) (
                none))) (
            none)) (
          none))))
theorem i_SystemOK_c {s : System} {r : Bool} (h : i_SystemOK s = some r) : Call tab ow 97 [.agg [I s.Rows, I s.Cols, I s.Publics, sl eEntry s.A, sl eEntry s.B, sl eEntry s.C]] [] = some (B r, []) := by
  rw [run_i_SystemOK]
  unfold i_SystemOK at h
  simp +decide only [b_i_SystemOK, go_sem, reduceIte, Nat.reduceAdd, Int.reduceAdd, Int.reduceMul, Int.reduceSub]
  obtain ⟨r_, h1, h⟩ := bd h
  refine call_aftD (i_in_c h1) ?_
  simp +decide only [go_sem, reduceIte, Nat.reduceAdd, Int.reduceAdd, Int.reduceMul, Int.reduceSub]
  rcases brc h with ⟨hb, h⟩ | ⟨hb, h⟩
  · refine br_t hb ?_
    obtain rfl := Option.some.inj h
    first | rfl | (simp only [List.length_set, go_sem]; done)
  · refine br_f hb ?_
    obtain ⟨r_2, h1, h⟩ := bd h
    refine call_aftD (i_in_c h1) ?_
    simp +decide only [go_sem, reduceIte, Nat.reduceAdd, Int.reduceAdd, Int.reduceMul, Int.reduceSub]
    rcases brc h with ⟨hb, h⟩ | ⟨hb, h⟩
    · refine br_t hb ?_
      obtain rfl := Option.some.inj h
      first | rfl | (simp only [List.length_set, go_sem]; done)
    · refine br_f hb ?_
      obtain ⟨r_3, h1, h⟩ := bd h
      refine call_aftD (i_System_half_c h1) ?_
      simp +decide only [go_sem, reduceIte, Nat.reduceAdd, Int.reduceAdd, Int.reduceMul, Int.reduceSub]
      obtain ⟨r_4, h1, h⟩ := bd h
      refine call_aftD (i_in_c h1) ?_
      simp +decide only [go_sem, reduceIte, Nat.reduceAdd, Int.reduceAdd, Int.reduceMul, Int.reduceSub]
      rcases brc h with ⟨hb, h⟩ | ⟨hb, h⟩
      · refine br_t hb ?_
        obtain rfl := Option.some.inj h
        first | rfl | (simp only [List.length_set, go_sem]; done)
      · refine br_f hb ?_
        obtain ⟨r_5, h1, h⟩ := bd h
        refine call_aft (i_System_matrices_c h1) ?_
        simp +decide only [go_sem, reduceIte, Nat.reduceAdd, Int.reduceAdd, Int.reduceMul, Int.reduceSub]
        refine unroll_of ?_
        simp +decide only [b_i_SystemOK_4, go_sem, reduceIte, Nat.reduceAdd, Int.reduceAdd, Int.reduceMul, Int.reduceSub]
        obtain ⟨hb, h⟩ := brg h
        refine br_t hb ?_
        obtain ⟨hb, h⟩ := brg h
        refine br_t hb ?_
        obtain ⟨r_6, h1, h⟩ := bd h
        refine call_aftD (i_isMatrix_c h1) ?_
        simp +decide only [go_sem, reduceIte, Nat.reduceAdd, Int.reduceAdd, Int.reduceMul, Int.reduceSub]
        rcases brc h with ⟨hb, h⟩ | ⟨hb, h⟩
        · refine br_t hb ?_
          obtain rfl := Option.some.inj h
          first | rfl | (simp only [List.length_set, go_sem]; done)
        · refine br_f hb ?_
          refine unroll_of ?_
          simp +decide only [b_i_SystemOK_4, go_sem, reduceIte, Nat.reduceAdd, Int.reduceAdd, Int.reduceMul, Int.reduceSub]
          obtain ⟨hb, h⟩ := brg h
          refine br_t hb ?_
          obtain ⟨hb, h⟩ := brg h
          refine br_t hb ?_
          obtain ⟨r_7, h1, h⟩ := bd h
          refine call_aftD (i_isMatrix_c h1) ?_
          simp +decide only [go_sem, reduceIte, Nat.reduceAdd, Int.reduceAdd, Int.reduceMul, Int.reduceSub]
          rcases brc h with ⟨hb, h⟩ | ⟨hb, h⟩
          · refine br_t hb ?_
            obtain rfl := Option.some.inj h
            first | rfl | (simp only [List.length_set, go_sem]; done)
          · refine br_f hb ?_
            refine unroll_of ?_
            simp +decide only [b_i_SystemOK_4, go_sem, reduceIte, Nat.reduceAdd, Int.reduceAdd, Int.reduceMul, Int.reduceSub]
            obtain ⟨hb, h⟩ := brg h
            refine br_t hb ?_
            obtain ⟨hb, h⟩ := brg h
            refine br_t hb ?_
            obtain ⟨r_8, h1, h⟩ := bd h
            refine call_aftD (i_isMatrix_c h1) ?_
            simp +decide only [go_sem, reduceIte, Nat.reduceAdd, Int.reduceAdd, Int.reduceMul, Int.reduceSub]
            rcases brc h with ⟨hb, h⟩ | ⟨hb, h⟩
            · refine br_t hb ?_
              obtain rfl := Option.some.inj h
              first | rfl | (simp only [List.length_set, go_sem]; done)
            · refine br_f hb ?_
              refine unroll_of ?_
              simp +decide only [b_i_SystemOK_4, go_sem, reduceIte, Nat.reduceAdd, Int.reduceAdd, Int.reduceMul, Int.reduceSub]
              obtain rfl := Option.some.inj h
              first | rfl | (simp only [List.length_set, go_sem]; done)
noncomputable def i_FieldOK (a : Int) : Option (Bool) :=
  (i_in a (0 : Int) (2130706432 : Int)).bind fun r_ =>
  some r_
theorem i_FieldOK_c {a : Int} {r : Bool} (h : i_FieldOK a = some r) : Call tab ow 99 [I a] [] = some (B r, []) := by
  rw [run_i_FieldOK]
  unfold i_FieldOK at h
  simp +decide only [b_i_FieldOK, go_sem, reduceIte, Nat.reduceAdd]
  obtain ⟨r_, h1, h⟩ := bd h
  refine call_aft (i_in_c h1) ?_
  simp +decide only [go_sem, reduceIte, Nat.reduceAdd]
  obtain rfl := Option.some.inj h
  first | rfl | (simp only [List.length_set, go_sem]; done)
noncomputable def i_are_int_1_FieldOK (x : Int) : Option (Bool) :=
  (i_FieldOK x).bind fun r_ =>
  some (!r_)
theorem i_are_int_1_FieldOK_c {x : Int} {r : Bool} (h : i_are_int_1_FieldOK x = some r) : Call tab ow 205 [I x, .ptr 0 0 0 1] [⟨1, true, [[.fn 99 []]]⟩] = some (B r, [⟨1, true, [[.fn 99 []]]⟩]) := by
  rw [run_i_are_int_1]
  unfold i_are_int_1_FieldOK at h
  simp +decide only [b_i_are_int_1, go_sem, reduceIte, Nat.reduceAdd]
  obtain ⟨r_, h1, h⟩ := bd h
  refine call_aft (i_FieldOK_c h1) ?_
  simp +decide only [go_sem, reduceIte, Nat.reduceAdd]
  obtain rfl := Option.some.inj h
  first | rfl | (simp only [List.length_set, go_sem]; done)
noncomputable def slices_IndexFunc_Lint_int_are_int_1_FieldOK_1_s (s2 : List Int) (t : Int) : Int → Option ((Int) ⊕ (Int ⊕ (Int × Bool)))
  | t2 =>
    br (decide (t2 < t)) (
      (atL s2 t2).bind fun x =>
      (i_are_int_1_FieldOK x).bind fun r_ =>
      br r_ (
        some (.inr (.inl t2))) (
        some (.inl (IntKind.wrap .i64 (t2 + (1 : Int)))))) (
      some (.inr (.inr (t2, decide (t2 < t)))))
theorem slices_IndexFunc_Lint_int_are_int_1_FieldOK_1_l {s2 : List Int} {t : Int} {t2 : Int} {e : Int ⊕ (Int × Bool)} (h : Loop (slices_IndexFunc_Lint_int_are_int_1_FieldOK_1_s s2 t) t2 = some e) : LoopX tab ow (.close [5005]) b_slices_IndexFunc_Lint_int_2 ⟨[(0, sl eI s2), (1, .fn 205 [.ptr 0 0 0 1]), (7, I t), (8, I t2)], [(0, ⟨1, true, [[.fn 99 []]]⟩)]⟩ = some ((alt (fun e => ((.ret, ⟨[(4, I e)], [(0, ⟨1, true, [[.fn 99 []]]⟩)]⟩) : AExit × St)) (fun e => (.exit 0, ⟨[(0, sl eI s2), (1, .fn 205 [.ptr 0 0 0 1]), (7, I t), (8, I e.1), (9, B e.2)], [(0, ⟨1, true, [[.fn 99 []]]⟩)]⟩))) e) := by
  refine loop_runG (S := Int) (eS := fun s => ⟨[(0, sl eI s2), (1, .fn 205 [.ptr 0 0 0 1]), (7, I t), (8, I s)], [(0, ⟨1, true, [[.fn 99 []]]⟩)]⟩) (eE := fun e => (alt (fun e => ((.ret, ⟨[(4, I e)], [(0, ⟨1, true, [[.fn 99 []]]⟩)]⟩) : AExit × St)) (fun e => (.exit 0, ⟨[(0, sl eI s2), (1, .fn 205 [.ptr 0 0 0 1]), (7, I t), (8, I e.1), (9, B e.2)], [(0, ⟨1, true, [[.fn 99 []]]⟩)]⟩))) e) (fun e => ?_) (fun t2 o h => ?_) h
  · rcases e with e | e <;> simp [alt]
  · skip
    simp only [slices_IndexFunc_Lint_int_are_int_1_FieldOK_1_s] at h
    show Rn tab ow _ _ ⟨[(0, sl eI s2), (1, .fn 205 [.ptr 0 0 0 1]), (7, I t), (8, I t2)], [(0, ⟨1, true, [[.fn 99 []]]⟩)]⟩ = _
    simp +decide only [b_slices_IndexFunc_Lint_int_2, go_sem, reduceIte, Nat.reduceAdd]
    rcases brc h with ⟨hb, h⟩ | ⟨hb, h⟩
    · refine br_t hb ?_
      obtain ⟨x, h1, h⟩ := bd h
      refine bind_some h1 ?_
      obtain ⟨r_, h1, h⟩ := bd h
      refine call_aft (i_are_int_1_FieldOK_c h1) ?_
      simp +decide only [go_sem, reduceIte, Nat.reduceAdd]
      rcases brc h with ⟨hb, h⟩ | ⟨hb, h⟩
      · refine br_t hb ?_
        obtain rfl := Option.some.inj h
        first | rfl | (simp only [List.length_set, go_sem]; done)
      · refine br_f hb ?_
        obtain rfl := Option.some.inj h
        first | rfl | (simp only [List.length_set, go_sem]; done)
    · refine br_f hb ?_
      obtain rfl := Option.some.inj h
      first | rfl | (simp only [List.length_set, go_sem]; done)
noncomputable def slices_IndexFunc_Lint_int_are_int_1_FieldOK (s : (List Int)) : Option (Int) :=
  (Loop (slices_IndexFunc_Lint_int_are_int_1_FieldOK_1_s s ((s.length : Nat) : Int)) (0 : Int)).bind (alt (fun e_2 =>
    some e_2) (fun e_3 =>
    some (-1 : Int)))
theorem slices_IndexFunc_Lint_int_are_int_1_FieldOK_c {s : (List Int)} {r : Int} (h : slices_IndexFunc_Lint_int_are_int_1_FieldOK s = some r) : Call tab ow 265 [sl eI s, .fn 205 [.ptr 0 0 0 1]] [⟨1, true, [[.fn 99 []]]⟩] = some (I r, [⟨1, true, [[.fn 99 []]]⟩]) := by
  rw [run_slices_IndexFunc_Lint_int]
  unfold slices_IndexFunc_Lint_int_are_int_1_FieldOK at h
  simp +decide only [b_slices_IndexFunc_Lint_int, go_sem, reduceIte, Nat.reduceAdd]
  obtain ⟨e_, h1, h⟩ := bd h
  refine goR_of (slices_IndexFunc_Lint_int_are_int_1_FieldOK_1_l h1) ?_
  rcases e_ with e_2 | e_3
  · simp +decide only [go_sem, reduceIte, Nat.reduceAdd]
    obtain rfl := Option.some.inj h
    first | rfl | (simp only [List.length_set, go_sem]; done)
  · simp +decide only [go_sem, reduceIte, Nat.reduceAdd]
    obtain rfl := Option.some.inj h
    first | rfl | (simp only [List.length_set, go_sem]; done)
noncomputable def slices_ContainsFunc_Lint_int_are_int_1_FieldOK (s : (List Int)) : Option (Bool) :=
  (slices_IndexFunc_Lint_int_are_int_1_FieldOK s).bind fun r_ =>
  some (decide (r_ ≥ (0 : Int)))
theorem slices_ContainsFunc_Lint_int_are_int_1_FieldOK_c {s : (List Int)} {r : Bool} (h : slices_ContainsFunc_Lint_int_are_int_1_FieldOK s = some r) : Call tab ow 204 [sl eI s, .fn 205 [.ptr 0 0 0 1]] [⟨1, true, [[.fn 99 []]]⟩] = some (B r, [⟨1, true, [[.fn 99 []]]⟩]) := by
  rw [run_slices_ContainsFunc_Lint_int]
  unfold slices_ContainsFunc_Lint_int_are_int_1_FieldOK at h
  simp +decide only [b_slices_ContainsFunc_Lint_int, go_sem, reduceIte, Nat.reduceAdd]
  obtain ⟨r_, h1, h⟩ := bd h
  refine call_aft (slices_IndexFunc_Lint_int_are_int_1_FieldOK_c h1) ?_
  simp +decide only [go_sem, reduceIte, Nat.reduceAdd]
  obtain rfl := Option.some.inj h
  first | rfl | (simp only [List.length_set, go_sem]; done)
noncomputable def i_are_int_FieldOK (list : (List Int)) : Option (Bool) :=
  (slices_ContainsFunc_Lint_int_are_int_1_FieldOK list).bind fun r_ =>
  some (!r_)
theorem i_are_int_FieldOK_c {list : (List Int)} {r : Bool} (h : i_are_int_FieldOK list = some r) : Call tab ow 98 [.fn 99 [], sl eI list] [] = some (B r, []) := by
  rw [run_i_are_int]
  unfold i_are_int_FieldOK at h
  simp +decide only [b_i_are_int, go_sem, reduceIte, Nat.reduceAdd]
  obtain ⟨r_, h1, h⟩ := bd h
  refine call_aft (slices_ContainsFunc_Lint_int_are_int_1_FieldOK_c h1) ?_
  simp +decide only [go_sem, reduceIte, Nat.reduceAdd]
  obtain rfl := Option.some.inj h
  first | rfl | (simp only [List.length_set, go_sem]; done)
noncomputable def i_ExtOK (a : Ext) : Option (Bool) :=
  (i_FieldOK a.A).bind fun r_ =>
  br r_ (
    (i_FieldOK a.B).bind fun r_2 =>
    some r_2) (
    some false)
theorem i_ExtOK_c {a : Ext} {r : Bool} (h : i_ExtOK a = some r) : Call tab ow 101 [.agg [I a.A, I a.B]] [] = some (B r, []) := by
  rw [run_i_ExtOK]
  unfold i_ExtOK at h
  simp +decide only [b_i_ExtOK, go_sem, reduceIte, Nat.reduceAdd]
  obtain ⟨r_, h1, h⟩ := bd h
  refine call_aft (i_FieldOK_c h1) ?_
  simp +decide only [go_sem, reduceIte, Nat.reduceAdd]
  rcases brc h with ⟨hb, h⟩ | ⟨hb, h⟩
  · refine br_t hb ?_
    obtain ⟨r_2, h1, h⟩ := bd h
    refine call_aft (i_FieldOK_c h1) ?_
    simp +decide only [go_sem, reduceIte, Nat.reduceAdd]
    obtain rfl := Option.some.inj h
    first | rfl | (simp only [List.length_set, go_sem]; done)
  · refine br_f hb ?_
    obtain rfl := Option.some.inj h
    first | rfl | (simp only [List.length_set, go_sem]; done)
noncomputable def i_are_i_Ext_1_ExtOK (x : Ext) : Option (Bool) :=
  (i_ExtOK x).bind fun r_ =>
  some (!r_)
theorem i_are_i_Ext_1_ExtOK_c {x : Ext} {r : Bool} (h : i_are_i_Ext_1_ExtOK x = some r) : Call tab ow 206 [.agg [I x.A, I x.B], .ptr 0 0 0 1] [⟨1, true, [[.fn 101 []]]⟩] = some (B r, [⟨1, true, [[.fn 101 []]]⟩]) := by
  rw [run_i_are_i_Ext_1]
  unfold i_are_i_Ext_1_ExtOK at h
  simp +decide only [b_i_are_i_Ext_1, go_sem, reduceIte, Nat.reduceAdd]
  obtain ⟨r_, h1, h⟩ := bd h
  refine call_aft (i_ExtOK_c h1) ?_
  simp +decide only [go_sem, reduceIte, Nat.reduceAdd]
  obtain rfl := Option.some.inj h
  first | rfl | (simp only [List.length_set, go_sem]; done)
noncomputable def slices_IndexFunc_Li_Ext_i_Ext_are_i_Ext_1_ExtOK_1_s (s2 : List Ext) (t : Int) : Int → Option ((Int) ⊕ (Int ⊕ (Int × Bool)))
  | t2 =>
    br (decide (t2 < t)) (
      (atL s2 t2).bind fun x =>
      (i_are_i_Ext_1_ExtOK x).bind fun r_ =>
      br r_ (
        some (.inr (.inl t2))) (
        some (.inl (IntKind.wrap .i64 (t2 + (1 : Int)))))) (
      some (.inr (.inr (t2, decide (t2 < t)))))
theorem slices_IndexFunc_Li_Ext_i_Ext_are_i_Ext_1_ExtOK_1_l {s2 : List Ext} {t : Int} {t2 : Int} {e : Int ⊕ (Int × Bool)} (h : Loop (slices_IndexFunc_Li_Ext_i_Ext_are_i_Ext_1_ExtOK_1_s s2 t) t2 = some e) : LoopX tab ow (.close [5005]) b_slices_IndexFunc_Li_Ext_i_Ext_2 ⟨[(0, sl eExt s2), (1, .fn 206 [.ptr 0 0 0 1]), (7, I t), (8, I t2)], [(0, ⟨1, true, [[.fn 101 []]]⟩)]⟩ = some ((alt (fun e => ((.ret, ⟨[(4, I e)], [(0, ⟨1, true, [[.fn 101 []]]⟩)]⟩) : AExit × St)) (fun e => (.exit 0, ⟨[(0, sl eExt s2), (1, .fn 206 [.ptr 0 0 0 1]), (7, I t), (8, I e.1), (9, B e.2)], [(0, ⟨1, true, [[.fn 101 []]]⟩)]⟩))) e) := by
  refine loop_runG (S := Int) (eS := fun s => ⟨[(0, sl eExt s2), (1, .fn 206 [.ptr 0 0 0 1]), (7, I t), (8, I s)], [(0, ⟨1, true, [[.fn 101 []]]⟩)]⟩) (eE := fun e => (alt (fun e => ((.ret, ⟨[(4, I e)], [(0, ⟨1, true, [[.fn 101 []]]⟩)]⟩) : AExit × St)) (fun e => (.exit 0, ⟨[(0, sl eExt s2), (1, .fn 206 [.ptr 0 0 0 1]), (7, I t), (8, I e.1), (9, B e.2)], [(0, ⟨1, true, [[.fn 101 []]]⟩)]⟩))) e) (fun e => ?_) (fun t2 o h => ?_) h
  · rcases e with e | e <;> simp [alt]
  · skip
    simp only [slices_IndexFunc_Li_Ext_i_Ext_are_i_Ext_1_ExtOK_1_s] at h
    show Rn tab ow _ _ ⟨[(0, sl eExt s2), (1, .fn 206 [.ptr 0 0 0 1]), (7, I t), (8, I t2)], [(0, ⟨1, true, [[.fn 101 []]]⟩)]⟩ = _
    simp +decide only [b_slices_IndexFunc_Li_Ext_i_Ext_2, go_sem, reduceIte, Nat.reduceAdd]
    rcases brc h with ⟨hb, h⟩ | ⟨hb, h⟩
    · refine br_t hb ?_
      obtain ⟨x, h1, h⟩ := bd h
      refine bind_some h1 ?_
      obtain ⟨r_, h1, h⟩ := bd h
      refine call_aft (i_are_i_Ext_1_ExtOK_c h1) ?_
      simp +decide only [go_sem, reduceIte, Nat.reduceAdd]
      rcases brc h with ⟨hb, h⟩ | ⟨hb, h⟩
      · refine br_t hb ?_
        obtain rfl := Option.some.inj h
        first | rfl | (simp only [List.length_set, go_sem]; done)
      · refine br_f hb ?_
        obtain rfl := Option.some.inj h
        first | rfl | (simp only [List.length_set, go_sem]; done)
    · refine br_f hb ?_
      obtain rfl := Option.some.inj h
      first | rfl | (simp only [List.length_set, go_sem]; done)
noncomputable def slices_IndexFunc_Li_Ext_i_Ext_are_i_Ext_1_ExtOK (s : (List Ext)) : Option (Int) :=
  (Loop (slices_IndexFunc_Li_Ext_i_Ext_are_i_Ext_1_ExtOK_1_s s ((s.length : Nat) : Int)) (0 : Int)).bind (alt (fun e_2 =>
    some e_2) (fun e_3 =>
    some (-1 : Int)))
theorem slices_IndexFunc_Li_Ext_i_Ext_are_i_Ext_1_ExtOK_c {s : (List Ext)} {r : Int} (h : slices_IndexFunc_Li_Ext_i_Ext_are_i_Ext_1_ExtOK s = some r) : Call tab ow 234 [sl eExt s, .fn 206 [.ptr 0 0 0 1]] [⟨1, true, [[.fn 101 []]]⟩] = some (I r, [⟨1, true, [[.fn 101 []]]⟩]) := by
  rw [run_slices_IndexFunc_Li_Ext_i_Ext]
  unfold slices_IndexFunc_Li_Ext_i_Ext_are_i_Ext_1_ExtOK at h
  simp +decide only [b_slices_IndexFunc_Li_Ext_i_Ext, go_sem, reduceIte, Nat.reduceAdd]
  obtain ⟨e_, h1, h⟩ := bd h
  refine goR_of (slices_IndexFunc_Li_Ext_i_Ext_are_i_Ext_1_ExtOK_1_l h1) ?_
  rcases e_ with e_2 | e_3
  · simp +decide only [go_sem, reduceIte, Nat.reduceAdd]
    obtain rfl := Option.some.inj h
    first | rfl | (simp only [List.length_set, go_sem]; done)
  · simp +decide only [go_sem, reduceIte, Nat.reduceAdd]
    obtain rfl := Option.some.inj h
    first | rfl | (simp only [List.length_set, go_sem]; done)
noncomputable def slices_ContainsFunc_Li_Ext_i_Ext_are_i_Ext_1_ExtOK (s : (List Ext)) : Option (Bool) :=
  (slices_IndexFunc_Li_Ext_i_Ext_are_i_Ext_1_ExtOK s).bind fun r_ =>
  some (decide (r_ ≥ (0 : Int)))
theorem slices_ContainsFunc_Li_Ext_i_Ext_are_i_Ext_1_ExtOK_c {s : (List Ext)} {r : Bool} (h : slices_ContainsFunc_Li_Ext_i_Ext_are_i_Ext_1_ExtOK s = some r) : Call tab ow 144 [sl eExt s, .fn 206 [.ptr 0 0 0 1]] [⟨1, true, [[.fn 101 []]]⟩] = some (B r, [⟨1, true, [[.fn 101 []]]⟩]) := by
  rw [run_slices_ContainsFunc_Li_Ext_i_Ext]
  unfold slices_ContainsFunc_Li_Ext_i_Ext_are_i_Ext_1_ExtOK at h
  simp +decide only [b_slices_ContainsFunc_Li_Ext_i_Ext, go_sem, reduceIte, Nat.reduceAdd]
  obtain ⟨r_, h1, h⟩ := bd h
  refine call_aft (slices_IndexFunc_Li_Ext_i_Ext_are_i_Ext_1_ExtOK_c h1) ?_
  simp +decide only [go_sem, reduceIte, Nat.reduceAdd]
  obtain rfl := Option.some.inj h
  first | rfl | (simp only [List.length_set, go_sem]; done)
noncomputable def i_are_i_Ext_ExtOK (list : (List Ext)) : Option (Bool) :=
  (slices_ContainsFunc_Li_Ext_i_Ext_are_i_Ext_1_ExtOK list).bind fun r_ =>
  some (!r_)
theorem i_are_i_Ext_ExtOK_c {list : (List Ext)} {r : Bool} (h : i_are_i_Ext_ExtOK list = some r) : Call tab ow 100 [.fn 101 [], sl eExt list] [] = some (B r, []) := by
  rw [run_i_are_i_Ext]
  unfold i_are_i_Ext_ExtOK at h
  simp +decide only [b_i_are_i_Ext, go_sem, reduceIte, Nat.reduceAdd]
  obtain ⟨r_, h1, h⟩ := bd h
  refine call_aft (slices_ContainsFunc_Li_Ext_i_Ext_are_i_Ext_1_ExtOK_c h1) ?_
  simp +decide only [go_sem, reduceIte, Nat.reduceAdd]
  obtain rfl := Option.some.inj h
  first | rfl | (simp only [List.length_set, go_sem]; done)
section
theorem i_System_vector_k0 : ∀ k, repR 2003 k [I (0 : Int)] = rws eI (List.replicate k (0 : Int)) := fun _ => repT eI (0 : Int) _ _
attribute [local go_sem] i_System_vector_k0
noncomputable def i_System_vector (s : System) (publics : (List Int)) (privates : (List Int)) : Option ((List Int)) :=
  br (decide (0 ≤ s.Cols)) (
    br (mkOK (shl64 .i64 (1 : Int) s.Cols) (shl64 .i64 (1 : Int) s.Cols) 8) (
      br (decide (0 < (List.replicate ((shl64 .i64 (1 : Int) s.Cols).toNat) (0 : Int)).length)) (
        ((List.replicate ((shl64 .i64 (1 : Int) s.Cols).toNat) (0 : Int))[0]?).bind fun x =>
        br (decide ((1 : Int) ≤ (((List.replicate ((shl64 .i64 (1 : Int) s.Cols).toNat) (0 : Int)).length : Nat) : Int))) (
          br (decide (1 + ((List.replicate ((shl64 .i64 (1 : Int) s.Cols).toNat) (0 : Int)).length - 1) = (List.replicate ((shl64 .i64 (1 : Int) s.Cols).toNat) (0 : Int)).length)) (
            (i_System_half s).bind fun r_ =>
            br (decide (0 ≤ r_) && decide (r_ ≤ (((List.replicate ((shl64 .i64 (1 : Int) s.Cols).toNat) (0 : Int)).length : Nat) : Int))) (
              br (decide (r_.toNat + ((List.replicate ((shl64 .i64 (1 : Int) s.Cols).toNat) (0 : Int)).length - r_.toNat) = (List.replicate ((shl64 .i64 (1 : Int) s.Cols).toNat) (0 : Int)).length)) (
                some (copyL (copyL ((List.replicate ((shl64 .i64 (1 : Int) s.Cols).toNat) (0 : Int)).set 0 (1 : Int)) 1 (min publics.length ((List.replicate ((shl64 .i64 (1 : Int) s.Cols).toNat) (0 : Int)).length - 1)) publics) r_.toNat (min privates.length ((List.replicate ((shl64 .i64 (1 : Int) s.Cols).toNat) (0 : Int)).length - r_.toNat)) privates)) (
                none)) (
              none)) (
            none)) (
          none)) (
        none)) (
      none)) (
    none)
theorem i_System_vector_c {s : System} {publics : (List Int)} {privates : (List Int)} {r : (List Int)} (h : i_System_vector s publics privates = some r) : Call tab ow 104 [.agg [I s.Rows, I s.Cols, I s.Publics, sl eEntry s.A, sl eEntry s.B, sl eEntry s.C], sl eI publics, sl eI privates] [] = some (sl eI r, []) := by
  rw [run_i_System_vector]
  unfold i_System_vector at h
  simp +decide only [b_i_System_vector, go_sem, reduceIte, Nat.reduceAdd]
  obtain ⟨hb, h⟩ := brg h
  refine br_t hb ?_
  obtain ⟨hb, h⟩ := brg h
  refine br_t hb ?_
  obtain ⟨hb, h⟩ := brg h
  refine br_t hb ?_
  obtain ⟨x, h1, h⟩ := bd h
  refine bind_some h1 ?_
  obtain ⟨hb, h⟩ := brg h
  refine br_t hb ?_
  obtain ⟨hb, h⟩ := brg h
  refine br_t hb ?_
  obtain ⟨r_, h1, h⟩ := bd h
  refine call_aft (i_System_half_c h1) ?_
  simp +decide only [go_sem, reduceIte, Nat.reduceAdd]
  obtain ⟨hb, h⟩ := brg h
  refine br_t hb ?_
  obtain ⟨hb, h⟩ := brg h
  refine br_t hb ?_
  obtain rfl := Option.some.inj h
  first | rfl | (simp only [List.length_set, go_sem]; done)
end
section
theorem i_exts_k0 : mkR 2000 [] = rws eExt [] := rfl
attribute [local go_sem] i_exts_k0
theorem i_exts_k1 : mkR 6003 [] = rws eExt [] := rfl
attribute [local go_sem] i_exts_k1
noncomputable def i_exts_1_s (t : List Int) (t2 : Int) : (List Ext) × Int → Option (((List Ext) × Int) ⊕ (((List Ext) × Int × Bool)))
  | (l, t3) =>
    br (decide (t3 < t2)) (
      (atL t t3).bind fun x =>
      br (fits ((l ++ ([(Ext.mk x (0 : Int))] : List Ext)).length) 16) (
        some (.inl ((l ++ ([(Ext.mk x (0 : Int))] : List Ext)), (IntKind.wrap .i64 (t3 + (1 : Int)))))) (
        none)) (
      some (.inr (l, t3, decide (t3 < t2))))
theorem i_exts_1_l {t : List Int} {t2 : Int} {l : List Ext} {t3 : Int} {e : ((List Ext) × Int × Bool)} (h : Loop (i_exts_1_s t t2) (l, t3) = some e) : LoopX tab ow (.close [6003, 6004]) b_i_exts_3 ⟨[(3, .sl 2000 0 l.length), (7, sl eI t), (8, I t2), (9, I t3)], [(2000, ⟨2, false, rws eExt l⟩)]⟩ = some ((.exit 0, ⟨[(3, .sl 2000 0 e.1.length), (7, sl eI t), (8, I t2), (9, I e.2.1), (10, B e.2.2)], [(2000, ⟨2, false, rws eExt e.1⟩)]⟩)) := by
  refine loop_runG (S := (List Ext) × Int) (eS := fun s => ⟨[(3, .sl 2000 0 s.1.length), (7, sl eI t), (8, I t2), (9, I s.2)], [(2000, ⟨2, false, rws eExt s.1⟩)]⟩) (eE := fun e => (.exit 0, ⟨[(3, .sl 2000 0 e.1.length), (7, sl eI t), (8, I t2), (9, I e.2.1), (10, B e.2.2)], [(2000, ⟨2, false, rws eExt e.1⟩)]⟩)) (fun e => ?_) (fun s o h => ?_) h
  · simp [alt]
  · obtain ⟨l, t3⟩ := s
    simp only [i_exts_1_s] at h
    show Rn tab ow _ _ ⟨[(3, .sl 2000 0 l.length), (7, sl eI t), (8, I t2), (9, I t3)], [(2000, ⟨2, false, rws eExt l⟩)]⟩ = _
    simp +decide only [b_i_exts_3, go_sem, reduceIte, Nat.reduceAdd]
    rcases brc h with ⟨hb, h⟩ | ⟨hb, h⟩
    · refine br_t hb ?_
      obtain ⟨x, h1, h⟩ := bd h
      refine bind_some h1 ?_
      obtain ⟨hb, h⟩ := brg h
      refine br_t hb ?_
      obtain rfl := Option.some.inj h
      first | rfl | (simp only [List.length_set, go_sem]; done)
    · refine br_f hb ?_
      obtain rfl := Option.some.inj h
      first | rfl | (simp only [List.length_set, go_sem]; done)
noncomputable def i_exts (list : (List Int)) : Option ((List Ext)) :=
  (Loop (i_exts_1_s list ((list.length : Nat) : Int)) (([] : List Ext), (0 : Int))).bind fun e_ =>
  some e_.1
theorem i_exts_c {list : (List Int)} {r : (List Ext)} (h : i_exts list = some r) : Call tab ow 207 [sl eI list] [] = some (sl eExt r, []) := by
  rw [run_i_exts]
  unfold i_exts at h
  simp +decide only [b_i_exts, go_sem, reduceIte, Nat.reduceAdd]
  obtain ⟨e_, h1, h⟩ := bd h
  refine goR_of (i_exts_1_l h1) ?_
  simp +decide only [go_sem, reduceIte, Nat.reduceAdd]
  obtain rfl := Option.some.inj h
  first | rfl | (simp only [List.length_set, go_sem]; done)
end
noncomputable def i_one : Option (Ext) :=
  some (Ext.mk (1 : Int) (0 : Int))
theorem i_one_c {r : Ext} (h : i_one = some r) : Call tab ow 208 [] [] = some (.agg [I r.A, I r.B], []) := by
  rw [run_i_one]
  unfold i_one at h
  simp +decide only [b_i_one, go_sem, reduceIte, Nat.reduceAdd]
  obtain rfl := Option.some.inj h
  first | rfl | (simp only [List.length_set, go_sem]; done)
noncomputable def i_sub (a : Int) (b : Int) : Option (Int) :=
  some ((IntKind.wrap .i64 ((IntKind.wrap .i64 (a - b)) + (2130706433 : Int))).tmod (2130706433 : Int))
theorem i_sub_c {a : Int} {b : Int} {r : Int} (h : i_sub a b = some r) : Call tab ow 266 [I a, I b] [] = some (I r, []) := by
  rw [run_i_sub]
  unfold i_sub at h
  simp +decide only [b_i_sub, go_sem, reduceIte, Nat.reduceAdd]
  obtain rfl := Option.some.inj h
  first | rfl | (simp only [List.length_set, go_sem]; done)
noncomputable def i_Ext_minus (a : Ext) (b : Ext) : Option (Ext) :=
  (i_sub a.A b.A).bind fun r_ =>
  (i_sub a.B b.B).bind fun r_2 =>
  some (Ext.mk r_ r_2)
theorem i_Ext_minus_c {a : Ext} {b : Ext} {r : Ext} (h : i_Ext_minus a b = some r) : Call tab ow 209 [.agg [I a.A, I a.B], .agg [I b.A, I b.B]] [] = some (.agg [I r.A, I r.B], []) := by
  rw [run_i_Ext_minus]
  unfold i_Ext_minus at h
  simp +decide only [b_i_Ext_minus, go_sem, reduceIte, Nat.reduceAdd]
  obtain ⟨r_, h1, h⟩ := bd h
  refine call_aftD (i_sub_c h1) ?_
  simp +decide only [go_sem, reduceIte, Nat.reduceAdd]
  obtain ⟨r_2, h1, h⟩ := bd h
  refine call_aftD (i_sub_c h1) ?_
  simp +decide only [go_sem, reduceIte, Nat.reduceAdd]
  obtain rfl := Option.some.inj h
  first | rfl | (simp only [List.length_set, go_sem]; done)
noncomputable def i_mul (a : Int) (b : Int) : Option (Int) :=
  some ((IntKind.wrap .i64 (a * b)).tmod (2130706433 : Int))
theorem i_mul_c {a : Int} {b : Int} {r : Int} (h : i_mul a b = some r) : Call tab ow 212 [I a, I b] [] = some (I r, []) := by
  rw [run_i_mul]
  unfold i_mul at h
  simp +decide only [b_i_mul, go_sem, reduceIte, Nat.reduceAdd]
  obtain rfl := Option.some.inj h
  first | rfl | (simp only [List.length_set, go_sem]; done)
noncomputable def i_add (a : Int) (b : Int) : Option (Int) :=
  some ((IntKind.wrap .i64 (a + b)).tmod (2130706433 : Int))
theorem i_add_c {a : Int} {b : Int} {r : Int} (h : i_add a b = some r) : Call tab ow 211 [I a, I b] [] = some (I r, []) := by
  rw [run_i_add]
  unfold i_add at h
  simp +decide only [b_i_add, go_sem, reduceIte, Nat.reduceAdd]
  obtain rfl := Option.some.inj h
  first | rfl | (simp only [List.length_set, go_sem]; done)
noncomputable def i_Ext_times (a : Ext) (b : Ext) : Option (Ext) :=
  (i_mul a.A b.A).bind fun r_ =>
  (i_mul a.B b.B).bind fun r_2 =>
  (i_mul (3 : Int) r_2).bind fun r_3 =>
  (i_add r_ r_3).bind fun r_4 =>
  (i_mul a.A b.B).bind fun r_5 =>
  (i_mul a.B b.A).bind fun r_6 =>
  (i_add r_5 r_6).bind fun r_7 =>
  some (Ext.mk r_4 r_7)
theorem i_Ext_times_c {a : Ext} {b : Ext} {r : Ext} (h : i_Ext_times a b = some r) : Call tab ow 115 [.agg [I a.A, I a.B], .agg [I b.A, I b.B]] [] = some (.agg [I r.A, I r.B], []) := by
  rw [run_i_Ext_times]
  unfold i_Ext_times at h
  simp +decide only [b_i_Ext_times, go_sem, reduceIte, Nat.reduceAdd]
  obtain ⟨r_, h1, h⟩ := bd h
  refine call_aftD (i_mul_c h1) ?_
  simp +decide only [go_sem, reduceIte, Nat.reduceAdd]
  obtain ⟨r_2, h1, h⟩ := bd h
  refine call_aftD (i_mul_c h1) ?_
  simp +decide only [go_sem, reduceIte, Nat.reduceAdd]
  obtain ⟨r_3, h1, h⟩ := bd h
  refine call_aftD (i_mul_c h1) ?_
  simp +decide only [go_sem, reduceIte, Nat.reduceAdd]
  obtain ⟨r_4, h1, h⟩ := bd h
  refine call_aftD (i_add_c h1) ?_
  simp +decide only [go_sem, reduceIte, Nat.reduceAdd]
  obtain ⟨r_5, h1, h⟩ := bd h
  refine call_aftD (i_mul_c h1) ?_
  simp +decide only [go_sem, reduceIte, Nat.reduceAdd]
  obtain ⟨r_6, h1, h⟩ := bd h
  refine call_aftD (i_mul_c h1) ?_
  simp +decide only [go_sem, reduceIte, Nat.reduceAdd]
  obtain ⟨r_7, h1, h⟩ := bd h
  refine call_aftD (i_add_c h1) ?_
  simp +decide only [go_sem, reduceIte, Nat.reduceAdd]
  obtain rfl := Option.some.inj h
  first | rfl | (simp only [List.length_set, go_sem]; done)
section
theorem i_eqTable_k0 : mkR 2001 [] = rws eExt [] := rfl
attribute [local go_sem] i_eqTable_k0
theorem i_eqTable_k1 : mkR 6000 [] = rws eExt [] := rfl
attribute [local go_sem] i_eqTable_k1
theorem i_eqTable_k2 : mkR 6001 [] = rws eExt [] := rfl
attribute [local go_sem] i_eqTable_k2
theorem i_eqTable_k3 : mkR 10006 [] = rws eExt [] := rfl
attribute [local go_sem] i_eqTable_k3
theorem i_eqTable_k4 : mkR 10012 [] = rws eExt [] := rfl
attribute [local go_sem] i_eqTable_k4
noncomputable def i_eqTable_2_s (t4 : List Ext) (t5 : Int) (t6 : Int) (t7 : List Ext) (t8 : Int) (c : Int) (c2 : Int) : (List Ext) × (List Ext) × Int → Option (((List Ext) × (List Ext) × Int) ⊕ (((List Ext) × (List Ext) × Int × Bool)))
  | (l, l2, t9) =>
    br (decide (t9 < t8)) (
      (atL t7 t9).bind fun x2 =>
      (i_one).bind fun r_2 =>
      (i_Ext_minus r_2 (Ext.mk c c2)).bind fun r_3 =>
      (i_Ext_times x2 r_3).bind fun r_4 =>
      br (fits ((l ++ ([r_4] : List Ext)).length) 16) (
        (i_Ext_times x2 (Ext.mk c c2)).bind fun r_5 =>
        br (fits ((l2 ++ ([r_5] : List Ext)).length) 16) (
          some (.inl ((l ++ ([r_4] : List Ext)), (l2 ++ ([r_5] : List Ext)), (IntKind.wrap .i64 (t9 + (1 : Int)))))) (
          none)) (
        none)) (
      some (.inr (l, l2, t9, decide (t9 < t8))))
theorem i_eqTable_2_l {t4 : List Ext} {t5 : Int} {t6 : Int} {t7 : List Ext} {t8 : Int} {c : Int} {c2 : Int} {l : List Ext} {l2 : List Ext} {t9 : Int} {e : ((List Ext) × (List Ext) × Int × Bool)} (h : Loop (i_eqTable_2_s t4 t5 t6 t7 t8 c c2) (l, l2, t9) = some e) : LoopX tab ow (.close [9002, 10002, 10004, 10005, 10006, 10007, 10011, 10012, 10013]) b_i_eqTable_7 ⟨[(5, .ptr 5002 0 0 1), (6, .sl 6000 0 l.length), (7, .sl 6001 0 l2.length), (12, sl eExt t4), (13, I t5), (14, I t6), (20, sl eExt t7), (21, I t8), (22, I t9)], [(5002, ⟨2, true, [[I c, I c2]]⟩), (6000, ⟨2, false, rws eExt l⟩), (6001, ⟨2, false, rws eExt l2⟩)]⟩ = some ((.exit 2, ⟨[(5, .ptr 5002 0 0 1), (6, .sl 6000 0 e.1.length), (7, .sl 6001 0 e.2.1.length), (12, sl eExt t4), (13, I t5), (14, I t6), (20, sl eExt t7), (21, I t8), (22, I e.2.2.1), (23, B e.2.2.2)], [(5002, ⟨2, true, [[I c, I c2]]⟩), (6000, ⟨2, false, rws eExt e.1⟩), (6001, ⟨2, false, rws eExt e.2.1⟩)]⟩)) := by
  refine loop_runG (S := (List Ext) × (List Ext) × Int) (eS := fun s => ⟨[(5, .ptr 5002 0 0 1), (6, .sl 6000 0 s.1.length), (7, .sl 6001 0 s.2.1.length), (12, sl eExt t4), (13, I t5), (14, I t6), (20, sl eExt t7), (21, I t8), (22, I s.2.2)], [(5002, ⟨2, true, [[I c, I c2]]⟩), (6000, ⟨2, false, rws eExt s.1⟩), (6001, ⟨2, false, rws eExt s.2.1⟩)]⟩) (eE := fun e => (.exit 2, ⟨[(5, .ptr 5002 0 0 1), (6, .sl 6000 0 e.1.length), (7, .sl 6001 0 e.2.1.length), (12, sl eExt t4), (13, I t5), (14, I t6), (20, sl eExt t7), (21, I t8), (22, I e.2.2.1), (23, B e.2.2.2)], [(5002, ⟨2, true, [[I c, I c2]]⟩), (6000, ⟨2, false, rws eExt e.1⟩), (6001, ⟨2, false, rws eExt e.2.1⟩)]⟩)) (fun e => ?_) (fun s o h => ?_) h
  · simp [alt]
  · obtain ⟨l, l2, t9⟩ := s
    simp only [i_eqTable_2_s] at h
    show Rn tab ow _ _ ⟨[(5, .ptr 5002 0 0 1), (6, .sl 6000 0 l.length), (7, .sl 6001 0 l2.length), (12, sl eExt t4), (13, I t5), (14, I t6), (20, sl eExt t7), (21, I t8), (22, I t9)], [(5002, ⟨2, true, [[I c, I c2]]⟩), (6000, ⟨2, false, rws eExt l⟩), (6001, ⟨2, false, rws eExt l2⟩)]⟩ = _
    simp +decide only [b_i_eqTable_7, go_sem, reduceIte, Nat.reduceAdd]
    rcases brc h with ⟨hb, h⟩ | ⟨hb, h⟩
    · refine br_t hb ?_
      obtain ⟨x2, h1, h⟩ := bd h
      refine bind_some h1 ?_
      obtain ⟨r_2, h1, h⟩ := bd h
      refine call_aftD (i_one_c h1) ?_
      simp +decide only [go_sem, reduceIte, Nat.reduceAdd]
      obtain ⟨r_3, h1, h⟩ := bd h
      refine call_aftD (i_Ext_minus_c h1) ?_
      simp +decide only [go_sem, reduceIte, Nat.reduceAdd]
      obtain ⟨r_4, h1, h⟩ := bd h
      refine call_aftD (i_Ext_times_c h1) ?_
      simp +decide only [go_sem, reduceIte, Nat.reduceAdd]
      obtain ⟨hb, h⟩ := brg h
      refine br_t hb ?_
      obtain ⟨r_5, h1, h⟩ := bd h
      refine call_aftD (i_Ext_times_c h1) ?_
      simp +decide only [go_sem, reduceIte, Nat.reduceAdd]
      obtain ⟨hb, h⟩ := brg h
      refine br_t hb ?_
      obtain rfl := Option.some.inj h
      first | rfl | (simp only [List.length_set, go_sem]; done)
    · refine br_f hb ?_
      obtain rfl := Option.some.inj h
      first | rfl | (simp only [List.length_set, go_sem]; done)
noncomputable def i_eqTable_1_s (t : List Ext) (t2 : Int) : (List Ext) × Int → Option (((List Ext) × Int) ⊕ (((List Ext) × Int × Bool)))
  | (out, t3) =>
    br (decide (t3 < t2)) (
      (atL t t3).bind fun x =>
      (Loop (i_eqTable_2_s t t2 t3 out ((out.length : Nat) : Int) x.A x.B) (([] : List Ext), ([] : List Ext), (0 : Int))).bind fun e_ =>
      br (fits ((e_.1 ++ e_.2.1).length) 16) (
        some (.inl ((e_.1 ++ e_.2.1), (IntKind.wrap .i64 (t3 + (1 : Int)))))) (
        none)) (
      some (.inr (out, t3, decide (t3 < t2))))
theorem i_eqTable_1_l {t : List Ext} {t2 : Int} {out : List Ext} {t3 : Int} {e : ((List Ext) × Int × Bool)} (h : Loop (i_eqTable_1_s t t2) (out, t3) = some e) : LoopX tab ow (.close [5002, 6000, 6001, 9002, 10002, 10004, 10005, 10006, 10007, 10011, 10012, 10013, 12002, 2001]) b_i_eqTable_3 ⟨[(3, sl eExt out), (12, sl eExt t), (13, I t2), (14, I t3)], []⟩ = some ((.exit 0, ⟨[(3, sl eExt e.1), (12, sl eExt t), (13, I t2), (14, I e.2.1), (15, B e.2.2)], []⟩)) := by
  refine loop_runG (S := (List Ext) × Int) (eS := fun s => ⟨[(3, sl eExt s.1), (12, sl eExt t), (13, I t2), (14, I s.2)], []⟩) (eE := fun e => (.exit 0, ⟨[(3, sl eExt e.1), (12, sl eExt t), (13, I t2), (14, I e.2.1), (15, B e.2.2)], []⟩)) (fun e => ?_) (fun s o h => ?_) h
  · simp [alt]
  · obtain ⟨out, t3⟩ := s
    simp only [i_eqTable_1_s] at h
    show Rn tab ow _ _ ⟨[(3, sl eExt out), (12, sl eExt t), (13, I t2), (14, I t3)], []⟩ = _
    simp +decide only [b_i_eqTable_3, go_sem, reduceIte, Nat.reduceAdd]
    rcases brc h with ⟨hb, h⟩ | ⟨hb, h⟩
    · refine br_t hb ?_
      obtain ⟨x, h1, h⟩ := bd h
      refine bind_some h1 ?_
      obtain ⟨e_, h1, h⟩ := bd h
      refine goR_of (i_eqTable_2_l h1) ?_
      simp +decide only [go_sem, reduceIte, Nat.reduceAdd]
      obtain ⟨hb, h⟩ := brg h
      refine br_t hb ?_
      obtain rfl := Option.some.inj h
      first | rfl | (simp only [List.length_set, go_sem]; done)
    · refine br_f hb ?_
      obtain rfl := Option.some.inj h
      first | rfl | (simp only [List.length_set, go_sem]; done)
noncomputable def i_eqTable (point : (List Ext)) : Option ((List Ext)) :=
  (i_one).bind fun r_ =>
  (Loop (i_eqTable_1_s point ((point.length : Nat) : Int)) (([r_] : List Ext), (0 : Int))).bind fun e_2 =>
  some e_2.1
theorem i_eqTable_c {point : (List Ext)} {r : (List Ext)} (h : i_eqTable point = some r) : Call tab ow 108 [sl eExt point] [] = some (sl eExt r, []) := by
  rw [run_i_eqTable]
  unfold i_eqTable at h
  simp +decide only [b_i_eqTable, go_sem, reduceIte, Nat.reduceAdd]
  obtain ⟨r_, h1, h⟩ := bd h
  refine call_aft (i_one_c h1) ?_
  simp +decide only [go_sem, reduceIte, Nat.reduceAdd]
  obtain ⟨e_2, h1, h⟩ := bd h
  refine goR_of (i_eqTable_1_l h1) ?_
  simp +decide only [go_sem, reduceIte, Nat.reduceAdd]
  obtain rfl := Option.some.inj h
  first | rfl | (simp only [List.length_set, go_sem]; done)
end
noncomputable def i_Ext_plus (a : Ext) (b : Ext) : Option (Ext) :=
  (i_add a.A b.A).bind fun r_ =>
  (i_add a.B b.B).bind fun r_2 =>
  some (Ext.mk r_ r_2)
theorem i_Ext_plus_c {a : Ext} {b : Ext} {r : Ext} (h : i_Ext_plus a b = some r) : Call tab ow 116 [.agg [I a.A, I a.B], .agg [I b.A, I b.B]] [] = some (.agg [I r.A, I r.B], []) := by
  rw [run_i_Ext_plus]
  unfold i_Ext_plus at h
  simp +decide only [b_i_Ext_plus, go_sem, reduceIte, Nat.reduceAdd]
  obtain ⟨r_, h1, h⟩ := bd h
  refine call_aftD (i_add_c h1) ?_
  simp +decide only [go_sem, reduceIte, Nat.reduceAdd]
  obtain ⟨r_2, h1, h⟩ := bd h
  refine call_aftD (i_add_c h1) ?_
  simp +decide only [go_sem, reduceIte, Nat.reduceAdd]
  obtain rfl := Option.some.inj h
  first | rfl | (simp only [List.length_set, go_sem]; done)
noncomputable def i_dot_1_s (b2 : List Ext) (t : List Ext) (t2 : Int) (c : Int) (c2 : Int) : Int × Int × Int → Option ((Int × Int × Int) ⊕ ((Int × Bool × Int × Int)))
  | (t3, c3, c4) =>
    br (decide (t3 < t2)) (
      (atL t t3).bind fun x =>
      (atL b2 t3).bind fun x2 =>
      (i_Ext_times x x2).bind fun r_ =>
      (i_Ext_plus (Ext.mk c3 c4) r_).bind fun r_2 =>
      some (.inl ((IntKind.wrap .i64 (t3 + (1 : Int))), r_2.A, r_2.B))) (
      some (.inr (t3, decide (t3 < t2), c3, c4)))
theorem i_dot_1_l {b2 : List Ext} {t : List Ext} {t2 : Int} {c : Int} {c2 : Int} {t3 : Int} {c3 : Int} {c4 : Int} {e : (Int × Bool × Int × Int)} (h : Loop (i_dot_1_s b2 t t2 c c2) (t3, c3, c4) = some e) : LoopX tab ow (.close [5003, 6006, 6007]) b_i_dot_3 ⟨[(1, sl eExt b2), (4, .ptr 1000 0 0 1), (5, .ptr 2001 0 0 1), (9, sl eExt t), (10, I t2), (11, I t3)], [(1000, ⟨2, true, [[I c, I c2]]⟩), (2001, ⟨2, true, [[I c3, I c4]]⟩)]⟩ = some ((.exit 0, ⟨[(1, sl eExt b2), (4, .ptr 1000 0 0 1), (5, .ptr 2001 0 0 1), (9, sl eExt t), (10, I t2), (11, I e.1), (12, B e.2.1)], [(1000, ⟨2, true, [[I c, I c2]]⟩), (2001, ⟨2, true, [[I e.2.2.1, I e.2.2.2]]⟩)]⟩)) := by
  refine loop_runG (S := Int × Int × Int) (eS := fun s => ⟨[(1, sl eExt b2), (4, .ptr 1000 0 0 1), (5, .ptr 2001 0 0 1), (9, sl eExt t), (10, I t2), (11, I s.1)], [(1000, ⟨2, true, [[I c, I c2]]⟩), (2001, ⟨2, true, [[I s.2.1, I s.2.2]]⟩)]⟩) (eE := fun e => (.exit 0, ⟨[(1, sl eExt b2), (4, .ptr 1000 0 0 1), (5, .ptr 2001 0 0 1), (9, sl eExt t), (10, I t2), (11, I e.1), (12, B e.2.1)], [(1000, ⟨2, true, [[I c, I c2]]⟩), (2001, ⟨2, true, [[I e.2.2.1, I e.2.2.2]]⟩)]⟩)) (fun e => ?_) (fun s o h => ?_) h
  · simp [alt]
  · obtain ⟨t3, c3, c4⟩ := s
    simp only [i_dot_1_s] at h
    show Rn tab ow _ _ ⟨[(1, sl eExt b2), (4, .ptr 1000 0 0 1), (5, .ptr 2001 0 0 1), (9, sl eExt t), (10, I t2), (11, I t3)], [(1000, ⟨2, true, [[I c, I c2]]⟩), (2001, ⟨2, true, [[I c3, I c4]]⟩)]⟩ = _
    simp +decide only [b_i_dot_3, go_sem, reduceIte, Nat.reduceAdd]
    rcases brc h with ⟨hb, h⟩ | ⟨hb, h⟩
    · refine br_t hb ?_
      obtain ⟨x, h1, h⟩ := bd h
      refine bind_some h1 ?_
      obtain ⟨x2, h1, h⟩ := bd h
      refine bind_some h1 ?_
      obtain ⟨r_, h1, h⟩ := bd h
      refine call_aftD (i_Ext_times_c h1) ?_
      simp +decide only [go_sem, reduceIte, Nat.reduceAdd]
      obtain ⟨r_2, h1, h⟩ := bd h
      refine call_aftD (i_Ext_plus_c h1) ?_
      simp +decide only [go_sem, reduceIte, Nat.reduceAdd]
      obtain rfl := Option.some.inj h
      first | rfl | (simp only [List.length_set, go_sem]; done)
    · refine br_f hb ?_
      obtain rfl := Option.some.inj h
      first | rfl | (simp only [List.length_set, go_sem]; done)
noncomputable def i_dot (a : (List Ext)) (b : (List Ext)) : Option (Ext) :=
  (Loop (i_dot_1_s b a ((a.length : Nat) : Int) (0 : Int) (0 : Int)) ((0 : Int), (0 : Int), (0 : Int))).bind fun e_ =>
  some (Ext.mk e_.2.2.1 e_.2.2.2)
theorem i_dot_c {a : (List Ext)} {b : (List Ext)} {r : Ext} (h : i_dot a b = some r) : Call tab ow 107 [sl eExt a, sl eExt b] [] = some (.agg [I r.A, I r.B], []) := by
  rw [run_i_dot]
  unfold i_dot at h
  simp +decide only [b_i_dot, go_sem, reduceIte, Nat.reduceAdd]
  obtain ⟨e_, h1, h⟩ := bd h
  refine goR_of (i_dot_1_l h1) ?_
  simp +decide only [go_sem, reduceIte, Nat.reduceAdd]
  obtain rfl := Option.some.inj h
  first | rfl | (simp only [List.length_set, go_sem]; done)
noncomputable def i_publicAt (s : System) (publics : (List Int)) (point : (List Ext)) : Option (Ext) :=
  (i_System_vector s publics ([] : List Int)).bind fun r_ =>
  (i_System_half s).bind fun r_2 =>
  (subL r_ (0 : Int) r_2).bind fun y =>
  (i_exts y).bind fun r_3 =>
  (i_eqTable point).bind fun r_4 =>
  (i_dot r_3 r_4).bind fun r_5 =>
  some r_5
theorem i_publicAt_c {s : System} {publics : (List Int)} {point : (List Ext)} {r : Ext} (h : i_publicAt s publics point = some r) : Call tab ow 102 [.agg [I s.Rows, I s.Cols, I s.Publics, sl eEntry s.A, sl eEntry s.B, sl eEntry s.C], sl eI publics, sl eExt point] [] = some (.agg [I r.A, I r.B], []) := by
  rw [run_i_publicAt]
  unfold i_publicAt at h
  simp +decide only [b_i_publicAt, go_sem, reduceIte, Nat.reduceAdd]
  obtain ⟨r_, h1, h⟩ := bd h
  refine call_aftD (i_System_vector_c h1) ?_
  simp +decide only [go_sem, reduceIte, Nat.reduceAdd]
  obtain ⟨r_2, h1, h⟩ := bd h
  refine call_aftD (i_System_half_c h1) ?_
  simp +decide only [go_sem, reduceIte, Nat.reduceAdd]
  obtain ⟨y, h1, h⟩ := bd h
  refine bind_some h1 ?_
  obtain ⟨r_3, h1, h⟩ := bd h
  refine call_aftD (i_exts_c h1) ?_
  simp +decide only [go_sem, reduceIte, Nat.reduceAdd]
  obtain ⟨r_4, h1, h⟩ := bd h
  refine call_aftD (i_eqTable_c h1) ?_
  simp +decide only [go_sem, reduceIte, Nat.reduceAdd]
  obtain ⟨r_5, h1, h⟩ := bd h
  refine call_aftD (i_dot_c h1) ?_
  simp +decide only [go_sem, reduceIte, Nat.reduceAdd]
  obtain rfl := Option.some.inj h
  first | rfl | (simp only [List.length_set, go_sem]; done)
end Go.AI.Fn

set_option linter.unusedVariables false
set_option linter.unusedSimpArgs false
set_option maxRecDepth 100000
set_option maxHeartbeats 1000000
namespace Go.AI.Fn
noncomputable def i_PublicAt (s : System) (publics : (List Int)) (point : (List Ext)) : Option (Ext × Int) :=
  br (decide (((publics.length : Nat) : Int) > (4096 : Int))) (
    some ((Ext.mk (0 : Int) (0 : Int)), (2 : Int))) (
    br (decide (((point.length : Nat) : Int) > (4096 : Int))) (
      some ((Ext.mk (0 : Int) (0 : Int)), (2 : Int))) (
      (i_SystemOK s).bind fun r_ =>
      br (!r_) (
        some ((Ext.mk (0 : Int) (0 : Int)), (1 : Int))) (
        (i_are_int_FieldOK publics).bind fun r_2 =>
        br (!r_2) (
          some ((Ext.mk (0 : Int) (0 : Int)), (1 : Int))) (
          (i_are_i_Ext_ExtOK point).bind fun r_3 =>
          br (!r_3) (
            some ((Ext.mk (0 : Int) (0 : Int)), (1 : Int))) (
            br (((publics.length : Nat) : Int) != s.Publics) (
              some ((Ext.mk (0 : Int) (0 : Int)), (8 : Int))) (
              br (((point.length : Nat) : Int) != (IntKind.wrap .i64 (s.Cols - (1 : Int)))) (
                some ((Ext.mk (0 : Int) (0 : Int)), (8 : Int))) (
                (i_publicAt s publics point).bind fun r_4 =>
                some (r_4, (0 : Int)))))))))
theorem i_PublicAt_c {s : System} {publics : (List Int)} {point : (List Ext)} {r : Ext × Int} (h : i_PublicAt s publics point = some r) : Call tab ow 18 [.agg [I s.Rows, I s.Cols, I s.Publics, sl eEntry s.A, sl eEntry s.B, sl eEntry s.C], sl eI publics, sl eExt point] [] = some (.tup [.agg [I r.1.A, I r.1.B], I r.2], []) := by
  rw [run_i_PublicAt]
  unfold i_PublicAt at h
  simp +decide only [b_i_PublicAt, go_sem, reduceIte, Nat.reduceAdd]
  rcases brc h with ⟨hb, h⟩ | ⟨hb, h⟩
  · refine br_t hb ?_
    obtain rfl := Option.some.inj h
    first | rfl | (simp only [List.length_set, go_sem]; done)
  · refine br_f hb ?_
    rcases brc h with ⟨hb, h⟩ | ⟨hb, h⟩
    · refine br_t hb ?_
      obtain rfl := Option.some.inj h
      first | rfl | (simp only [List.length_set, go_sem]; done)
    · refine br_f hb ?_
      obtain ⟨r_, h1, h⟩ := bd h
      refine call_aft (i_SystemOK_c h1) ?_
      simp +decide only [go_sem, reduceIte, Nat.reduceAdd]
      rcases brc h with ⟨hb, h⟩ | ⟨hb, h⟩
      · refine br_t hb ?_
        obtain rfl := Option.some.inj h
        first | rfl | (simp only [List.length_set, go_sem]; done)
      · refine br_f hb ?_
        obtain ⟨r_2, h1, h⟩ := bd h
        refine call_aft (i_are_int_FieldOK_c h1) ?_
        simp +decide only [go_sem, reduceIte, Nat.reduceAdd]
        rcases brc h with ⟨hb, h⟩ | ⟨hb, h⟩
        · refine br_t hb ?_
          obtain rfl := Option.some.inj h
          first | rfl | (simp only [List.length_set, go_sem]; done)
        · refine br_f hb ?_
          obtain ⟨r_3, h1, h⟩ := bd h
          refine call_aft (i_are_i_Ext_ExtOK_c h1) ?_
          simp +decide only [go_sem, reduceIte, Nat.reduceAdd]
          rcases brc h with ⟨hb, h⟩ | ⟨hb, h⟩
          · refine br_t hb ?_
            obtain rfl := Option.some.inj h
            first | rfl | (simp only [List.length_set, go_sem]; done)
          · refine br_f hb ?_
            rcases brc h with ⟨hb, h⟩ | ⟨hb, h⟩
            · refine br_t hb ?_
              obtain rfl := Option.some.inj h
              first | rfl | (simp only [List.length_set, go_sem]; done)
            · refine br_f hb ?_
              rcases brc h with ⟨hb, h⟩ | ⟨hb, h⟩
              · refine br_t hb ?_
                obtain rfl := Option.some.inj h
                first | rfl | (simp only [List.length_set, go_sem]; done)
              · refine br_f hb ?_
                obtain ⟨r_4, h1, h⟩ := bd h
                refine call_aft (i_publicAt_c h1) ?_
                simp +decide only [go_sem, reduceIte, Nat.reduceAdd]
                obtain rfl := Option.some.inj h
                first | rfl | (simp only [List.length_set, go_sem]; done)
noncomputable def s_l01In (n : Int) (low : Int) (high : Int) : Option (Bool) :=
  br (decide (low ≤ n)) (
    some (decide (n ≤ high))) (
    some false)
theorem s_l01In_c {n : Int} {low : Int} {high : Int} {r : Bool} (h : s_l01In n low high = some r) : Call tab ow 140 [I n, I low, I high] [] = some (B r, []) := by
  rw [run_s_l01In]
  unfold s_l01In at h
  simp +decide only [b_s_l01In, go_sem, reduceIte, Nat.reduceAdd]
  rcases brc h with ⟨hb, h⟩ | ⟨hb, h⟩
  · refine br_t hb ?_
    obtain rfl := Option.some.inj h
    first | rfl | (simp only [List.length_set, go_sem]; done)
  · refine br_f hb ?_
    obtain rfl := Option.some.inj h
    first | rfl | (simp only [List.length_set, go_sem]; done)
noncomputable def s_FieldOK (a : Int) : Option (Bool) :=
  (s_l01In a (0 : Int) (2130706432 : Int)).bind fun r_ =>
  some r_
theorem s_FieldOK_c {a : Int} {r : Bool} (h : s_FieldOK a = some r) : Call tab ow 238 [I a] [] = some (B r, []) := by
  rw [run_s_FieldOK]
  unfold s_FieldOK at h
  simp +decide only [b_s_FieldOK, go_sem, reduceIte, Nat.reduceAdd]
  obtain ⟨r_, h1, h⟩ := bd h
  refine call_aft (s_l01In_c h1) ?_
  simp +decide only [go_sem, reduceIte, Nat.reduceAdd]
  obtain rfl := Option.some.inj h
  first | rfl | (simp only [List.length_set, go_sem]; done)
noncomputable def s_ExtOK (a : Ext) : Option (Bool) :=
  (s_FieldOK a.A).bind fun r_ =>
  br r_ (
    (s_FieldOK a.B).bind fun r_2 =>
    some r_2) (
    some false)
theorem s_ExtOK_c {a : Ext} {r : Bool} (h : s_ExtOK a = some r) : Call tab ow 216 [.agg [I a.A, I a.B]] [] = some (B r, []) := by
  rw [run_s_ExtOK]
  unfold s_ExtOK at h
  simp +decide only [b_s_ExtOK, go_sem, reduceIte, Nat.reduceAdd]
  obtain ⟨r_, h1, h⟩ := bd h
  refine call_aft (s_FieldOK_c h1) ?_
  simp +decide only [go_sem, reduceIte, Nat.reduceAdd]
  rcases brc h with ⟨hb, h⟩ | ⟨hb, h⟩
  · refine br_t hb ?_
    obtain ⟨r_2, h1, h⟩ := bd h
    refine call_aft (s_FieldOK_c h1) ?_
    simp +decide only [go_sem, reduceIte, Nat.reduceAdd]
    obtain rfl := Option.some.inj h
    first | rfl | (simp only [List.length_set, go_sem]; done)
  · refine br_f hb ?_
    obtain rfl := Option.some.inj h
    first | rfl | (simp only [List.length_set, go_sem]; done)
noncomputable def s_l02List_1_s (list2 : List Ext) : Int → Option ((Int) ⊕ (Unit ⊕ (Int × Bool)))
  | i =>
    br (decide (i < ((list2.length : Nat) : Int))) (
      (atL list2 i).bind fun x =>
      (s_ExtOK x).bind fun r_ =>
      br (!r_) (
        some (.inr (.inl ()))) (
        some (.inl (IntKind.wrap .i64 (i + (1 : Int)))))) (
      some (.inr (.inr (i, decide (i < ((list2.length : Nat) : Int))))))
theorem s_l02List_1_l {list2 : List Ext} {i : Int} {e : Unit ⊕ (Int × Bool)} (h : Loop (s_l02List_1_s list2) i = some e) : LoopX tab ow (.close [5004]) b_s_l02List_2 ⟨[(0, sl eExt list2), (3, I i)], []⟩ = some ((alt (fun e => ((.ret, ⟨[(2, B false)], []⟩) : AExit × St)) (fun e => (.exit 0, ⟨[(0, sl eExt list2), (3, I e.1), (7, B e.2)], []⟩))) e) := by
  refine loop_runG (S := Int) (eS := fun s => ⟨[(0, sl eExt list2), (3, I s)], []⟩) (eE := fun e => (alt (fun e => ((.ret, ⟨[(2, B false)], []⟩) : AExit × St)) (fun e => (.exit 0, ⟨[(0, sl eExt list2), (3, I e.1), (7, B e.2)], []⟩))) e) (fun e => ?_) (fun i o h => ?_) h
  · rcases e with e | e <;> simp [alt]
  · skip
    simp only [s_l02List_1_s] at h
    show Rn tab ow _ _ ⟨[(0, sl eExt list2), (3, I i)], []⟩ = _
    simp +decide only [b_s_l02List_2, go_sem, reduceIte, Nat.reduceAdd]
    rcases brc h with ⟨hb, h⟩ | ⟨hb, h⟩
    · refine br_t hb ?_
      obtain ⟨x, h1, h⟩ := bd h
      refine bind_some h1 ?_
      obtain ⟨r_, h1, h⟩ := bd h
      refine call_aft (s_ExtOK_c h1) ?_
      simp +decide only [go_sem, reduceIte, Nat.reduceAdd]
      rcases brc h with ⟨hb, h⟩ | ⟨hb, h⟩
      · refine br_t hb ?_
        obtain rfl := Option.some.inj h
        first | rfl | (simp only [List.length_set, go_sem]; done)
      · refine br_f hb ?_
        obtain rfl := Option.some.inj h
        first | rfl | (simp only [List.length_set, go_sem]; done)
    · refine br_f hb ?_
      obtain rfl := Option.some.inj h
      first | rfl | (simp only [List.length_set, go_sem]; done)
noncomputable def s_l02List (list : (List Ext)) : Option (Bool) :=
  (Loop (s_l02List_1_s list) (0 : Int)).bind (alt (fun e_2 =>
    some false) (fun e_3 =>
    some true))
theorem s_l02List_c {list : (List Ext)} {r : Bool} (h : s_l02List list = some r) : Call tab ow 120 [sl eExt list] [] = some (B r, []) := by
  rw [run_s_l02List]
  unfold s_l02List at h
  simp +decide only [b_s_l02List, go_sem, reduceIte, Nat.reduceAdd]
  obtain ⟨e_, h1, h⟩ := bd h
  refine goR_of (s_l02List_1_l h1) ?_
  rcases e_ with e_2 | e_3
  · simp +decide only [go_sem, reduceIte, Nat.reduceAdd]
    obtain rfl := Option.some.inj h
    first | rfl | (simp only [List.length_set, go_sem]; done)
  · simp +decide only [go_sem, reduceIte, Nat.reduceAdd]
    obtain rfl := Option.some.inj h
    first | rfl | (simp only [List.length_set, go_sem]; done)
noncomputable def s_l01Mul (a : Int) (b : Int) : Option (Int) :=
  some ((IntKind.wrap .i64 (a * b)).tmod (2130706433 : Int))
theorem s_l01Mul_c {a : Int} {b : Int} {r : Int} (h : s_l01Mul a b = some r) : Call tab ow 220 [I a, I b] [] = some (I r, []) := by
  rw [run_s_l01Mul]
  unfold s_l01Mul at h
  simp +decide only [b_s_l01Mul, go_sem, reduceIte, Nat.reduceAdd]
  obtain rfl := Option.some.inj h
  first | rfl | (simp only [List.length_set, go_sem]; done)
noncomputable def s_l01Add (a : Int) (b : Int) : Option (Int) :=
  some ((IntKind.wrap .i64 (a + b)).tmod (2130706433 : Int))
theorem s_l01Add_c {a : Int} {b : Int} {r : Int} (h : s_l01Add a b = some r) : Call tab ow 219 [I a, I b] [] = some (I r, []) := by
  rw [run_s_l01Add]
  unfold s_l01Add at h
  simp +decide only [b_s_l01Add, go_sem, reduceIte, Nat.reduceAdd]
  obtain rfl := Option.some.inj h
  first | rfl | (simp only [List.length_set, go_sem]; done)
noncomputable def s_l02Mul (a : Ext) (b : Ext) : Option (Ext) :=
  (s_l01Mul a.A b.A).bind fun r_ =>
  (s_l01Mul a.B b.B).bind fun r_2 =>
  (s_l01Add r_ ((IntKind.wrap .i64 ((3 : Int) * r_2)).tmod (2130706433 : Int))).bind fun r_3 =>
  (s_l01Mul a.A b.B).bind fun r_4 =>
  (s_l01Mul a.B b.A).bind fun r_5 =>
  (s_l01Add r_4 r_5).bind fun r_6 =>
  some (Ext.mk r_3 r_6)
theorem s_l02Mul_c {a : Ext} {b : Ext} {r : Ext} (h : s_l02Mul a b = some r) : Call tab ow 125 [.agg [I a.A, I a.B], .agg [I b.A, I b.B]] [] = some (.agg [I r.A, I r.B], []) := by
  rw [run_s_l02Mul]
  unfold s_l02Mul at h
  simp +decide only [b_s_l02Mul, go_sem, reduceIte, Nat.reduceAdd]
  obtain ⟨r_, h1, h⟩ := bd h
  refine call_aftD (s_l01Mul_c h1) ?_
  simp +decide only [go_sem, reduceIte, Nat.reduceAdd]
  obtain ⟨r_2, h1, h⟩ := bd h
  refine call_aftD (s_l01Mul_c h1) ?_
  simp +decide only [go_sem, reduceIte, Nat.reduceAdd]
  obtain ⟨r_3, h1, h⟩ := bd h
  refine call_aftD (s_l01Add_c h1) ?_
  simp +decide only [go_sem, reduceIte, Nat.reduceAdd]
  obtain ⟨r_4, h1, h⟩ := bd h
  refine call_aftD (s_l01Mul_c h1) ?_
  simp +decide only [go_sem, reduceIte, Nat.reduceAdd]
  obtain ⟨r_5, h1, h⟩ := bd h
  refine call_aftD (s_l01Mul_c h1) ?_
  simp +decide only [go_sem, reduceIte, Nat.reduceAdd]
  obtain ⟨r_6, h1, h⟩ := bd h
  refine call_aftD (s_l01Add_c h1) ?_
  simp +decide only [go_sem, reduceIte, Nat.reduceAdd]
  obtain rfl := Option.some.inj h
  first | rfl | (simp only [List.length_set, go_sem]; done)
noncomputable def s_l02Add (a : Ext) (b : Ext) : Option (Ext) :=
  (s_l01Add a.A b.A).bind fun r_ =>
  (s_l01Add a.B b.B).bind fun r_2 =>
  some (Ext.mk r_ r_2)
theorem s_l02Add_c {a : Ext} {b : Ext} {r : Ext} (h : s_l02Add a b = some r) : Call tab ow 124 [.agg [I a.A, I a.B], .agg [I b.A, I b.B]] [] = some (.agg [I r.A, I r.B], []) := by
  rw [run_s_l02Add]
  unfold s_l02Add at h
  simp +decide only [b_s_l02Add, go_sem, reduceIte, Nat.reduceAdd]
  obtain ⟨r_, h1, h⟩ := bd h
  refine call_aftD (s_l01Add_c h1) ?_
  simp +decide only [go_sem, reduceIte, Nat.reduceAdd]
  obtain ⟨r_2, h1, h⟩ := bd h
  refine call_aftD (s_l01Add_c h1) ?_
  simp +decide only [go_sem, reduceIte, Nat.reduceAdd]
  obtain rfl := Option.some.inj h
  first | rfl | (simp only [List.length_set, go_sem]; done)
noncomputable def s_l02Of (n : Int) : Option (Ext) :=
  some (Ext.mk n (0 : Int))
theorem s_l02Of_c {n : Int} {r : Ext} (h : s_l02Of n = some r) : Call tab ow 224 [I n] [] = some (.agg [I r.A, I r.B], []) := by
  rw [run_s_l02Of]
  unfold s_l02Of at h
  simp +decide only [b_s_l02Of, go_sem, reduceIte, Nat.reduceAdd]
  obtain rfl := Option.some.inj h
  first | rfl | (simp only [List.length_set, go_sem]; done)
noncomputable def s_l01Sub (a : Int) (b : Int) : Option (Int) :=
  some ((IntKind.wrap .i64 ((IntKind.wrap .i64 (a + (2130706433 : Int))) - b)).tmod (2130706433 : Int))
theorem s_l01Sub_c {a : Int} {b : Int} {r : Int} (h : s_l01Sub a b = some r) : Call tab ow 269 [I a, I b] [] = some (I r, []) := by
  rw [run_s_l01Sub]
  unfold s_l01Sub at h
  simp +decide only [b_s_l01Sub, go_sem, reduceIte, Nat.reduceAdd]
  obtain rfl := Option.some.inj h
  first | rfl | (simp only [List.length_set, go_sem]; done)
noncomputable def s_l02Sub (a : Ext) (b : Ext) : Option (Ext) :=
  (s_l01Sub a.A b.A).bind fun r_ =>
  (s_l01Sub a.B b.B).bind fun r_2 =>
  some (Ext.mk r_ r_2)
theorem s_l02Sub_c {a : Ext} {b : Ext} {r : Ext} (h : s_l02Sub a b = some r) : Call tab ow 225 [.agg [I a.A, I a.B], .agg [I b.A, I b.B]] [] = some (.agg [I r.A, I r.B], []) := by
  rw [run_s_l02Sub]
  unfold s_l02Sub at h
  simp +decide only [b_s_l02Sub, go_sem, reduceIte, Nat.reduceAdd]
  obtain ⟨r_, h1, h⟩ := bd h
  refine call_aftD (s_l01Sub_c h1) ?_
  simp +decide only [go_sem, reduceIte, Nat.reduceAdd]
  obtain ⟨r_2, h1, h⟩ := bd h
  refine call_aftD (s_l01Sub_c h1) ?_
  simp +decide only [go_sem, reduceIte, Nat.reduceAdd]
  obtain rfl := Option.some.inj h
  first | rfl | (simp only [List.length_set, go_sem]; done)
noncomputable def w_szEntryS (a : (List Entry)) (left : Int) : Option (Int) :=
  br (decide ((IntKind.wrap .i64 (left - ((a.length : Nat) : Int))) < (0 : Int))) (
    some (-1 : Int)) (
    some (IntKind.wrap .i64 (left - ((a.length : Nat) : Int))))
theorem w_szEntryS_c {a : (List Entry)} {left : Int} {r : Int} (h : w_szEntryS a left = some r) : Call tab ow 146 [sl eEntry a, I left] [] = some (I r, []) := by
  rw [run_w_szEntryS]
  unfold w_szEntryS at h
  simp +decide only [b_w_szEntryS, go_sem, reduceIte, Nat.reduceAdd]
  rcases brc h with ⟨hb, h⟩ | ⟨hb, h⟩
  · refine br_t hb ?_
    obtain rfl := Option.some.inj h
    first | rfl | (simp only [List.length_set, go_sem]; done)
  · refine br_f hb ?_
    obtain rfl := Option.some.inj h
    first | rfl | (simp only [List.length_set, go_sem]; done)
noncomputable def w_szSystem (a : System) (left : Int) : Option (Int) :=
  (w_szEntryS a.A left).bind fun r_ =>
  br (decide (r_ < (0 : Int))) (
    some (-1 : Int)) (
    (w_szEntryS a.B r_).bind fun r_2 =>
    br (decide (r_2 < (0 : Int))) (
      some (-1 : Int)) (
      (w_szEntryS a.C r_2).bind fun r_3 =>
      br (decide (r_3 < (0 : Int))) (
        some (-1 : Int)) (
        some r_3)))
theorem w_szSystem_c {a : System} {left : Int} {r : Int} (h : w_szSystem a left = some r) : Call tab ow 48 [.agg [I a.Rows, I a.Cols, I a.Publics, sl eEntry a.A, sl eEntry a.B, sl eEntry a.C], I left] [] = some (I r, []) := by
  rw [run_w_szSystem]
  unfold w_szSystem at h
  simp +decide only [b_w_szSystem, go_sem, reduceIte, Nat.reduceAdd]
  obtain ⟨r_, h1, h⟩ := bd h
  refine call_aft (w_szEntryS_c h1) ?_
  simp +decide only [go_sem, reduceIte, Nat.reduceAdd]
  rcases brc h with ⟨hb, h⟩ | ⟨hb, h⟩
  · refine br_t hb ?_
    obtain rfl := Option.some.inj h
    first | rfl | (simp only [List.length_set, go_sem]; done)
  · refine br_f hb ?_
    obtain ⟨r_2, h1, h⟩ := bd h
    refine call_aft (w_szEntryS_c h1) ?_
    simp +decide only [go_sem, reduceIte, Nat.reduceAdd]
    rcases brc h with ⟨hb, h⟩ | ⟨hb, h⟩
    · refine br_t hb ?_
      obtain rfl := Option.some.inj h
      first | rfl | (simp only [List.length_set, go_sem]; done)
    · refine br_f hb ?_
      obtain ⟨r_3, h1, h⟩ := bd h
      refine call_aft (w_szEntryS_c h1) ?_
      simp +decide only [go_sem, reduceIte, Nat.reduceAdd]
      rcases brc h with ⟨hb, h⟩ | ⟨hb, h⟩
      · refine br_t hb ?_
        obtain rfl := Option.some.inj h
        first | rfl | (simp only [List.length_set, go_sem]; done)
      · refine br_f hb ?_
        obtain rfl := Option.some.inj h
        first | rfl | (simp only [List.length_set, go_sem]; done)
noncomputable def w_szExtS (a : (List Ext)) (left : Int) : Option (Int) :=
  br (decide ((IntKind.wrap .i64 (left - ((a.length : Nat) : Int))) < (0 : Int))) (
    some (-1 : Int)) (
    some (IntKind.wrap .i64 (left - ((a.length : Nat) : Int))))
theorem w_szExtS_c {a : (List Ext)} {left : Int} {r : Int} (h : w_szExtS a left = some r) : Call tab ow 49 [sl eExt a, I left] [] = some (I r, []) := by
  rw [run_w_szExtS]
  unfold w_szExtS at h
  simp +decide only [b_w_szExtS, go_sem, reduceIte, Nat.reduceAdd]
  rcases brc h with ⟨hb, h⟩ | ⟨hb, h⟩
  · refine br_t hb ?_
    obtain rfl := Option.some.inj h
    first | rfl | (simp only [List.length_set, go_sem]; done)
  · refine br_f hb ?_
    obtain rfl := Option.some.inj h
    first | rfl | (simp only [List.length_set, go_sem]; done)
noncomputable def w_toEntry (a : Entry) : Option (Entry) :=
  some a
theorem w_toEntry_c {a : Entry} {r : Entry} (h : w_toEntry a = some r) : Call tab ow 236 [.agg [I a.Row, I a.Col, I a.Value]] [] = some (.agg [I r.Row, I r.Col, I r.Value], []) := by
  rw [run_w_toEntry]
  unfold w_toEntry at h
  simp +decide only [b_w_toEntry, go_sem, reduceIte, Nat.reduceAdd]
  obtain rfl := Option.some.inj h
  first | rfl | (simp only [List.length_set, go_sem]; done)
section
theorem w_toEntryS_k0 : ∀ k, repR 2002 k [I (0 : Int), I (0 : Int), I (0 : Int)] = rws eEntry (List.replicate k (Entry.mk (0 : Int) (0 : Int) (0 : Int))) := fun _ => repT eEntry (Entry.mk (0 : Int) (0 : Int) (0 : Int)) _ _
attribute [local go_sem] w_toEntryS_k0
noncomputable def w_toEntryS_1_s (a2 : List Entry) : (List Entry) × Int → Option (((List Entry) × Int) ⊕ (((List Entry) × Int × Bool)))
  | (l, i) =>
    br (decide (i < ((a2.length : Nat) : Int))) (
      (atL a2 i).bind fun x =>
      (w_toEntry x).bind fun r_ =>
      br (decide (0 ≤ i)) (
        br (decide (i.toNat < l.length)) (
          (l[i.toNat]?).bind fun x2 =>
          some (.inl ((l.set i.toNat r_), (IntKind.wrap .i64 (i + (1 : Int)))))) (
          none)) (
        none)) (
      some (.inr (l, i, decide (i < ((a2.length : Nat) : Int)))))
theorem w_toEntryS_1_l {a2 : List Entry} {l : List Entry} {i : Int} {e : ((List Entry) × Int × Bool)} (h : Loop (w_toEntryS_1_s a2) (l, i) = some e) : LoopX tab ow (.close [6006]) b_w_toEntryS_3 ⟨[(0, sl eEntry a2), (3, .sl 2002 0 l.length), (4, I i)], [(2002, ⟨3, false, rws eEntry l⟩)]⟩ = some ((.exit 0, ⟨[(0, sl eEntry a2), (3, .sl 2002 0 e.1.length), (4, I e.2.1), (11, B e.2.2)], [(2002, ⟨3, false, rws eEntry e.1⟩)]⟩)) := by
  refine loop_runG (S := (List Entry) × Int) (eS := fun s => ⟨[(0, sl eEntry a2), (3, .sl 2002 0 s.1.length), (4, I s.2)], [(2002, ⟨3, false, rws eEntry s.1⟩)]⟩) (eE := fun e => (.exit 0, ⟨[(0, sl eEntry a2), (3, .sl 2002 0 e.1.length), (4, I e.2.1), (11, B e.2.2)], [(2002, ⟨3, false, rws eEntry e.1⟩)]⟩)) (fun e => ?_) (fun s o h => ?_) h
  · simp [alt]
  · obtain ⟨l, i⟩ := s
    simp only [w_toEntryS_1_s] at h
    show Rn tab ow _ _ ⟨[(0, sl eEntry a2), (3, .sl 2002 0 l.length), (4, I i)], [(2002, ⟨3, false, rws eEntry l⟩)]⟩ = _
    simp +decide only [b_w_toEntryS_3, go_sem, reduceIte, Nat.reduceAdd]
    rcases brc h with ⟨hb, h⟩ | ⟨hb, h⟩
    · refine br_t hb ?_
      obtain ⟨x, h1, h⟩ := bd h
      refine bind_some h1 ?_
      obtain ⟨r_, h1, h⟩ := bd h
      refine call_aft (w_toEntry_c h1) ?_
      simp +decide only [go_sem, reduceIte, Nat.reduceAdd]
      obtain ⟨hb, h⟩ := brg h
      refine br_t hb ?_
      obtain ⟨hb, h⟩ := brg h
      refine br_t hb ?_
      obtain ⟨x2, h1, h⟩ := bd h
      refine bind_some h1 ?_
      obtain rfl := Option.some.inj h
      first | rfl | (simp only [List.length_set, go_sem]; done)
    · refine br_f hb ?_
      obtain rfl := Option.some.inj h
      first | rfl | (simp only [List.length_set, go_sem]; done)
noncomputable def w_toEntryS (a : (List Entry)) : Option ((List Entry)) :=
  br (mkOK ((a.length : Nat) : Int) ((a.length : Nat) : Int) 24) (
    (Loop (w_toEntryS_1_s a) ((List.replicate (((a.length : Nat) : Int).toNat) (Entry.mk (0 : Int) (0 : Int) (0 : Int))), (0 : Int))).bind fun e_ =>
    some e_.1) (
    none)
theorem w_toEntryS_c {a : (List Entry)} {r : (List Entry)} (h : w_toEntryS a = some r) : Call tab ow 149 [sl eEntry a] [] = some (sl eEntry r, []) := by
  rw [run_w_toEntryS]
  unfold w_toEntryS at h
  simp +decide only [b_w_toEntryS, go_sem, reduceIte, Nat.reduceAdd]
  obtain ⟨hb, h⟩ := brg h
  refine br_t hb ?_
  obtain ⟨e_, h1, h⟩ := bd h
  refine goR_of (w_toEntryS_1_l h1) ?_
  simp +decide only [go_sem, reduceIte, Nat.reduceAdd]
  obtain rfl := Option.some.inj h
  first | rfl | (simp only [List.length_set, go_sem]; done)
end
noncomputable def w_toSystem (a : System) : Option (System) :=
  (w_toEntryS a.A).bind fun r_ =>
  (w_toEntryS a.B).bind fun r_2 =>
  (w_toEntryS a.C).bind fun r_3 =>
  some (System.mk a.Rows a.Cols a.Publics r_ r_2 r_3)
theorem w_toSystem_c {a : System} {r : System} (h : w_toSystem a = some r) : Call tab ow 51 [.agg [I a.Rows, I a.Cols, I a.Publics, sl eEntry a.A, sl eEntry a.B, sl eEntry a.C]] [] = some (.agg [I r.Rows, I r.Cols, I r.Publics, sl eEntry r.A, sl eEntry r.B, sl eEntry r.C], []) := by
  rw [run_w_toSystem]
  unfold w_toSystem at h
  simp +decide only [b_w_toSystem, go_sem, reduceIte, Nat.reduceAdd]
  obtain ⟨r_, h1, h⟩ := bd h
  refine call_aft (w_toEntryS_c h1) ?_
  simp +decide only [go_sem, reduceIte, Nat.reduceAdd]
  obtain ⟨r_2, h1, h⟩ := bd h
  refine call_aft (w_toEntryS_c h1) ?_
  simp +decide only [go_sem, reduceIte, Nat.reduceAdd]
  obtain ⟨r_3, h1, h⟩ := bd h
  refine call_aft (w_toEntryS_c h1) ?_
  simp +decide only [go_sem, reduceIte, Nat.reduceAdd]
  obtain rfl := Option.some.inj h
  first | rfl | (simp only [List.length_set, go_sem]; done)
noncomputable def w_toExt (a : Ext) : Option (Ext) :=
  some a
theorem w_toExt_c {a : Ext} {r : Ext} (h : w_toExt a = some r) : Call tab ow 53 [.agg [I a.A, I a.B]] [] = some (.agg [I r.A, I r.B], []) := by
  rw [run_w_toExt]
  unfold w_toExt at h
  simp +decide only [b_w_toExt, go_sem, reduceIte, Nat.reduceAdd]
  obtain rfl := Option.some.inj h
  first | rfl | (simp only [List.length_set, go_sem]; done)
section
theorem w_toExtS_k0 : ∀ k, repR 2002 k [I (0 : Int), I (0 : Int)] = rws eExt (List.replicate k (Ext.mk (0 : Int) (0 : Int))) := fun _ => repT eExt (Ext.mk (0 : Int) (0 : Int)) _ _
attribute [local go_sem] w_toExtS_k0
noncomputable def w_toExtS_1_s (a2 : List Ext) : (List Ext) × Int → Option (((List Ext) × Int) ⊕ (((List Ext) × Int × Bool)))
  | (l, i) =>
    br (decide (i < ((a2.length : Nat) : Int))) (
      (atL a2 i).bind fun x =>
      (w_toExt x).bind fun r_ =>
      br (decide (0 ≤ i)) (
        br (decide (i.toNat < l.length)) (
          (l[i.toNat]?).bind fun x2 =>
          some (.inl ((l.set i.toNat r_), (IntKind.wrap .i64 (i + (1 : Int)))))) (
          none)) (
        none)) (
      some (.inr (l, i, decide (i < ((a2.length : Nat) : Int)))))
theorem w_toExtS_1_l {a2 : List Ext} {l : List Ext} {i : Int} {e : ((List Ext) × Int × Bool)} (h : Loop (w_toExtS_1_s a2) (l, i) = some e) : LoopX tab ow (.close [6006]) b_w_toExtS_3 ⟨[(0, sl eExt a2), (3, .sl 2002 0 l.length), (4, I i)], [(2002, ⟨2, false, rws eExt l⟩)]⟩ = some ((.exit 0, ⟨[(0, sl eExt a2), (3, .sl 2002 0 e.1.length), (4, I e.2.1), (11, B e.2.2)], [(2002, ⟨2, false, rws eExt e.1⟩)]⟩)) := by
  refine loop_runG (S := (List Ext) × Int) (eS := fun s => ⟨[(0, sl eExt a2), (3, .sl 2002 0 s.1.length), (4, I s.2)], [(2002, ⟨2, false, rws eExt s.1⟩)]⟩) (eE := fun e => (.exit 0, ⟨[(0, sl eExt a2), (3, .sl 2002 0 e.1.length), (4, I e.2.1), (11, B e.2.2)], [(2002, ⟨2, false, rws eExt e.1⟩)]⟩)) (fun e => ?_) (fun s o h => ?_) h
  · simp [alt]
  · obtain ⟨l, i⟩ := s
    simp only [w_toExtS_1_s] at h
    show Rn tab ow _ _ ⟨[(0, sl eExt a2), (3, .sl 2002 0 l.length), (4, I i)], [(2002, ⟨2, false, rws eExt l⟩)]⟩ = _
    simp +decide only [b_w_toExtS_3, go_sem, reduceIte, Nat.reduceAdd]
    rcases brc h with ⟨hb, h⟩ | ⟨hb, h⟩
    · refine br_t hb ?_
      obtain ⟨x, h1, h⟩ := bd h
      refine bind_some h1 ?_
      obtain ⟨r_, h1, h⟩ := bd h
      refine call_aft (w_toExt_c h1) ?_
      simp +decide only [go_sem, reduceIte, Nat.reduceAdd]
      obtain ⟨hb, h⟩ := brg h
      refine br_t hb ?_
      obtain ⟨hb, h⟩ := brg h
      refine br_t hb ?_
      obtain ⟨x2, h1, h⟩ := bd h
      refine bind_some h1 ?_
      obtain rfl := Option.some.inj h
      first | rfl | (simp only [List.length_set, go_sem]; done)
    · refine br_f hb ?_
      obtain rfl := Option.some.inj h
      first | rfl | (simp only [List.length_set, go_sem]; done)
noncomputable def w_toExtS (a : (List Ext)) : Option ((List Ext)) :=
  br (mkOK ((a.length : Nat) : Int) ((a.length : Nat) : Int) 16) (
    (Loop (w_toExtS_1_s a) ((List.replicate (((a.length : Nat) : Int).toNat) (Ext.mk (0 : Int) (0 : Int))), (0 : Int))).bind fun e_ =>
    some e_.1) (
    none)
theorem w_toExtS_c {a : (List Ext)} {r : (List Ext)} (h : w_toExtS a = some r) : Call tab ow 52 [sl eExt a] [] = some (sl eExt r, []) := by
  rw [run_w_toExtS]
  unfold w_toExtS at h
  simp +decide only [b_w_toExtS, go_sem, reduceIte, Nat.reduceAdd]
  obtain ⟨hb, h⟩ := brg h
  refine br_t hb ?_
  obtain ⟨e_, h1, h⟩ := bd h
  refine goR_of (w_toExtS_1_l h1) ?_
  simp +decide only [go_sem, reduceIte, Nat.reduceAdd]
  obtain rfl := Option.some.inj h
  first | rfl | (simp only [List.length_set, go_sem]; done)
end
noncomputable def s_l10List_1_s (ListtoArray2 : List Entry) (t : Int) (t2 : Int) : Int → Option ((Int) ⊕ ((Int × Int × Int) ⊕ (Int × Bool)))
  | t3 =>
    br (decide (t3 < ((ListtoArray2.length : Nat) : Int))) (
      (atL ListtoArray2 t3).bind fun x =>
      br (decide (0 ≤ (IntKind.wrap .u64 t))) (
        (s_l01In x.Row (0 : Int) (IntKind.wrap .i64 ((shl64 .i64 (1 : Int) (IntKind.wrap .u64 t)) - (1 : Int)))).bind fun r_ =>
        br (!r_) (
          some (.inr (.inl (x.Row, x.Col, x.Value)))) (
          br (decide (0 ≤ (IntKind.wrap .u64 t2))) (
            (s_l01In x.Col (0 : Int) (IntKind.wrap .i64 ((shl64 .i64 (1 : Int) (IntKind.wrap .u64 t2)) - (1 : Int)))).bind fun r_2 =>
            br (!r_2) (
              some (.inr (.inl (x.Row, x.Col, x.Value)))) (
              (s_l01In x.Value (1 : Int) (2130706432 : Int)).bind fun r_3 =>
              br (!r_3) (
                some (.inr (.inl (x.Row, x.Col, x.Value)))) (
                br (decide (t3 > (0 : Int))) (
                  (atL ListtoArray2 (IntKind.wrap .i64 (t3 - (1 : Int)))).bind fun x2 =>
                  br (decide (x2.Row > x.Row)) (
                    some (.inr (.inl (x.Row, x.Col, x.Value)))) (
                    (atL ListtoArray2 (IntKind.wrap .i64 (t3 - (1 : Int)))).bind fun x3 =>
                    br (x3.Row == x.Row) (
                      (atL ListtoArray2 (IntKind.wrap .i64 (t3 - (1 : Int)))).bind fun x4 =>
                      br (decide (x4.Col ≥ x.Col)) (
                        some (.inr (.inl (x.Row, x.Col, x.Value)))) (
                        some (.inl (IntKind.wrap .i64 (t3 + (1 : Int)))))) (
                      some (.inl (IntKind.wrap .i64 (t3 + (1 : Int))))))) (
                  some (.inl (IntKind.wrap .i64 (t3 + (1 : Int)))))))) (
            none))) (
        none)) (
      some (.inr (.inr (t3, decide (t3 < ((ListtoArray2.length : Nat) : Int))))))
theorem s_l10List_1_l {ListtoArray2 : List Entry} {t : Int} {t2 : Int} {t3 : Int} {e : (Int × Int × Int) ⊕ (Int × Bool)} (h : Loop (s_l10List_1_s ListtoArray2 t t2) t3 = some e) : LoopX tab ow (.close [7004, 8006, 8015, 8021]) b_s_l10List_4 ⟨[(0, sl eEntry ListtoArray2), (1, I t), (2, I t2), (7, I t3)], []⟩ = some ((alt (fun e => ((.ret, ⟨[(6, B false)], [(7004, ⟨3, true, [[I e.1, I e.2.1, I e.2.2]]⟩)]⟩) : AExit × St)) (fun e => (.exit 0, ⟨[(0, sl eEntry ListtoArray2), (1, I t), (2, I t2), (7, I e.1), (15, B e.2)], []⟩))) e) := by
  refine loop_runG (S := Int) (eS := fun s => ⟨[(0, sl eEntry ListtoArray2), (1, I t), (2, I t2), (7, I s)], []⟩) (eE := fun e => (alt (fun e => ((.ret, ⟨[(6, B false)], [(7004, ⟨3, true, [[I e.1, I e.2.1, I e.2.2]]⟩)]⟩) : AExit × St)) (fun e => (.exit 0, ⟨[(0, sl eEntry ListtoArray2), (1, I t), (2, I t2), (7, I e.1), (15, B e.2)], []⟩))) e) (fun e => ?_) (fun t3 o h => ?_) h
  · rcases e with e | e <;> simp [alt]
  · skip
    simp only [s_l10List_1_s] at h
    show Rn tab ow _ _ ⟨[(0, sl eEntry ListtoArray2), (1, I t), (2, I t2), (7, I t3)], []⟩ = _
    simp +decide only [b_s_l10List_4, go_sem, reduceIte, Nat.reduceAdd]
    rcases brc h with ⟨hb, h⟩ | ⟨hb, h⟩
    · refine br_t hb ?_
      obtain ⟨x, h1, h⟩ := bd h
      refine bind_some h1 ?_
      obtain ⟨hb, h⟩ := brg h
      refine br_t hb ?_
      obtain ⟨r_, h1, h⟩ := bd h
      refine call_aft (s_l01In_c h1) ?_
      simp +decide only [go_sem, reduceIte, Nat.reduceAdd]
      rcases brc h with ⟨hb, h⟩ | ⟨hb, h⟩
      · refine br_t hb ?_
        obtain rfl := Option.some.inj h
        first | rfl | (simp only [List.length_set, go_sem]; done)
      · refine br_f hb ?_
        obtain ⟨hb, h⟩ := brg h
        refine br_t hb ?_
        obtain ⟨r_2, h1, h⟩ := bd h
        refine call_aft (s_l01In_c h1) ?_
        simp +decide only [go_sem, reduceIte, Nat.reduceAdd]
        rcases brc h with ⟨hb, h⟩ | ⟨hb, h⟩
        · refine br_t hb ?_
          obtain rfl := Option.some.inj h
          first | rfl | (simp only [List.length_set, go_sem]; done)
        · refine br_f hb ?_
          obtain ⟨r_3, h1, h⟩ := bd h
          refine call_aft (s_l01In_c h1) ?_
          simp +decide only [go_sem, reduceIte, Nat.reduceAdd]
          rcases brc h with ⟨hb, h⟩ | ⟨hb, h⟩
          · refine br_t hb ?_
            obtain rfl := Option.some.inj h
            first | rfl | (simp only [List.length_set, go_sem]; done)
          · refine br_f hb ?_
            rcases brc h with ⟨hb, h⟩ | ⟨hb, h⟩
            · refine br_t hb ?_
              obtain ⟨x2, h1, h⟩ := bd h
              refine bind_some h1 ?_
              rcases brc h with ⟨hb, h⟩ | ⟨hb, h⟩
              · refine br_t hb ?_
                obtain rfl := Option.some.inj h
                first | rfl | (simp only [List.length_set, go_sem]; done)
              · refine br_f hb ?_
                obtain ⟨x3, h1, h⟩ := bd h
                refine bind_some h1 ?_
                rcases brc h with ⟨hb, h⟩ | ⟨hb, h⟩
                · refine br_t hb ?_
                  obtain ⟨x4, h1, h⟩ := bd h
                  refine bind_some h1 ?_
                  rcases brc h with ⟨hb, h⟩ | ⟨hb, h⟩
                  · refine br_t hb ?_
                    obtain rfl := Option.some.inj h
                    first | rfl | (simp only [List.length_set, go_sem]; done)
                  · refine br_f hb ?_
                    obtain rfl := Option.some.inj h
                    first | rfl | (simp only [List.length_set, go_sem]; done)
                · refine br_f hb ?_
                  obtain rfl := Option.some.inj h
                  first | rfl | (simp only [List.length_set, go_sem]; done)
            · refine br_f hb ?_
              obtain rfl := Option.some.inj h
              first | rfl | (simp only [List.length_set, go_sem]; done)
    · refine br_f hb ?_
      obtain rfl := Option.some.inj h
      first | rfl | (simp only [List.length_set, go_sem]; done)
noncomputable def s_l10List (ListtoArray : (List Entry)) (a : Int) (a2 : Int) : Option (Bool) :=
  br (decide (((ListtoArray.length : Nat) : Int) > (200 : Int))) (
    some false) (
    (Loop (s_l10List_1_s ListtoArray a a2) (0 : Int)).bind (alt (fun e_2 =>
      some false) (fun e_3 =>
      some true)))
theorem s_l10List_c {ListtoArray : (List Entry)} {a : Int} {a2 : Int} {r : Bool} (h : s_l10List ListtoArray a a2 = some r) : Call tab ow 171 [sl eEntry ListtoArray, I a, I a2] [] = some (B r, []) := by
  rw [run_s_l10List]
  unfold s_l10List at h
  simp +decide only [b_s_l10List, go_sem, reduceIte, Nat.reduceAdd]
  rcases brc h with ⟨hb, h⟩ | ⟨hb, h⟩
  · refine br_t hb ?_
    obtain rfl := Option.some.inj h
    first | rfl | (simp only [List.length_set, go_sem]; done)
  · refine br_f hb ?_
    obtain ⟨e_, h1, h⟩ := bd h
    refine goR_of (s_l10List_1_l h1) ?_
    rcases e_ with e_2 | e_3
    · simp +decide only [go_sem, reduceIte, Nat.reduceAdd]
      obtain rfl := Option.some.inj h
      first | rfl | (simp only [List.length_set, go_sem]; done)
    · simp +decide only [go_sem, reduceIte, Nat.reduceAdd]
      obtain rfl := Option.some.inj h
      first | rfl | (simp only [List.length_set, go_sem]; done)
noncomputable def s_SystemOK (s : System) : Option (Bool) :=
  (s_l01In s.Rows (1 : Int) (5 : Int)).bind fun r_ =>
  br r_ (
    (s_l01In s.Cols (2 : Int) (5 : Int)).bind fun r_2 =>
    br r_2 (
      br (decide (0 ≤ (IntKind.wrap .u64 (IntKind.wrap .i64 (s.Cols - (1 : Int)))))) (
        (s_l01In s.Publics (0 : Int) (IntKind.wrap .i64 ((shl64 .i64 (1 : Int) (IntKind.wrap .u64 (IntKind.wrap .i64 (s.Cols - (1 : Int))))) - (1 : Int)))).bind fun r_3 =>
        br r_3 (
          (s_l10List s.A s.Rows s.Cols).bind fun r_4 =>
          br r_4 (
            (s_l10List s.B s.Rows s.Cols).bind fun r_5 =>
            br r_5 (
              (s_l10List s.C s.Rows s.Cols).bind fun r_6 =>
              some r_6) (
              some false)) (
            some false)) (
          some false)) (
        none)) (
      some false)) (
    some false)
theorem s_SystemOK_c {s : System} {r : Bool} (h : s_SystemOK s = some r) : Call tab ow 147 [.agg [I s.Rows, I s.Cols, I s.Publics, sl eEntry s.A, sl eEntry s.B, sl eEntry s.C]] [] = some (B r, []) := by
  rw [run_s_SystemOK]
  unfold s_SystemOK at h
  simp +decide only [b_s_SystemOK, go_sem, reduceIte, Nat.reduceAdd]
  obtain ⟨r_, h1, h⟩ := bd h
  refine call_aft (s_l01In_c h1) ?_
  simp +decide only [go_sem, reduceIte, Nat.reduceAdd]
  rcases brc h with ⟨hb, h⟩ | ⟨hb, h⟩
  · refine br_t hb ?_
    obtain ⟨r_2, h1, h⟩ := bd h
    refine call_aft (s_l01In_c h1) ?_
    simp +decide only [go_sem, reduceIte, Nat.reduceAdd]
    rcases brc h with ⟨hb, h⟩ | ⟨hb, h⟩
    · refine br_t hb ?_
      obtain ⟨hb, h⟩ := brg h
      refine br_t hb ?_
      obtain ⟨r_3, h1, h⟩ := bd h
      refine call_aft (s_l01In_c h1) ?_
      simp +decide only [go_sem, reduceIte, Nat.reduceAdd]
      rcases brc h with ⟨hb, h⟩ | ⟨hb, h⟩
      · refine br_t hb ?_
        obtain ⟨r_4, h1, h⟩ := bd h
        refine call_aft (s_l10List_c h1) ?_
        simp +decide only [go_sem, reduceIte, Nat.reduceAdd]
        rcases brc h with ⟨hb, h⟩ | ⟨hb, h⟩
        · refine br_t hb ?_
          obtain ⟨r_5, h1, h⟩ := bd h
          refine call_aft (s_l10List_c h1) ?_
          simp +decide only [go_sem, reduceIte, Nat.reduceAdd]
          rcases brc h with ⟨hb, h⟩ | ⟨hb, h⟩
          · refine br_t hb ?_
            obtain ⟨r_6, h1, h⟩ := bd h
            refine call_aft (s_l10List_c h1) ?_
            simp +decide only [go_sem, reduceIte, Nat.reduceAdd]
            obtain rfl := Option.some.inj h
            first | rfl | (simp only [List.length_set, go_sem]; done)
          · refine br_f hb ?_
            obtain rfl := Option.some.inj h
            first | rfl | (simp only [List.length_set, go_sem]; done)
        · refine br_f hb ?_
          obtain rfl := Option.some.inj h
          first | rfl | (simp only [List.length_set, go_sem]; done)
      · refine br_f hb ?_
        obtain rfl := Option.some.inj h
        first | rfl | (simp only [List.length_set, go_sem]; done)
    · refine br_f hb ?_
      obtain rfl := Option.some.inj h
      first | rfl | (simp only [List.length_set, go_sem]; done)
  · refine br_f hb ?_
    obtain rfl := Option.some.inj h
    first | rfl | (simp only [List.length_set, go_sem]; done)
noncomputable def s_l06One : Option (Ext) :=
  (s_l02Of (1 : Int)).bind fun r_ =>
  some r_
theorem s_l06One_c {r : Ext} (h : s_l06One = some r) : Call tab ow 271 [] [] = some (.agg [I r.A, I r.B], []) := by
  rw [run_s_l06One]
  unfold s_l06One at h
  simp +decide only [b_s_l06One, go_sem, reduceIte, Nat.reduceAdd]
  obtain ⟨r_, h1, h⟩ := bd h
  refine call_aft (s_l02Of_c h1) ?_
  simp +decide only [go_sem, reduceIte, Nat.reduceAdd]
  obtain rfl := Option.some.inj h
  first | rfl | (simp only [List.length_set, go_sem]; done)
noncomputable def s_l06Less (a : Ext) : Option (Ext) :=
  (s_l06One).bind fun r_ =>
  (s_l02Sub r_ a).bind fun r_2 =>
  some r_2
theorem s_l06Less_c {a : Ext} {r : Ext} (h : s_l06Less a = some r) : Call tab ow 272 [.agg [I a.A, I a.B]] [] = some (.agg [I r.A, I r.B], []) := by
  rw [run_s_l06Less]
  unfold s_l06Less at h
  simp +decide only [b_s_l06Less, go_sem, reduceIte, Nat.reduceAdd]
  obtain ⟨r_, h1, h⟩ := bd h
  refine call_aftD (s_l06One_c h1) ?_
  simp +decide only [go_sem, reduceIte, Nat.reduceAdd]
  obtain ⟨r_2, h1, h⟩ := bd h
  refine call_aftD (s_l02Sub_c h1) ?_
  simp +decide only [go_sem, reduceIte, Nat.reduceAdd]
  obtain rfl := Option.some.inj h
  first | rfl | (simp only [List.length_set, go_sem]; done)
section
theorem s_l06Eq_k0 : mkR 2001 [] = rws eExt [] := rfl
attribute [local go_sem] s_l06Eq_k0
theorem s_l06Eq_k1 : ∀ k, repR 6003 k [I (0 : Int), I (0 : Int)] = rws eExt (List.replicate k (Ext.mk (0 : Int) (0 : Int))) := fun _ => repT eExt (Ext.mk (0 : Int) (0 : Int)) _ _
attribute [local go_sem] s_l06Eq_k1
noncomputable def s_l06Eq_2_s (point3 : List Ext) (out2 : List Ext) (i2 : Int) : (List Ext) × Int → Option (((List Ext) × Int) ⊕ (((List Ext) × Int × Bool)))
  | (l, k) =>
    br (decide (k < ((out2.length : Nat) : Int))) (
      (atL out2 k).bind fun x =>
      (atL point3 i2).bind fun x2 =>
      (s_l06Less x2).bind fun r_2 =>
      (s_l02Mul x r_2).bind fun r_3 =>
      br (decide (0 ≤ k)) (
        br (decide (k.toNat < l.length)) (
          (l[k.toNat]?).bind fun x3 =>
          (atL out2 k).bind fun x4 =>
          (atL point3 i2).bind fun x5 =>
          (s_l02Mul x4 x5).bind fun r_4 =>
          br (decide (0 ≤ (IntKind.wrap .i64 (k + ((out2.length : Nat) : Int))))) (
            br (decide ((IntKind.wrap .i64 (k + ((out2.length : Nat) : Int))).toNat < l.length)) (
              ((l.set k.toNat r_3)[(IntKind.wrap .i64 (k + ((out2.length : Nat) : Int))).toNat]?).bind fun x6 =>
              some (.inl (((l.set k.toNat r_3).set ((IntKind.wrap .i64 (k + ((out2.length : Nat) : Int))).toNat) r_4), (IntKind.wrap .i64 (k + (1 : Int)))))) (
              none)) (
            none)) (
          none)) (
        none)) (
      some (.inr (l, k, decide (k < ((out2.length : Nat) : Int)))))
theorem s_l06Eq_2_l {point3 : List Ext} {out2 : List Ext} {i2 : Int} {l : List Ext} {k : Int} {e : ((List Ext) × Int × Bool)} (h : Loop (s_l06Eq_2_s point3 out2 i2) (l, k) = some e) : LoopX tab ow (.close [10010, 10011, 11013]) b_s_l06Eq_7 ⟨[(0, sl eExt point3), (3, sl eExt out2), (4, I i2), (5, .sl 6003 0 l.length), (6, I k)], [(6003, ⟨2, false, rws eExt l⟩)]⟩ = some ((.exit 2, ⟨[(0, sl eExt point3), (3, sl eExt out2), (4, I i2), (5, .sl 6003 0 e.1.length), (6, I e.2.1), (22, B e.2.2)], [(6003, ⟨2, false, rws eExt e.1⟩)]⟩)) := by
  refine loop_runG (S := (List Ext) × Int) (eS := fun s => ⟨[(0, sl eExt point3), (3, sl eExt out2), (4, I i2), (5, .sl 6003 0 s.1.length), (6, I s.2)], [(6003, ⟨2, false, rws eExt s.1⟩)]⟩) (eE := fun e => (.exit 2, ⟨[(0, sl eExt point3), (3, sl eExt out2), (4, I i2), (5, .sl 6003 0 e.1.length), (6, I e.2.1), (22, B e.2.2)], [(6003, ⟨2, false, rws eExt e.1⟩)]⟩)) (fun e => ?_) (fun s o h => ?_) h
  · simp [alt]
  · obtain ⟨l, k⟩ := s
    simp only [s_l06Eq_2_s] at h
    show Rn tab ow _ _ ⟨[(0, sl eExt point3), (3, sl eExt out2), (4, I i2), (5, .sl 6003 0 l.length), (6, I k)], [(6003, ⟨2, false, rws eExt l⟩)]⟩ = _
    simp +decide only [b_s_l06Eq_7, go_sem, reduceIte, Nat.reduceAdd]
    rcases brc h with ⟨hb, h⟩ | ⟨hb, h⟩
    · refine br_t hb ?_
      obtain ⟨x, h1, h⟩ := bd h
      refine bind_some h1 ?_
      obtain ⟨x2, h1, h⟩ := bd h
      refine bind_some h1 ?_
      obtain ⟨r_2, h1, h⟩ := bd h
      refine call_aftD (s_l06Less_c h1) ?_
      simp +decide only [go_sem, reduceIte, Nat.reduceAdd]
      obtain ⟨r_3, h1, h⟩ := bd h
      refine call_aftD (s_l02Mul_c h1) ?_
      simp +decide only [go_sem, reduceIte, Nat.reduceAdd]
      obtain ⟨hb, h⟩ := brg h
      refine br_t hb ?_
      obtain ⟨hb, h⟩ := brg h
      refine br_t hb ?_
      obtain ⟨x3, h1, h⟩ := bd h
      refine bind_some h1 ?_
      obtain ⟨x4, h1, h⟩ := bd h
      refine bind_some h1 ?_
      obtain ⟨x5, h1, h⟩ := bd h
      refine bind_some h1 ?_
      obtain ⟨r_4, h1, h⟩ := bd h
      refine call_aftD (s_l02Mul_c h1) ?_
      simp +decide only [go_sem, reduceIte, Nat.reduceAdd]
      obtain ⟨hb, h⟩ := brg h
      refine br_t hb ?_
      obtain ⟨hb, h⟩ := brg h
      refine br_t hb ?_
      obtain ⟨x6, h1, h⟩ := bd h
      refine bind_some h1 ?_
      obtain rfl := Option.some.inj h
      first | rfl | (simp only [List.length_set, go_sem]; done)
    · refine br_f hb ?_
      obtain rfl := Option.some.inj h
      first | rfl | (simp only [List.length_set, go_sem]; done)
noncomputable def s_l06Eq_1_s (point2 : List Ext) : (List Ext) × Int → Option (((List Ext) × Int) ⊕ (((List Ext) × Int × Bool)))
  | (out, i) =>
    br (decide (i < ((point2.length : Nat) : Int))) (
      br (mkOK (IntKind.wrap .i64 ((2 : Int) * ((out.length : Nat) : Int))) (IntKind.wrap .i64 ((2 : Int) * ((out.length : Nat) : Int))) 16) (
        (Loop (s_l06Eq_2_s point2 out i) ((List.replicate ((IntKind.wrap .i64 ((2 : Int) * ((out.length : Nat) : Int))).toNat) (Ext.mk (0 : Int) (0 : Int))), (0 : Int))).bind fun e_ =>
        some (.inl (e_.1, (IntKind.wrap .i64 (i + (1 : Int)))))) (
        none)) (
      some (.inr (out, i, decide (i < ((point2.length : Nat) : Int)))))
theorem s_l06Eq_1_l {point2 : List Ext} {out : List Ext} {i : Int} {e : ((List Ext) × Int × Bool)} (h : Loop (s_l06Eq_1_s point2) (out, i) = some e) : LoopX tab ow (.close [6003, 10010, 10011, 11013, 2001]) b_s_l06Eq_3 ⟨[(0, sl eExt point2), (3, sl eExt out), (4, I i)], []⟩ = some ((.exit 0, ⟨[(0, sl eExt point2), (3, sl eExt e.1), (4, I e.2.1), (12, B e.2.2)], []⟩)) := by
  refine loop_runG (S := (List Ext) × Int) (eS := fun s => ⟨[(0, sl eExt point2), (3, sl eExt s.1), (4, I s.2)], []⟩) (eE := fun e => (.exit 0, ⟨[(0, sl eExt point2), (3, sl eExt e.1), (4, I e.2.1), (12, B e.2.2)], []⟩)) (fun e => ?_) (fun s o h => ?_) h
  · simp [alt]
  · obtain ⟨out, i⟩ := s
    simp only [s_l06Eq_1_s] at h
    show Rn tab ow _ _ ⟨[(0, sl eExt point2), (3, sl eExt out), (4, I i)], []⟩ = _
    simp +decide only [b_s_l06Eq_3, go_sem, reduceIte, Nat.reduceAdd]
    rcases brc h with ⟨hb, h⟩ | ⟨hb, h⟩
    · refine br_t hb ?_
      obtain ⟨hb, h⟩ := brg h
      refine br_t hb ?_
      obtain ⟨e_, h1, h⟩ := bd h
      refine goR_of (s_l06Eq_2_l h1) ?_
      simp +decide only [go_sem, reduceIte, Nat.reduceAdd]
      obtain rfl := Option.some.inj h
      first | rfl | (simp only [List.length_set, go_sem]; done)
    · refine br_f hb ?_
      obtain rfl := Option.some.inj h
      first | rfl | (simp only [List.length_set, go_sem]; done)
noncomputable def s_l06Eq (point : (List Ext)) : Option ((List Ext)) :=
  (s_l06One).bind fun r_ =>
  (Loop (s_l06Eq_1_s point) (([r_] : List Ext), (0 : Int))).bind fun e_2 =>
  some e_2.1
theorem s_l06Eq_c {point : (List Ext)} {r : (List Ext)} (h : s_l06Eq point = some r) : Call tab ow 235 [sl eExt point] [] = some (sl eExt r, []) := by
  rw [run_s_l06Eq]
  unfold s_l06Eq at h
  simp +decide only [b_s_l06Eq, go_sem, reduceIte, Nat.reduceAdd]
  obtain ⟨r_, h1, h⟩ := bd h
  refine call_aft (s_l06One_c h1) ?_
  simp +decide only [go_sem, reduceIte, Nat.reduceAdd]
  obtain ⟨e_2, h1, h⟩ := bd h
  refine goR_of (s_l06Eq_1_l h1) ?_
  simp +decide only [go_sem, reduceIte, Nat.reduceAdd]
  obtain rfl := Option.some.inj h
  first | rfl | (simp only [List.length_set, go_sem]; done)
end
noncomputable def w_eqExt (a : Ext) (b : Ext) : Option (Bool) :=
  br (a.A != b.A) (
    some false) (
    br (a.B != b.B) (
      some false) (
      some true))
theorem w_eqExt_c {a : Ext} {b : Ext} {r : Bool} (h : w_eqExt a b = some r) : Call tab ow 62 [.agg [I a.A, I a.B], .agg [I b.A, I b.B]] [] = some (B r, []) := by
  rw [run_w_eqExt]
  unfold w_eqExt at h
  simp +decide only [b_w_eqExt, go_sem, reduceIte, Nat.reduceAdd]
  rcases brc h with ⟨hb, h⟩ | ⟨hb, h⟩
  · refine br_t hb ?_
    obtain rfl := Option.some.inj h
    first | rfl | (simp only [List.length_set, go_sem]; done)
  · refine br_f hb ?_
    rcases brc h with ⟨hb, h⟩ | ⟨hb, h⟩
    · refine br_t hb ?_
      obtain rfl := Option.some.inj h
      first | rfl | (simp only [List.length_set, go_sem]; done)
    · refine br_f hb ?_
      obtain rfl := Option.some.inj h
      first | rfl | (simp only [List.length_set, go_sem]; done)
noncomputable def w_eqExtS_1_s (a2 : List Ext) (b2 : List Ext) : Int → Option ((Int) ⊕ (Unit ⊕ (Int × Bool)))
  | i =>
    br (decide (i < ((a2.length : Nat) : Int))) (
      (atL a2 i).bind fun x =>
      (atL b2 i).bind fun x2 =>
      (w_eqExt x x2).bind fun r_ =>
      br (!r_) (
        some (.inr (.inl ()))) (
        some (.inl (IntKind.wrap .i64 (i + (1 : Int)))))) (
      some (.inr (.inr (i, decide (i < ((a2.length : Nat) : Int))))))
theorem w_eqExtS_1_l {a2 : List Ext} {b2 : List Ext} {i : Int} {e : Unit ⊕ (Int × Bool)} (h : Loop (w_eqExtS_1_s a2 b2) i = some e) : LoopX tab ow (.close [7008]) b_w_eqExtS_4 ⟨[(0, sl eExt a2), (1, sl eExt b2), (5, I i)], []⟩ = some ((alt (fun e => ((.ret, ⟨[(4, B false)], []⟩) : AExit × St)) (fun e => (.exit 0, ⟨[(0, sl eExt a2), (1, sl eExt b2), (5, I e.1), (14, B e.2)], []⟩))) e) := by
  refine loop_runG (S := Int) (eS := fun s => ⟨[(0, sl eExt a2), (1, sl eExt b2), (5, I s)], []⟩) (eE := fun e => (alt (fun e => ((.ret, ⟨[(4, B false)], []⟩) : AExit × St)) (fun e => (.exit 0, ⟨[(0, sl eExt a2), (1, sl eExt b2), (5, I e.1), (14, B e.2)], []⟩))) e) (fun e => ?_) (fun i o h => ?_) h
  · rcases e with e | e <;> simp [alt]
  · skip
    simp only [w_eqExtS_1_s] at h
    show Rn tab ow _ _ ⟨[(0, sl eExt a2), (1, sl eExt b2), (5, I i)], []⟩ = _
    simp +decide only [b_w_eqExtS_4, go_sem, reduceIte, Nat.reduceAdd]
    rcases brc h with ⟨hb, h⟩ | ⟨hb, h⟩
    · refine br_t hb ?_
      obtain ⟨x, h1, h⟩ := bd h
      refine bind_some h1 ?_
      obtain ⟨x2, h1, h⟩ := bd h
      refine bind_some h1 ?_
      obtain ⟨r_, h1, h⟩ := bd h
      refine call_aftD (w_eqExt_c h1) ?_
      simp +decide only [go_sem, reduceIte, Nat.reduceAdd]
      rcases brc h with ⟨hb, h⟩ | ⟨hb, h⟩
      · refine br_t hb ?_
        obtain rfl := Option.some.inj h
        first | rfl | (simp only [List.length_set, go_sem]; done)
      · refine br_f hb ?_
        obtain rfl := Option.some.inj h
        first | rfl | (simp only [List.length_set, go_sem]; done)
    · refine br_f hb ?_
      obtain rfl := Option.some.inj h
      first | rfl | (simp only [List.length_set, go_sem]; done)
noncomputable def w_eqExtS (a : (List Ext)) (b : (List Ext)) : Option (Bool) :=
  br (((a.length : Nat) : Int) != ((b.length : Nat) : Int)) (
    some false) (
    (Loop (w_eqExtS_1_s a b) (0 : Int)).bind (alt (fun e_2 =>
      some false) (fun e_3 =>
      some true)))
theorem w_eqExtS_c {a : (List Ext)} {b : (List Ext)} {r : Bool} (h : w_eqExtS a b = some r) : Call tab ow 55 [sl eExt a, sl eExt b] [] = some (B r, []) := by
  rw [run_w_eqExtS]
  unfold w_eqExtS at h
  simp +decide only [b_w_eqExtS, go_sem, reduceIte, Nat.reduceAdd]
  rcases brc h with ⟨hb, h⟩ | ⟨hb, h⟩
  · refine br_t hb ?_
    obtain rfl := Option.some.inj h
    first | rfl | (simp only [List.length_set, go_sem]; done)
  · refine br_f hb ?_
    obtain ⟨e_, h1, h⟩ := bd h
    refine goR_of (w_eqExtS_1_l h1) ?_
    rcases e_ with e_2 | e_3
    · simp +decide only [go_sem, reduceIte, Nat.reduceAdd]
      obtain rfl := Option.some.inj h
      first | rfl | (simp only [List.length_set, go_sem]; done)
    · simp +decide only [go_sem, reduceIte, Nat.reduceAdd]
      obtain rfl := Option.some.inj h
      first | rfl | (simp only [List.length_set, go_sem]; done)
noncomputable def w_eqEntry (a : Entry) (b : Entry) : Option (Bool) :=
  br (a.Row != b.Row) (
    some false) (
    br (a.Col != b.Col) (
      some false) (
      br (a.Value != b.Value) (
        some false) (
        some true)))
theorem w_eqEntry_c {a : Entry} {b : Entry} {r : Bool} (h : w_eqEntry a b = some r) : Call tab ow 237 [.agg [I a.Row, I a.Col, I a.Value], .agg [I b.Row, I b.Col, I b.Value]] [] = some (B r, []) := by
  rw [run_w_eqEntry]
  unfold w_eqEntry at h
  simp +decide only [b_w_eqEntry, go_sem, reduceIte, Nat.reduceAdd]
  rcases brc h with ⟨hb, h⟩ | ⟨hb, h⟩
  · refine br_t hb ?_
    obtain rfl := Option.some.inj h
    first | rfl | (simp only [List.length_set, go_sem]; done)
  · refine br_f hb ?_
    rcases brc h with ⟨hb, h⟩ | ⟨hb, h⟩
    · refine br_t hb ?_
      obtain rfl := Option.some.inj h
      first | rfl | (simp only [List.length_set, go_sem]; done)
    · refine br_f hb ?_
      rcases brc h with ⟨hb, h⟩ | ⟨hb, h⟩
      · refine br_t hb ?_
        obtain rfl := Option.some.inj h
        first | rfl | (simp only [List.length_set, go_sem]; done)
      · refine br_f hb ?_
        obtain rfl := Option.some.inj h
        first | rfl | (simp only [List.length_set, go_sem]; done)
noncomputable def w_eqEntryS_1_s (a2 : List Entry) (b2 : List Entry) : Int → Option ((Int) ⊕ (Unit ⊕ (Int × Bool)))
  | i =>
    br (decide (i < ((a2.length : Nat) : Int))) (
      (atL a2 i).bind fun x =>
      (atL b2 i).bind fun x2 =>
      (w_eqEntry x x2).bind fun r_ =>
      br (!r_) (
        some (.inr (.inl ()))) (
        some (.inl (IntKind.wrap .i64 (i + (1 : Int)))))) (
      some (.inr (.inr (i, decide (i < ((a2.length : Nat) : Int))))))
theorem w_eqEntryS_1_l {a2 : List Entry} {b2 : List Entry} {i : Int} {e : Unit ⊕ (Int × Bool)} (h : Loop (w_eqEntryS_1_s a2 b2) i = some e) : LoopX tab ow (.close [7008]) b_w_eqEntryS_4 ⟨[(0, sl eEntry a2), (1, sl eEntry b2), (5, I i)], []⟩ = some ((alt (fun e => ((.ret, ⟨[(4, B false)], []⟩) : AExit × St)) (fun e => (.exit 0, ⟨[(0, sl eEntry a2), (1, sl eEntry b2), (5, I e.1), (14, B e.2)], []⟩))) e) := by
  refine loop_runG (S := Int) (eS := fun s => ⟨[(0, sl eEntry a2), (1, sl eEntry b2), (5, I s)], []⟩) (eE := fun e => (alt (fun e => ((.ret, ⟨[(4, B false)], []⟩) : AExit × St)) (fun e => (.exit 0, ⟨[(0, sl eEntry a2), (1, sl eEntry b2), (5, I e.1), (14, B e.2)], []⟩))) e) (fun e => ?_) (fun i o h => ?_) h
  · rcases e with e | e <;> simp [alt]
  · skip
    simp only [w_eqEntryS_1_s] at h
    show Rn tab ow _ _ ⟨[(0, sl eEntry a2), (1, sl eEntry b2), (5, I i)], []⟩ = _
    simp +decide only [b_w_eqEntryS_4, go_sem, reduceIte, Nat.reduceAdd]
    rcases brc h with ⟨hb, h⟩ | ⟨hb, h⟩
    · refine br_t hb ?_
      obtain ⟨x, h1, h⟩ := bd h
      refine bind_some h1 ?_
      obtain ⟨x2, h1, h⟩ := bd h
      refine bind_some h1 ?_
      obtain ⟨r_, h1, h⟩ := bd h
      refine call_aftD (w_eqEntry_c h1) ?_
      simp +decide only [go_sem, reduceIte, Nat.reduceAdd]
      rcases brc h with ⟨hb, h⟩ | ⟨hb, h⟩
      · refine br_t hb ?_
        obtain rfl := Option.some.inj h
        first | rfl | (simp only [List.length_set, go_sem]; done)
      · refine br_f hb ?_
        obtain rfl := Option.some.inj h
        first | rfl | (simp only [List.length_set, go_sem]; done)
    · refine br_f hb ?_
      obtain rfl := Option.some.inj h
      first | rfl | (simp only [List.length_set, go_sem]; done)
noncomputable def w_eqEntryS (a : (List Entry)) (b : (List Entry)) : Option (Bool) :=
  br (((a.length : Nat) : Int) != ((b.length : Nat) : Int)) (
    some false) (
    (Loop (w_eqEntryS_1_s a b) (0 : Int)).bind (alt (fun e_2 =>
      some false) (fun e_3 =>
      some true)))
theorem w_eqEntryS_c {a : (List Entry)} {b : (List Entry)} {r : Bool} (h : w_eqEntryS a b = some r) : Call tab ow 151 [sl eEntry a, sl eEntry b] [] = some (B r, []) := by
  rw [run_w_eqEntryS]
  unfold w_eqEntryS at h
  simp +decide only [b_w_eqEntryS, go_sem, reduceIte, Nat.reduceAdd]
  rcases brc h with ⟨hb, h⟩ | ⟨hb, h⟩
  · refine br_t hb ?_
    obtain rfl := Option.some.inj h
    first | rfl | (simp only [List.length_set, go_sem]; done)
  · refine br_f hb ?_
    obtain ⟨e_, h1, h⟩ := bd h
    refine goR_of (w_eqEntryS_1_l h1) ?_
    rcases e_ with e_2 | e_3
    · simp +decide only [go_sem, reduceIte, Nat.reduceAdd]
      obtain rfl := Option.some.inj h
      first | rfl | (simp only [List.length_set, go_sem]; done)
    · simp +decide only [go_sem, reduceIte, Nat.reduceAdd]
      obtain rfl := Option.some.inj h
      first | rfl | (simp only [List.length_set, go_sem]; done)
noncomputable def w_eqSystem (a : System) (b : System) : Option (Bool) :=
  br (a.Rows != b.Rows) (
    some false) (
    br (a.Cols != b.Cols) (
      some false) (
      br (a.Publics != b.Publics) (
        some false) (
        (w_eqEntryS a.A b.A).bind fun r_ =>
        br (!r_) (
          some false) (
          (w_eqEntryS a.B b.B).bind fun r_2 =>
          br (!r_2) (
            some false) (
            (w_eqEntryS a.C b.C).bind fun r_3 =>
            br (!r_3) (
              some false) (
              some true))))))
theorem w_eqSystem_c {a : System} {b : System} {r : Bool} (h : w_eqSystem a b = some r) : Call tab ow 56 [.agg [I a.Rows, I a.Cols, I a.Publics, sl eEntry a.A, sl eEntry a.B, sl eEntry a.C], .agg [I b.Rows, I b.Cols, I b.Publics, sl eEntry b.A, sl eEntry b.B, sl eEntry b.C]] [] = some (B r, []) := by
  rw [run_w_eqSystem]
  unfold w_eqSystem at h
  simp +decide only [b_w_eqSystem, go_sem, reduceIte, Nat.reduceAdd]
  rcases brc h with ⟨hb, h⟩ | ⟨hb, h⟩
  · refine br_t hb ?_
    obtain rfl := Option.some.inj h
    first | rfl | (simp only [List.length_set, go_sem]; done)
  · refine br_f hb ?_
    rcases brc h with ⟨hb, h⟩ | ⟨hb, h⟩
    · refine br_t hb ?_
      obtain rfl := Option.some.inj h
      first | rfl | (simp only [List.length_set, go_sem]; done)
    · refine br_f hb ?_
      rcases brc h with ⟨hb, h⟩ | ⟨hb, h⟩
      · refine br_t hb ?_
        obtain rfl := Option.some.inj h
        first | rfl | (simp only [List.length_set, go_sem]; done)
      · refine br_f hb ?_
        obtain ⟨r_, h1, h⟩ := bd h
        refine call_aft (w_eqEntryS_c h1) ?_
        simp +decide only [go_sem, reduceIte, Nat.reduceAdd]
        rcases brc h with ⟨hb, h⟩ | ⟨hb, h⟩
        · refine br_t hb ?_
          obtain rfl := Option.some.inj h
          first | rfl | (simp only [List.length_set, go_sem]; done)
        · refine br_f hb ?_
          obtain ⟨r_2, h1, h⟩ := bd h
          refine call_aft (w_eqEntryS_c h1) ?_
          simp +decide only [go_sem, reduceIte, Nat.reduceAdd]
          rcases brc h with ⟨hb, h⟩ | ⟨hb, h⟩
          · refine br_t hb ?_
            obtain rfl := Option.some.inj h
            first | rfl | (simp only [List.length_set, go_sem]; done)
          · refine br_f hb ?_
            obtain ⟨r_3, h1, h⟩ := bd h
            refine call_aft (w_eqEntryS_c h1) ?_
            simp +decide only [go_sem, reduceIte, Nat.reduceAdd]
            rcases brc h with ⟨hb, h⟩ | ⟨hb, h⟩
            · refine br_t hb ?_
              obtain rfl := Option.some.inj h
              first | rfl | (simp only [List.length_set, go_sem]; done)
            · refine br_f hb ?_
              obtain rfl := Option.some.inj h
              first | rfl | (simp only [List.length_set, go_sem]; done)
section
theorem w_toIntS_k0 : ∀ k, repR 2002 k [I (0 : Int)] = rws eI (List.replicate k (0 : Int)) := fun _ => repT eI (0 : Int) _ _
attribute [local go_sem] w_toIntS_k0
noncomputable def w_toIntS_1_s (a2 : List Int) : (List Int) × Int → Option (((List Int) × Int) ⊕ (((List Int) × Int × Bool)))
  | (l, i) =>
    br (decide (i < ((a2.length : Nat) : Int))) (
      (atL a2 i).bind fun x =>
      br (decide (0 ≤ i)) (
        br (decide (i.toNat < l.length)) (
          (l[i.toNat]?).bind fun x2 =>
          some (.inl ((l.set i.toNat x), (IntKind.wrap .i64 (i + (1 : Int)))))) (
          none)) (
        none)) (
      some (.inr (l, i, decide (i < ((a2.length : Nat) : Int)))))
theorem w_toIntS_1_l {a2 : List Int} {l : List Int} {i : Int} {e : ((List Int) × Int × Bool)} (h : Loop (w_toIntS_1_s a2) (l, i) = some e) : LoopX tab ow (.close []) b_w_toIntS_3 ⟨[(0, sl eI a2), (3, .sl 2002 0 l.length), (4, I i)], [(2002, ⟨1, false, rws eI l⟩)]⟩ = some ((.exit 0, ⟨[(0, sl eI a2), (3, .sl 2002 0 e.1.length), (4, I e.2.1), (11, B e.2.2)], [(2002, ⟨1, false, rws eI e.1⟩)]⟩)) := by
  refine loop_runG (S := (List Int) × Int) (eS := fun s => ⟨[(0, sl eI a2), (3, .sl 2002 0 s.1.length), (4, I s.2)], [(2002, ⟨1, false, rws eI s.1⟩)]⟩) (eE := fun e => (.exit 0, ⟨[(0, sl eI a2), (3, .sl 2002 0 e.1.length), (4, I e.2.1), (11, B e.2.2)], [(2002, ⟨1, false, rws eI e.1⟩)]⟩)) (fun e => ?_) (fun s o h => ?_) h
  · simp [alt]
  · obtain ⟨l, i⟩ := s
    simp only [w_toIntS_1_s] at h
    show Rn tab ow _ _ ⟨[(0, sl eI a2), (3, .sl 2002 0 l.length), (4, I i)], [(2002, ⟨1, false, rws eI l⟩)]⟩ = _
    simp +decide only [b_w_toIntS_3, go_sem, reduceIte, Nat.reduceAdd]
    rcases brc h with ⟨hb, h⟩ | ⟨hb, h⟩
    · refine br_t hb ?_
      obtain ⟨x, h1, h⟩ := bd h
      refine bind_some h1 ?_
      obtain ⟨hb, h⟩ := brg h
      refine br_t hb ?_
      obtain ⟨hb, h⟩ := brg h
      refine br_t hb ?_
      obtain ⟨x2, h1, h⟩ := bd h
      refine bind_some h1 ?_
      obtain rfl := Option.some.inj h
      first | rfl | (simp only [List.length_set, go_sem]; done)
    · refine br_f hb ?_
      obtain rfl := Option.some.inj h
      first | rfl | (simp only [List.length_set, go_sem]; done)
noncomputable def w_toIntS (a : (List Int)) : Option ((List Int)) :=
  br (mkOK ((a.length : Nat) : Int) ((a.length : Nat) : Int) 8) (
    (Loop (w_toIntS_1_s a) ((List.replicate (((a.length : Nat) : Int).toNat) (0 : Int)), (0 : Int))).bind fun e_ =>
    some e_.1) (
    none)
theorem w_toIntS_c {a : (List Int)} {r : (List Int)} (h : w_toIntS a = some r) : Call tab ow 61 [sl eI a] [] = some (sl eI r, []) := by
  rw [run_w_toIntS]
  unfold w_toIntS at h
  simp +decide only [b_w_toIntS, go_sem, reduceIte, Nat.reduceAdd]
  obtain ⟨hb, h⟩ := brg h
  refine br_t hb ?_
  obtain ⟨e_, h1, h⟩ := bd h
  refine goR_of (w_toIntS_1_l h1) ?_
  simp +decide only [go_sem, reduceIte, Nat.reduceAdd]
  obtain rfl := Option.some.inj h
  first | rfl | (simp only [List.length_set, go_sem]; done)
end
end Go.AI.Fn

set_option linter.unusedVariables false
set_option linter.unusedSimpArgs false
set_option maxRecDepth 100000
set_option maxHeartbeats 1000000
namespace Go.AI.Fn
noncomputable def s_l10Fields_1_s (list2 : List Int) : Int → Option ((Int) ⊕ (Unit ⊕ (Int × Bool)))
  | i =>
    br (decide (i < ((list2.length : Nat) : Int))) (
      (atL list2 i).bind fun x =>
      (s_FieldOK x).bind fun r_ =>
      br (!r_) (
        some (.inr (.inl ()))) (
        some (.inl (IntKind.wrap .i64 (i + (1 : Int)))))) (
      some (.inr (.inr (i, decide (i < ((list2.length : Nat) : Int))))))
theorem s_l10Fields_1_l {list2 : List Int} {i : Int} {e : Unit ⊕ (Int × Bool)} (h : Loop (s_l10Fields_1_s list2) i = some e) : LoopX tab ow (.close [5004]) b_s_l10Fields_2 ⟨[(0, sl eI list2), (3, I i)], []⟩ = some ((alt (fun e => ((.ret, ⟨[(2, B false)], []⟩) : AExit × St)) (fun e => (.exit 0, ⟨[(0, sl eI list2), (3, I e.1), (7, B e.2)], []⟩))) e) := by
  refine loop_runG (S := Int) (eS := fun s => ⟨[(0, sl eI list2), (3, I s)], []⟩) (eE := fun e => (alt (fun e => ((.ret, ⟨[(2, B false)], []⟩) : AExit × St)) (fun e => (.exit 0, ⟨[(0, sl eI list2), (3, I e.1), (7, B e.2)], []⟩))) e) (fun e => ?_) (fun i o h => ?_) h
  · rcases e with e | e <;> simp [alt]
  · skip
    simp only [s_l10Fields_1_s] at h
    show Rn tab ow _ _ ⟨[(0, sl eI list2), (3, I i)], []⟩ = _
    simp +decide only [b_s_l10Fields_2, go_sem, reduceIte, Nat.reduceAdd]
    rcases brc h with ⟨hb, h⟩ | ⟨hb, h⟩
    · refine br_t hb ?_
      obtain ⟨x, h1, h⟩ := bd h
      refine bind_some h1 ?_
      obtain ⟨r_, h1, h⟩ := bd h
      refine call_aft (s_FieldOK_c h1) ?_
      simp +decide only [go_sem, reduceIte, Nat.reduceAdd]
      rcases brc h with ⟨hb, h⟩ | ⟨hb, h⟩
      · refine br_t hb ?_
        obtain rfl := Option.some.inj h
        first | rfl | (simp only [List.length_set, go_sem]; done)
      · refine br_f hb ?_
        obtain rfl := Option.some.inj h
        first | rfl | (simp only [List.length_set, go_sem]; done)
    · refine br_f hb ?_
      obtain rfl := Option.some.inj h
      first | rfl | (simp only [List.length_set, go_sem]; done)
noncomputable def s_l10Fields (list : (List Int)) : Option (Bool) :=
  (Loop (s_l10Fields_1_s list) (0 : Int)).bind (alt (fun e_2 =>
    some false) (fun e_3 =>
    some true))
theorem s_l10Fields_c {list : (List Int)} {r : Bool} (h : s_l10Fields list = some r) : Call tab ow 153 [sl eI list] [] = some (B r, []) := by
  rw [run_s_l10Fields]
  unfold s_l10Fields at h
  simp +decide only [b_s_l10Fields, go_sem, reduceIte, Nat.reduceAdd]
  obtain ⟨e_, h1, h⟩ := bd h
  refine goR_of (s_l10Fields_1_l h1) ?_
  rcases e_ with e_2 | e_3
  · simp +decide only [go_sem, reduceIte, Nat.reduceAdd]
    obtain rfl := Option.some.inj h
    first | rfl | (simp only [List.length_set, go_sem]; done)
  · simp +decide only [go_sem, reduceIte, Nat.reduceAdd]
    obtain rfl := Option.some.inj h
    first | rfl | (simp only [List.length_set, go_sem]; done)
section
theorem s_l10Vector_k0 : ∀ k, repR 3002 k [I (0 : Int)] = rws eI (List.replicate k (0 : Int)) := fun _ => repT eI (0 : Int) _ _
attribute [local go_sem] s_l10Vector_k0
noncomputable def s_l10Vector_1_s (publics2 : List Int) (privates2 : List Int) (half : Int) (c : Int) (c2 : Int) (c3 : Int) (c4 : List Entry) (c5 : List Entry) (c6 : List Entry) : (List Int) × Int → Option (((List Int) × Int) ⊕ (((List Int) × Int × Bool)))
  | (l, i) =>
    br (decide (i < ((publics2.length : Nat) : Int))) (
      (atL publics2 i).bind fun x2 =>
      br (decide (0 ≤ (IntKind.wrap .i64 ((1 : Int) + i)))) (
        br (decide ((IntKind.wrap .i64 ((1 : Int) + i)).toNat < l.length)) (
          (l[(IntKind.wrap .i64 ((1 : Int) + i)).toNat]?).bind fun x3 =>
          some (.inl ((l.set ((IntKind.wrap .i64 ((1 : Int) + i)).toNat) x2), (IntKind.wrap .i64 (i + (1 : Int)))))) (
          none)) (
        none)) (
      some (.inr (l, i, decide (i < ((publics2.length : Nat) : Int)))))
theorem s_l10Vector_1_l {publics2 : List Int} {privates2 : List Int} {half : Int} {c : Int} {c2 : Int} {c3 : Int} {c4 : List Entry} {c5 : List Entry} {c6 : List Entry} {l : List Int} {i : Int} {e : ((List Int) × Int × Bool)} (h : Loop (s_l10Vector_1_s publics2 privates2 half c c2 c3 c4 c5 c6) (l, i) = some e) : LoopX tab ow (.close []) b_s_l10Vector_5 ⟨[(1, sl eI publics2), (2, sl eI privates2), (7, I half), (8, .sl 3002 0 l.length), (9, I i)], [(1000, ⟨6, true, [[I c, I c2, I c3, sl eEntry c4, sl eEntry c5, sl eEntry c6]]⟩), (3002, ⟨1, false, rws eI l⟩)]⟩ = some ((.exit 0, ⟨[(1, sl eI publics2), (2, sl eI privates2), (7, I half), (8, .sl 3002 0 e.1.length), (9, I e.2.1), (24, B e.2.2)], [(1000, ⟨6, true, [[I c, I c2, I c3, sl eEntry c4, sl eEntry c5, sl eEntry c6]]⟩), (3002, ⟨1, false, rws eI e.1⟩)]⟩)) := by
  refine loop_runG (S := (List Int) × Int) (eS := fun s => ⟨[(1, sl eI publics2), (2, sl eI privates2), (7, I half), (8, .sl 3002 0 s.1.length), (9, I s.2)], [(1000, ⟨6, true, [[I c, I c2, I c3, sl eEntry c4, sl eEntry c5, sl eEntry c6]]⟩), (3002, ⟨1, false, rws eI s.1⟩)]⟩) (eE := fun e => (.exit 0, ⟨[(1, sl eI publics2), (2, sl eI privates2), (7, I half), (8, .sl 3002 0 e.1.length), (9, I e.2.1), (24, B e.2.2)], [(1000, ⟨6, true, [[I c, I c2, I c3, sl eEntry c4, sl eEntry c5, sl eEntry c6]]⟩), (3002, ⟨1, false, rws eI e.1⟩)]⟩)) (fun e => ?_) (fun s o h => ?_) h
  · simp [alt]
  · obtain ⟨l, i⟩ := s
    simp only [s_l10Vector_1_s] at h
    show Rn tab ow _ _ ⟨[(1, sl eI publics2), (2, sl eI privates2), (7, I half), (8, .sl 3002 0 l.length), (9, I i)], [(1000, ⟨6, true, [[I c, I c2, I c3, sl eEntry c4, sl eEntry c5, sl eEntry c6]]⟩), (3002, ⟨1, false, rws eI l⟩)]⟩ = _
    simp +decide only [b_s_l10Vector_5, go_sem, reduceIte, Nat.reduceAdd]
    rcases brc h with ⟨hb, h⟩ | ⟨hb, h⟩
    · refine br_t hb ?_
      obtain ⟨x2, h1, h⟩ := bd h
      refine bind_some h1 ?_
      obtain ⟨hb, h⟩ := brg h
      refine br_t hb ?_
      obtain ⟨hb, h⟩ := brg h
      refine br_t hb ?_
      obtain ⟨x3, h1, h⟩ := bd h
      refine bind_some h1 ?_
      obtain rfl := Option.some.inj h
      first | rfl | (simp only [List.length_set, go_sem]; done)
    · refine br_f hb ?_
      obtain rfl := Option.some.inj h
      first | rfl | (simp only [List.length_set, go_sem]; done)
noncomputable def s_l10Vector_2_s (privates3 : List Int) (half2 : Int) (c7 : Int) (c8 : Int) (c9 : Int) (c10 : List Entry) (c11 : List Entry) (c12 : List Entry) : (List Int) × Int → Option (((List Int) × Int) ⊕ (((List Int) × Int × Bool)))
  | (l2, i2) =>
    br (decide (i2 < ((privates3.length : Nat) : Int))) (
      (atL privates3 i2).bind fun x4 =>
      br (decide (0 ≤ (IntKind.wrap .i64 (half2 + i2)))) (
        br (decide ((IntKind.wrap .i64 (half2 + i2)).toNat < l2.length)) (
          (l2[(IntKind.wrap .i64 (half2 + i2)).toNat]?).bind fun x5 =>
          some (.inl ((l2.set ((IntKind.wrap .i64 (half2 + i2)).toNat) x4), (IntKind.wrap .i64 (i2 + (1 : Int)))))) (
          none)) (
        none)) (
      some (.inr (l2, i2, decide (i2 < ((privates3.length : Nat) : Int)))))
theorem s_l10Vector_2_l {privates3 : List Int} {half2 : Int} {c7 : Int} {c8 : Int} {c9 : Int} {c10 : List Entry} {c11 : List Entry} {c12 : List Entry} {l2 : List Int} {i2 : Int} {e : ((List Int) × Int × Bool)} (h : Loop (s_l10Vector_2_s privates3 half2 c7 c8 c9 c10 c11 c12) (l2, i2) = some e) : LoopX tab ow (.close []) b_s_l10Vector_9 ⟨[(2, sl eI privates3), (7, I half2), (8, .sl 3002 0 l2.length), (10, I i2)], [(1000, ⟨6, true, [[I c7, I c8, I c9, sl eEntry c10, sl eEntry c11, sl eEntry c12]]⟩), (3002, ⟨1, false, rws eI l2⟩)]⟩ = some ((.exit 2, ⟨[(2, sl eI privates3), (7, I half2), (8, .sl 3002 0 e.1.length), (10, I e.2.1), (38, B e.2.2)], [(1000, ⟨6, true, [[I c7, I c8, I c9, sl eEntry c10, sl eEntry c11, sl eEntry c12]]⟩), (3002, ⟨1, false, rws eI e.1⟩)]⟩)) := by
  refine loop_runG (S := (List Int) × Int) (eS := fun s => ⟨[(2, sl eI privates3), (7, I half2), (8, .sl 3002 0 s.1.length), (10, I s.2)], [(1000, ⟨6, true, [[I c7, I c8, I c9, sl eEntry c10, sl eEntry c11, sl eEntry c12]]⟩), (3002, ⟨1, false, rws eI s.1⟩)]⟩) (eE := fun e => (.exit 2, ⟨[(2, sl eI privates3), (7, I half2), (8, .sl 3002 0 e.1.length), (10, I e.2.1), (38, B e.2.2)], [(1000, ⟨6, true, [[I c7, I c8, I c9, sl eEntry c10, sl eEntry c11, sl eEntry c12]]⟩), (3002, ⟨1, false, rws eI e.1⟩)]⟩)) (fun e => ?_) (fun s o h => ?_) h
  · simp [alt]
  · obtain ⟨l2, i2⟩ := s
    simp only [s_l10Vector_2_s] at h
    show Rn tab ow _ _ ⟨[(2, sl eI privates3), (7, I half2), (8, .sl 3002 0 l2.length), (10, I i2)], [(1000, ⟨6, true, [[I c7, I c8, I c9, sl eEntry c10, sl eEntry c11, sl eEntry c12]]⟩), (3002, ⟨1, false, rws eI l2⟩)]⟩ = _
    simp +decide only [b_s_l10Vector_9, go_sem, reduceIte, Nat.reduceAdd]
    rcases brc h with ⟨hb, h⟩ | ⟨hb, h⟩
    · refine br_t hb ?_
      obtain ⟨x4, h1, h⟩ := bd h
      refine bind_some h1 ?_
      obtain ⟨hb, h⟩ := brg h
      refine br_t hb ?_
      obtain ⟨hb, h⟩ := brg h
      refine br_t hb ?_
      obtain ⟨x5, h1, h⟩ := bd h
      refine bind_some h1 ?_
      obtain rfl := Option.some.inj h
      first | rfl | (simp only [List.length_set, go_sem]; done)
    · refine br_f hb ?_
      obtain rfl := Option.some.inj h
      first | rfl | (simp only [List.length_set, go_sem]; done)
noncomputable def s_l10Vector (s : System) (publics : (List Int)) (privates : (List Int)) : Option ((List Int)) :=
  br (decide (0 ≤ (IntKind.wrap .u64 (IntKind.wrap .i64 (s.Cols - (1 : Int)))))) (
    br (mkOK (IntKind.wrap .i64 ((2 : Int) * (shl64 .i64 (1 : Int) (IntKind.wrap .u64 (IntKind.wrap .i64 (s.Cols - (1 : Int))))))) (IntKind.wrap .i64 ((2 : Int) * (shl64 .i64 (1 : Int) (IntKind.wrap .u64 (IntKind.wrap .i64 (s.Cols - (1 : Int))))))) 8) (
      br (decide (0 < (List.replicate ((IntKind.wrap .i64 ((2 : Int) * (shl64 .i64 (1 : Int) (IntKind.wrap .u64 (IntKind.wrap .i64 (s.Cols - (1 : Int))))))).toNat) (0 : Int)).length)) (
        ((List.replicate ((IntKind.wrap .i64 ((2 : Int) * (shl64 .i64 (1 : Int) (IntKind.wrap .u64 (IntKind.wrap .i64 (s.Cols - (1 : Int))))))).toNat) (0 : Int))[0]?).bind fun x =>
        (Loop (s_l10Vector_1_s publics privates (shl64 .i64 (1 : Int) (IntKind.wrap .u64 (IntKind.wrap .i64 (s.Cols - (1 : Int))))) s.Rows s.Cols s.Publics s.A s.B s.C) (((List.replicate ((IntKind.wrap .i64 ((2 : Int) * (shl64 .i64 (1 : Int) (IntKind.wrap .u64 (IntKind.wrap .i64 (s.Cols - (1 : Int))))))).toNat) (0 : Int)).set 0 (1 : Int)), (0 : Int))).bind fun e_ =>
        (Loop (s_l10Vector_2_s privates (shl64 .i64 (1 : Int) (IntKind.wrap .u64 (IntKind.wrap .i64 (s.Cols - (1 : Int))))) s.Rows s.Cols s.Publics s.A s.B s.C) (e_.1, (0 : Int))).bind fun e_2 =>
        some e_2.1) (
        none)) (
      none)) (
    none)
theorem s_l10Vector_c {s : System} {publics : (List Int)} {privates : (List Int)} {r : (List Int)} (h : s_l10Vector s publics privates = some r) : Call tab ow 241 [.agg [I s.Rows, I s.Cols, I s.Publics, sl eEntry s.A, sl eEntry s.B, sl eEntry s.C], sl eI publics, sl eI privates] [] = some (sl eI r, []) := by
  rw [run_s_l10Vector]
  unfold s_l10Vector at h
  simp +decide only [b_s_l10Vector, go_sem, reduceIte, Nat.reduceAdd]
  obtain ⟨hb, h⟩ := brg h
  refine br_t hb ?_
  obtain ⟨hb, h⟩ := brg h
  refine br_t hb ?_
  obtain ⟨hb, h⟩ := brg h
  refine br_t hb ?_
  obtain ⟨x, h1, h⟩ := bd h
  refine bind_some h1 ?_
  obtain ⟨e_, h1, h⟩ := bd h
  have h2 := s_l10Vector_1_l h1
  try simp only [List.length_set] at h2
  refine goR_of h2 ?_
  simp +decide only [go_sem, reduceIte, Nat.reduceAdd]
  obtain ⟨e_2, h1, h⟩ := bd h
  refine goR_of (s_l10Vector_2_l h1) ?_
  simp +decide only [go_sem, reduceIte, Nat.reduceAdd]
  obtain rfl := Option.some.inj h
  first | rfl | (simp only [List.length_set, go_sem]; done)
end
section
theorem s_l12Exts_k0 : ∀ k, repR 2001 k [I (0 : Int), I (0 : Int)] = rws eExt (List.replicate k (Ext.mk (0 : Int) (0 : Int))) := fun _ => repT eExt (Ext.mk (0 : Int) (0 : Int)) _ _
attribute [local go_sem] s_l12Exts_k0
noncomputable def s_l12Exts_1_s (list2 : List Int) : (List Ext) × Int → Option (((List Ext) × Int) ⊕ (((List Ext) × Int × Bool)))
  | (l, i) =>
    br (decide (i < ((list2.length : Nat) : Int))) (
      (atL list2 i).bind fun x =>
      (s_l02Of x).bind fun r_ =>
      br (decide (0 ≤ i)) (
        br (decide (i.toNat < l.length)) (
          (l[i.toNat]?).bind fun x2 =>
          some (.inl ((l.set i.toNat r_), (IntKind.wrap .i64 (i + (1 : Int)))))) (
          none)) (
        none)) (
      some (.inr (l, i, decide (i < ((list2.length : Nat) : Int)))))
theorem s_l12Exts_1_l {list2 : List Int} {l : List Ext} {i : Int} {e : ((List Ext) × Int × Bool)} (h : Loop (s_l12Exts_1_s list2) (l, i) = some e) : LoopX tab ow (.close [6006]) b_s_l12Exts_3 ⟨[(0, sl eI list2), (5, .sl 2001 0 l.length), (6, I i)], [(2001, ⟨2, false, rws eExt l⟩)]⟩ = some ((.exit 0, ⟨[(0, sl eI list2), (5, .sl 2001 0 e.1.length), (6, I e.2.1), (12, B e.2.2)], [(2001, ⟨2, false, rws eExt e.1⟩)]⟩)) := by
  refine loop_runG (S := (List Ext) × Int) (eS := fun s => ⟨[(0, sl eI list2), (5, .sl 2001 0 s.1.length), (6, I s.2)], [(2001, ⟨2, false, rws eExt s.1⟩)]⟩) (eE := fun e => (.exit 0, ⟨[(0, sl eI list2), (5, .sl 2001 0 e.1.length), (6, I e.2.1), (12, B e.2.2)], [(2001, ⟨2, false, rws eExt e.1⟩)]⟩)) (fun e => ?_) (fun s o h => ?_) h
  · simp [alt]
  · obtain ⟨l, i⟩ := s
    simp only [s_l12Exts_1_s] at h
    show Rn tab ow _ _ ⟨[(0, sl eI list2), (5, .sl 2001 0 l.length), (6, I i)], [(2001, ⟨2, false, rws eExt l⟩)]⟩ = _
    simp +decide only [b_s_l12Exts_3, go_sem, reduceIte, Nat.reduceAdd]
    rcases brc h with ⟨hb, h⟩ | ⟨hb, h⟩
    · refine br_t hb ?_
      obtain ⟨x, h1, h⟩ := bd h
      refine bind_some h1 ?_
      obtain ⟨r_, h1, h⟩ := bd h
      refine call_aft (s_l02Of_c h1) ?_
      simp +decide only [go_sem, reduceIte, Nat.reduceAdd]
      obtain ⟨hb, h⟩ := brg h
      refine br_t hb ?_
      obtain ⟨hb, h⟩ := brg h
      refine br_t hb ?_
      obtain ⟨x2, h1, h⟩ := bd h
      refine bind_some h1 ?_
      obtain rfl := Option.some.inj h
      first | rfl | (simp only [List.length_set, go_sem]; done)
    · refine br_f hb ?_
      obtain rfl := Option.some.inj h
      first | rfl | (simp only [List.length_set, go_sem]; done)
noncomputable def s_l12Exts (list : (List Int)) (n : Int) : Option ((List Ext)) :=
  br (mkOK n n 16) (
    (Loop (s_l12Exts_1_s list) ((List.replicate n.toNat (Ext.mk (0 : Int) (0 : Int))), (0 : Int))).bind fun e_ =>
    some e_.1) (
    none)
theorem s_l12Exts_c {list : (List Int)} {n : Int} {r : (List Ext)} (h : s_l12Exts list n = some r) : Call tab ow 240 [sl eI list, I n] [] = some (sl eExt r, []) := by
  rw [run_s_l12Exts]
  unfold s_l12Exts at h
  simp +decide only [b_s_l12Exts, go_sem, reduceIte, Nat.reduceAdd]
  obtain ⟨hb, h⟩ := brg h
  refine br_t hb ?_
  obtain ⟨e_, h1, h⟩ := bd h
  refine goR_of (s_l12Exts_1_l h1) ?_
  simp +decide only [go_sem, reduceIte, Nat.reduceAdd]
  obtain rfl := Option.some.inj h
  first | rfl | (simp only [List.length_set, go_sem]; done)
end
noncomputable def s_l06At_1_s (table2 : List Ext) (e_ : List Ext) (c : Int) (c2 : Int) : Int × Int × Int → Option ((Int × Int × Int) ⊕ ((Int × Bool × Int × Int)))
  | (i, c3, c4) =>
    br (decide (i < ((table2.length : Nat) : Int))) (
      (atL table2 i).bind fun x =>
      (atL e_ i).bind fun x2 =>
      (s_l02Mul x x2).bind fun r_2 =>
      (s_l02Add (Ext.mk c3 c4) r_2).bind fun r_3 =>
      some (.inl ((IntKind.wrap .i64 (i + (1 : Int))), r_3.A, r_3.B))) (
      some (.inr (i, decide (i < ((table2.length : Nat) : Int)), c3, c4)))
theorem s_l06At_1_l {table2 : List Ext} {e_ : List Ext} {c : Int} {c2 : Int} {i : Int} {c3 : Int} {c4 : Int} {e : (Int × Bool × Int × Int)} (h : Loop (s_l06At_1_s table2 e_ c c2) (i, c3, c4) = some e) : LoopX tab ow (.close [7009, 7010]) b_s_l06At_4 ⟨[(0, sl eExt table2), (4, .ptr 1000 0 0 1), (5, sl eExt e_), (6, .ptr 3001 0 0 1), (7, I i)], [(1000, ⟨2, true, [[I c, I c2]]⟩), (3001, ⟨2, true, [[I c3, I c4]]⟩)]⟩ = some ((.exit 0, ⟨[(0, sl eExt table2), (4, .ptr 1000 0 0 1), (5, sl eExt e_), (6, .ptr 3001 0 0 1), (7, I e.1), (14, B e.2.1)], [(1000, ⟨2, true, [[I c, I c2]]⟩), (3001, ⟨2, true, [[I e.2.2.1, I e.2.2.2]]⟩)]⟩)) := by
  refine loop_runG (S := Int × Int × Int) (eS := fun s => ⟨[(0, sl eExt table2), (4, .ptr 1000 0 0 1), (5, sl eExt e_), (6, .ptr 3001 0 0 1), (7, I s.1)], [(1000, ⟨2, true, [[I c, I c2]]⟩), (3001, ⟨2, true, [[I s.2.1, I s.2.2]]⟩)]⟩) (eE := fun e => (.exit 0, ⟨[(0, sl eExt table2), (4, .ptr 1000 0 0 1), (5, sl eExt e_), (6, .ptr 3001 0 0 1), (7, I e.1), (14, B e.2.1)], [(1000, ⟨2, true, [[I c, I c2]]⟩), (3001, ⟨2, true, [[I e.2.2.1, I e.2.2.2]]⟩)]⟩)) (fun e => ?_) (fun s o h => ?_) h
  · simp [alt]
  · obtain ⟨i, c3, c4⟩ := s
    simp only [s_l06At_1_s] at h
    show Rn tab ow _ _ ⟨[(0, sl eExt table2), (4, .ptr 1000 0 0 1), (5, sl eExt e_), (6, .ptr 3001 0 0 1), (7, I i)], [(1000, ⟨2, true, [[I c, I c2]]⟩), (3001, ⟨2, true, [[I c3, I c4]]⟩)]⟩ = _
    simp +decide only [b_s_l06At_4, go_sem, reduceIte, Nat.reduceAdd]
    rcases brc h with ⟨hb, h⟩ | ⟨hb, h⟩
    · refine br_t hb ?_
      obtain ⟨x, h1, h⟩ := bd h
      refine bind_some h1 ?_
      obtain ⟨x2, h1, h⟩ := bd h
      refine bind_some h1 ?_
      obtain ⟨r_2, h1, h⟩ := bd h
      refine call_aftD (s_l02Mul_c h1) ?_
      simp +decide only [go_sem, reduceIte, Nat.reduceAdd]
      obtain ⟨r_3, h1, h⟩ := bd h
      refine call_aftD (s_l02Add_c h1) ?_
      simp +decide only [go_sem, reduceIte, Nat.reduceAdd]
      obtain rfl := Option.some.inj h
      first | rfl | (simp only [List.length_set, go_sem]; done)
    · refine br_f hb ?_
      obtain rfl := Option.some.inj h
      first | rfl | (simp only [List.length_set, go_sem]; done)
noncomputable def s_l06At (table : (List Ext)) (point : (List Ext)) : Option (Ext) :=
  (s_l06Eq point).bind fun r_ =>
  (Loop (s_l06At_1_s table r_ (0 : Int) (0 : Int)) ((0 : Int), (0 : Int), (0 : Int))).bind fun e_2 =>
  some (Ext.mk e_2.2.2.1 e_2.2.2.2)
theorem s_l06At_c {table : (List Ext)} {point : (List Ext)} {r : Ext} (h : s_l06At table point = some r) : Call tab ow 239 [sl eExt table, sl eExt point] [] = some (.agg [I r.A, I r.B], []) := by
  rw [run_s_l06At]
  unfold s_l06At at h
  simp +decide only [b_s_l06At, go_sem, reduceIte, Nat.reduceAdd]
  obtain ⟨r_, h1, h⟩ := bd h
  refine call_aft (s_l06Eq_c h1) ?_
  simp +decide only [go_sem, reduceIte, Nat.reduceAdd]
  obtain ⟨e_2, h1, h⟩ := bd h
  refine goR_of (s_l06At_1_l h1) ?_
  simp +decide only [go_sem, reduceIte, Nat.reduceAdd]
  obtain rfl := Option.some.inj h
  first | rfl | (simp only [List.length_set, go_sem]; done)
section
theorem s_l13Public_k0 : mkR 2002 [] = rws eI [] := rfl
attribute [local go_sem] s_l13Public_k0
noncomputable def s_l13Public (s : System) (publics : (List Int)) (point : (List Ext)) : Option (Ext) :=
  (s_l10Vector s publics ([] : List Int)).bind fun r_ =>
  br (decide (0 ≤ (IntKind.wrap .u64 (IntKind.wrap .i64 (s.Cols - (1 : Int)))))) (
    (subL r_ (0 : Int) (shl64 .i64 (1 : Int) (IntKind.wrap .u64 (IntKind.wrap .i64 (s.Cols - (1 : Int)))))).bind fun y =>
    br (decide (0 ≤ (IntKind.wrap .u64 (IntKind.wrap .i64 (s.Cols - (1 : Int)))))) (
      (s_l12Exts y (shl64 .i64 (1 : Int) (IntKind.wrap .u64 (IntKind.wrap .i64 (s.Cols - (1 : Int)))))).bind fun r_2 =>
      (s_l06At r_2 point).bind fun r_3 =>
      some r_3) (
      none)) (
    none)
theorem s_l13Public_c {s : System} {publics : (List Int)} {point : (List Ext)} {r : Ext} (h : s_l13Public s publics point = some r) : Call tab ow 154 [.agg [I s.Rows, I s.Cols, I s.Publics, sl eEntry s.A, sl eEntry s.B, sl eEntry s.C], sl eI publics, sl eExt point] [] = some (.agg [I r.A, I r.B], []) := by
  rw [run_s_l13Public]
  unfold s_l13Public at h
  simp +decide only [b_s_l13Public, go_sem, reduceIte, Nat.reduceAdd]
  obtain ⟨r_, h1, h⟩ := bd h
  refine call_aftD (s_l10Vector_c h1) ?_
  simp +decide only [go_sem, reduceIte, Nat.reduceAdd]
  obtain ⟨hb, h⟩ := brg h
  refine br_t hb ?_
  obtain ⟨y, h1, h⟩ := bd h
  refine bind_some h1 ?_
  obtain ⟨hb, h⟩ := brg h
  refine br_t hb ?_
  obtain ⟨r_2, h1, h⟩ := bd h
  refine call_aftD (s_l12Exts_c h1) ?_
  simp +decide only [go_sem, reduceIte, Nat.reduceAdd]
  obtain ⟨r_3, h1, h⟩ := bd h
  refine call_aftD (s_l06At_c h1) ?_
  simp +decide only [go_sem, reduceIte, Nat.reduceAdd]
  obtain rfl := Option.some.inj h
  first | rfl | (simp only [List.length_set, go_sem]; done)
end
noncomputable def s_PublicAt (s : System) (publics : (List Int)) (point : (List Ext)) : Option (Ext × Int) :=
  br (decide (((publics.length : Nat) : Int) > (4096 : Int))) (
    some ((Ext.mk (0 : Int) (0 : Int)), (2 : Int))) (
    br (decide (((point.length : Nat) : Int) > (4096 : Int))) (
      some ((Ext.mk (0 : Int) (0 : Int)), (2 : Int))) (
      (s_SystemOK s).bind fun r_ =>
      br (!r_) (
        some ((Ext.mk (0 : Int) (0 : Int)), (1 : Int))) (
        (s_l10Fields publics).bind fun r_2 =>
        br (!r_2) (
          some ((Ext.mk (0 : Int) (0 : Int)), (1 : Int))) (
          (s_l02List point).bind fun r_3 =>
          br (!r_3) (
            some ((Ext.mk (0 : Int) (0 : Int)), (1 : Int))) (
            br (((publics.length : Nat) : Int) != s.Publics) (
              some ((Ext.mk (0 : Int) (0 : Int)), (8 : Int))) (
              br (((point.length : Nat) : Int) != (IntKind.wrap .i64 (s.Cols - (1 : Int)))) (
                some ((Ext.mk (0 : Int) (0 : Int)), (8 : Int))) (
                (s_l13Public s publics point).bind fun r_4 =>
                some (r_4, (0 : Int)))))))))
theorem s_PublicAt_c {s : System} {publics : (List Int)} {point : (List Ext)} {r : Ext × Int} (h : s_PublicAt s publics point = some r) : Call tab ow 60 [.agg [I s.Rows, I s.Cols, I s.Publics, sl eEntry s.A, sl eEntry s.B, sl eEntry s.C], sl eI publics, sl eExt point] [] = some (.tup [.agg [I r.1.A, I r.1.B], I r.2], []) := by
  rw [run_s_PublicAt]
  unfold s_PublicAt at h
  simp +decide only [b_s_PublicAt, go_sem, reduceIte, Nat.reduceAdd]
  rcases brc h with ⟨hb, h⟩ | ⟨hb, h⟩
  · refine br_t hb ?_
    obtain rfl := Option.some.inj h
    first | rfl | (simp only [List.length_set, go_sem]; done)
  · refine br_f hb ?_
    rcases brc h with ⟨hb, h⟩ | ⟨hb, h⟩
    · refine br_t hb ?_
      obtain rfl := Option.some.inj h
      first | rfl | (simp only [List.length_set, go_sem]; done)
    · refine br_f hb ?_
      obtain ⟨r_, h1, h⟩ := bd h
      refine call_aft (s_SystemOK_c h1) ?_
      simp +decide only [go_sem, reduceIte, Nat.reduceAdd]
      rcases brc h with ⟨hb, h⟩ | ⟨hb, h⟩
      · refine br_t hb ?_
        obtain rfl := Option.some.inj h
        first | rfl | (simp only [List.length_set, go_sem]; done)
      · refine br_f hb ?_
        obtain ⟨r_2, h1, h⟩ := bd h
        refine call_aft (s_l10Fields_c h1) ?_
        simp +decide only [go_sem, reduceIte, Nat.reduceAdd]
        rcases brc h with ⟨hb, h⟩ | ⟨hb, h⟩
        · refine br_t hb ?_
          obtain rfl := Option.some.inj h
          first | rfl | (simp only [List.length_set, go_sem]; done)
        · refine br_f hb ?_
          obtain ⟨r_3, h1, h⟩ := bd h
          refine call_aft (s_l02List_c h1) ?_
          simp +decide only [go_sem, reduceIte, Nat.reduceAdd]
          rcases brc h with ⟨hb, h⟩ | ⟨hb, h⟩
          · refine br_t hb ?_
            obtain rfl := Option.some.inj h
            first | rfl | (simp only [List.length_set, go_sem]; done)
          · refine br_f hb ?_
            rcases brc h with ⟨hb, h⟩ | ⟨hb, h⟩
            · refine br_t hb ?_
              obtain rfl := Option.some.inj h
              first | rfl | (simp only [List.length_set, go_sem]; done)
            · refine br_f hb ?_
              rcases brc h with ⟨hb, h⟩ | ⟨hb, h⟩
              · refine br_t hb ?_
                obtain rfl := Option.some.inj h
                first | rfl | (simp only [List.length_set, go_sem]; done)
              · refine br_f hb ?_
                obtain ⟨r_4, h1, h⟩ := bd h
                refine call_aft (s_l13Public_c h1) ?_
                simp +decide only [go_sem, reduceIte, Nat.reduceAdd]
                obtain rfl := Option.some.inj h
                first | rfl | (simp only [List.length_set, go_sem]; done)
noncomputable def w_eqIntS_1_s (a2 : List Int) (b2 : List Int) : Int → Option ((Int) ⊕ (Unit ⊕ (Int × Bool)))
  | i =>
    br (decide (i < ((a2.length : Nat) : Int))) (
      (atL a2 i).bind fun x =>
      (atL b2 i).bind fun x2 =>
      br (x != x2) (
        some (.inr (.inl ()))) (
        some (.inl (IntKind.wrap .i64 (i + (1 : Int)))))) (
      some (.inr (.inr (i, decide (i < ((a2.length : Nat) : Int))))))
theorem w_eqIntS_1_l {a2 : List Int} {b2 : List Int} {i : Int} {e : Unit ⊕ (Int × Bool)} (h : Loop (w_eqIntS_1_s a2 b2) i = some e) : LoopX tab ow (.close []) b_w_eqIntS_4 ⟨[(0, sl eI a2), (1, sl eI b2), (5, I i)], []⟩ = some ((alt (fun e => ((.ret, ⟨[(4, B false)], []⟩) : AExit × St)) (fun e => (.exit 0, ⟨[(0, sl eI a2), (1, sl eI b2), (5, I e.1), (14, B e.2)], []⟩))) e) := by
  refine loop_runG (S := Int) (eS := fun s => ⟨[(0, sl eI a2), (1, sl eI b2), (5, I s)], []⟩) (eE := fun e => (alt (fun e => ((.ret, ⟨[(4, B false)], []⟩) : AExit × St)) (fun e => (.exit 0, ⟨[(0, sl eI a2), (1, sl eI b2), (5, I e.1), (14, B e.2)], []⟩))) e) (fun e => ?_) (fun i o h => ?_) h
  · rcases e with e | e <;> simp [alt]
  · skip
    simp only [w_eqIntS_1_s] at h
    show Rn tab ow _ _ ⟨[(0, sl eI a2), (1, sl eI b2), (5, I i)], []⟩ = _
    simp +decide only [b_w_eqIntS_4, go_sem, reduceIte, Nat.reduceAdd]
    rcases brc h with ⟨hb, h⟩ | ⟨hb, h⟩
    · refine br_t hb ?_
      obtain ⟨x, h1, h⟩ := bd h
      refine bind_some h1 ?_
      obtain ⟨x2, h1, h⟩ := bd h
      refine bind_some h1 ?_
      rcases brc h with ⟨hb, h⟩ | ⟨hb, h⟩
      · refine br_t hb ?_
        obtain rfl := Option.some.inj h
        first | rfl | (simp only [List.length_set, go_sem]; done)
      · refine br_f hb ?_
        obtain rfl := Option.some.inj h
        first | rfl | (simp only [List.length_set, go_sem]; done)
    · refine br_f hb ?_
      obtain rfl := Option.some.inj h
      first | rfl | (simp only [List.length_set, go_sem]; done)
noncomputable def w_eqIntS (a : (List Int)) (b : (List Int)) : Option (Bool) :=
  br (((a.length : Nat) : Int) != ((b.length : Nat) : Int)) (
    some false) (
    (Loop (w_eqIntS_1_s a b) (0 : Int)).bind (alt (fun e_2 =>
      some false) (fun e_3 =>
      some true)))
theorem w_eqIntS_c {a : (List Int)} {b : (List Int)} {r : Bool} (h : w_eqIntS a b = some r) : Call tab ow 63 [sl eI a, sl eI b] [] = some (B r, []) := by
  rw [run_w_eqIntS]
  unfold w_eqIntS at h
  simp +decide only [b_w_eqIntS, go_sem, reduceIte, Nat.reduceAdd]
  rcases brc h with ⟨hb, h⟩ | ⟨hb, h⟩
  · refine br_t hb ?_
    obtain rfl := Option.some.inj h
    first | rfl | (simp only [List.length_set, go_sem]; done)
  · refine br_f hb ?_
    obtain ⟨e_, h1, h⟩ := bd h
    refine goR_of (w_eqIntS_1_l h1) ?_
    rcases e_ with e_2 | e_3
    · simp +decide only [go_sem, reduceIte, Nat.reduceAdd]
      obtain rfl := Option.some.inj h
      first | rfl | (simp only [List.length_set, go_sem]; done)
    · simp +decide only [go_sem, reduceIte, Nat.reduceAdd]
      obtain rfl := Option.some.inj h
      first | rfl | (simp only [List.length_set, go_sem]; done)
noncomputable def w_FnExactPublicAt (ListtoArray : System) (a : (List Int)) (a2 : (List Ext)) : Option (Bool) :=
  br (decide (((a.length : Nat) : Int) > (1048576 : Int))) (
    some true) (
    (w_szSystem ListtoArray (1048576 : Int)).bind fun r_ =>
    br (decide (r_ < (0 : Int))) (
      some true) (
      (w_szExtS a2 r_).bind fun r_2 =>
      br (decide (r_2 < (0 : Int))) (
        some true) (
        (w_toSystem ListtoArray).bind fun r_3 =>
        (w_toIntS a).bind fun r_4 =>
        (w_toExtS a2).bind fun r_5 =>
        (s_PublicAt r_3 r_4 r_5).bind fun r_6 =>
        (w_toSystem ListtoArray).bind fun r_7 =>
        (w_toIntS a).bind fun r_8 =>
        (w_toExtS a2).bind fun r_9 =>
        (i_PublicAt r_7 r_8 r_9).bind fun r_10 =>
        (w_eqExt r_10.1 r_6.1).bind fun r_11 =>
        br (!r_11) (
          some false) (
          br (r_10.2 != r_6.2) (
            some false) (
            (w_toSystem ListtoArray).bind fun r_12 =>
            (w_eqSystem r_7 r_12).bind fun r_13 =>
            br (!r_13) (
              some false) (
              (w_toIntS a).bind fun r_14 =>
              (w_eqIntS r_8 r_14).bind fun r_15 =>
              br (!r_15) (
                some false) (
                (w_toExtS a2).bind fun r_16 =>
                (w_eqExtS r_9 r_16).bind fun r_17 =>
                br (!r_17) (
                  some false) (
                  some true))))))))
theorem w_FnExactPublicAt_c {ListtoArray : System} {a : (List Int)} {a2 : (List Ext)} {r : Bool} (h : w_FnExactPublicAt ListtoArray a a2 = some r) : Call tab ow 10 [.agg [I ListtoArray.Rows, I ListtoArray.Cols, I ListtoArray.Publics, sl eEntry ListtoArray.A, sl eEntry ListtoArray.B, sl eEntry ListtoArray.C], sl eI a, sl eExt a2] [] = some (B r, []) := by
  rw [run_w_FnExactPublicAt]
  unfold w_FnExactPublicAt at h
  simp +decide only [b_w_FnExactPublicAt, go_sem, reduceIte, Nat.reduceAdd]
  rcases brc h with ⟨hb, h⟩ | ⟨hb, h⟩
  · refine br_t hb ?_
    obtain rfl := Option.some.inj h
    first | rfl | (simp only [List.length_set, go_sem]; done)
  · refine br_f hb ?_
    obtain ⟨r_, h1, h⟩ := bd h
    refine call_aft (w_szSystem_c h1) ?_
    simp +decide only [go_sem, reduceIte, Nat.reduceAdd]
    rcases brc h with ⟨hb, h⟩ | ⟨hb, h⟩
    · refine br_t hb ?_
      obtain rfl := Option.some.inj h
      first | rfl | (simp only [List.length_set, go_sem]; done)
    · refine br_f hb ?_
      obtain ⟨r_2, h1, h⟩ := bd h
      refine call_aft (w_szExtS_c h1) ?_
      simp +decide only [go_sem, reduceIte, Nat.reduceAdd]
      rcases brc h with ⟨hb, h⟩ | ⟨hb, h⟩
      · refine br_t hb ?_
        obtain rfl := Option.some.inj h
        first | rfl | (simp only [List.length_set, go_sem]; done)
      · refine br_f hb ?_
        obtain ⟨r_3, h1, h⟩ := bd h
        refine call_aft (w_toSystem_c h1) ?_
        simp +decide only [go_sem, reduceIte, Nat.reduceAdd]
        obtain ⟨r_4, h1, h⟩ := bd h
        refine call_aft (w_toIntS_c h1) ?_
        simp +decide only [go_sem, reduceIte, Nat.reduceAdd]
        obtain ⟨r_5, h1, h⟩ := bd h
        refine call_aft (w_toExtS_c h1) ?_
        simp +decide only [go_sem, reduceIte, Nat.reduceAdd]
        obtain ⟨r_6, h1, h⟩ := bd h
        refine call_aft (s_PublicAt_c h1) ?_
        simp +decide only [go_sem, reduceIte, Nat.reduceAdd]
        obtain ⟨r_7, h1, h⟩ := bd h
        refine call_aft (w_toSystem_c h1) ?_
        simp +decide only [go_sem, reduceIte, Nat.reduceAdd]
        obtain ⟨r_8, h1, h⟩ := bd h
        refine call_aft (w_toIntS_c h1) ?_
        simp +decide only [go_sem, reduceIte, Nat.reduceAdd]
        obtain ⟨r_9, h1, h⟩ := bd h
        refine call_aft (w_toExtS_c h1) ?_
        simp +decide only [go_sem, reduceIte, Nat.reduceAdd]
        obtain ⟨r_10, h1, h⟩ := bd h
        refine call_aft (i_PublicAt_c h1) ?_
        simp +decide only [go_sem, reduceIte, Nat.reduceAdd]
        obtain ⟨r_11, h1, h⟩ := bd h
        refine call_aft (w_eqExt_c h1) ?_
        simp +decide only [go_sem, reduceIte, Nat.reduceAdd]
        rcases brc h with ⟨hb, h⟩ | ⟨hb, h⟩
        · refine br_t hb ?_
          obtain rfl := Option.some.inj h
          first | rfl | (simp only [List.length_set, go_sem]; done)
        · refine br_f hb ?_
          rcases brc h with ⟨hb, h⟩ | ⟨hb, h⟩
          · refine br_t hb ?_
            obtain rfl := Option.some.inj h
            first | rfl | (simp only [List.length_set, go_sem]; done)
          · refine br_f hb ?_
            obtain ⟨r_12, h1, h⟩ := bd h
            refine call_aftD (w_toSystem_c h1) ?_
            simp +decide only [go_sem, reduceIte, Nat.reduceAdd]
            obtain ⟨r_13, h1, h⟩ := bd h
            refine call_aftD (w_eqSystem_c h1) ?_
            simp +decide only [go_sem, reduceIte, Nat.reduceAdd]
            rcases brc h with ⟨hb, h⟩ | ⟨hb, h⟩
            · refine br_t hb ?_
              obtain rfl := Option.some.inj h
              first | rfl | (simp only [List.length_set, go_sem]; done)
            · refine br_f hb ?_
              obtain ⟨r_14, h1, h⟩ := bd h
              refine call_aft (w_toIntS_c h1) ?_
              simp +decide only [go_sem, reduceIte, Nat.reduceAdd]
              obtain ⟨r_15, h1, h⟩ := bd h
              refine call_aft (w_eqIntS_c h1) ?_
              simp +decide only [go_sem, reduceIte, Nat.reduceAdd]
              rcases brc h with ⟨hb, h⟩ | ⟨hb, h⟩
              · refine br_t hb ?_
                obtain rfl := Option.some.inj h
                first | rfl | (simp only [List.length_set, go_sem]; done)
              · refine br_f hb ?_
                obtain ⟨r_16, h1, h⟩ := bd h
                refine call_aft (w_toExtS_c h1) ?_
                simp +decide only [go_sem, reduceIte, Nat.reduceAdd]
                obtain ⟨r_17, h1, h⟩ := bd h
                refine call_aft (w_eqExtS_c h1) ?_
                simp +decide only [go_sem, reduceIte, Nat.reduceAdd]
                rcases brc h with ⟨hb, h⟩ | ⟨hb, h⟩
                · refine br_t hb ?_
                  obtain rfl := Option.some.inj h
                  first | rfl | (simp only [List.length_set, go_sem]; done)
                · refine br_f hb ?_
                  obtain rfl := Option.some.inj h
                  first | rfl | (simp only [List.length_set, go_sem]; done)
end Go.AI.Fn

