/- Walks through the program, with open values. -/
import Derived.Test.YtjeihkabobjlbaaFn1
set_option linter.unusedVariables false
set_option linter.unusedSimpArgs false
set_option maxRecDepth 100000
set_option maxHeartbeats 1000000
namespace Go.AI.Fn
noncomputable def w_toSystem (a : System) : Option (System) :=
  (w_toEntryS a.A).bind fun r_ =>
  (w_toEntryS a.B).bind fun r_2 =>
  (w_toEntryS a.C).bind fun r_3 =>
  some (System.mk a.Rows a.Cols a.Publics r_ r_2 r_3)
theorem w_toSystem_c {a : System} {r : System} (h : w_toSystem a = some r) : Call tab ow 25 [.agg [I a.Rows, I a.Cols, I a.Publics, sl eEntry a.A, sl eEntry a.B, sl eEntry a.C]] [] = some (.agg [I r.Rows, I r.Cols, I r.Publics, sl eEntry r.A, sl eEntry r.B, sl eEntry r.C], []) := by
  rw [run_w_toSystem]
  unfold w_toSystem at h
  simp +decide only [b_w_toSystem, go_sem, reduceIte, Nat.reduceAdd]
  obtain ⟨r_, h1, h⟩ := bd h
  refine call_aft (w_toEntryS_c h1) ?_
  simp +decide only [go_sem, reduceIte, Nat.reduceAdd]
  obtain ⟨r_2, h1, h⟩ := bd h
  refine call_aft (w_toEntryS_c h1) ?_
  simp +decide only [go_sem, reduceIte, Nat.reduceAdd]
  obtain ⟨r_3, h1, h⟩ := bd h
  refine call_aft (w_toEntryS_c h1) ?_
  simp +decide only [go_sem, reduceIte, Nat.reduceAdd]
  obtain rfl := Option.some.inj h
  first | rfl | (simp only [List.length_set, go_sem]; done)
noncomputable def w_toSetting (a : Setting) : Option (Setting) :=
  some a
theorem w_toSetting_c {a : Setting} {r : Setting} (h : w_toSetting a = some r) : Call tab ow 11 [.agg [I a.Rate, I a.Queries, I a.Grind]] [] = some (.agg [I r.Rate, I r.Queries, I r.Grind], []) := by
  rw [run_w_toSetting]
  unfold w_toSetting at h
  simp +decide only [b_w_toSetting, go_sem, reduceIte, Nat.reduceAdd]
  obtain rfl := Option.some.inj h
  first | rfl | (simp only [List.length_set, go_sem]; done)
noncomputable def s_l09Size_1_s (vars2 : Int) (c : Int) (c2 : Int) (c3 : Int) : Int × Int → Option ((Int × Int) ⊕ ((Int × Int × Bool)))
  | (hashes, j) =>
    br (decide (j < vars2)) (
      some (.inl ((IntKind.wrap .i64 (hashes + (IntKind.wrap .i64 ((IntKind.wrap .i64 ((IntKind.wrap .i64 (vars2 + c)) - (1 : Int))) - j)))), (IntKind.wrap .i64 (j + (1 : Int)))))) (
      some (.inr (hashes, j, decide (j < vars2))))
theorem s_l09Size_1_l {vars2 : Int} {c : Int} {c2 : Int} {c3 : Int} {hashes : Int} {j : Int} {e : (Int × Int × Bool)} (h : Loop (s_l09Size_1_s vars2 c c2 c3) (hashes, j) = some e) : LoopX tab ow (.close []) b_s_l09Size_3 ⟨[(0, I vars2), (3, .ptr 1000 0 0 1), (5, I hashes), (6, I j)], [(1000, ⟨3, true, [[I c, I c2, I c3]]⟩)]⟩ = some ((.exit 0, ⟨[(0, I vars2), (3, .ptr 1000 0 0 1), (5, I e.1), (6, I e.2.1), (9, B e.2.2)], [(1000, ⟨3, true, [[I c, I c2, I c3]]⟩)]⟩)) := by
  refine loop_runG (S := Int × Int) (eS := fun s => ⟨[(0, I vars2), (3, .ptr 1000 0 0 1), (5, I s.1), (6, I s.2)], [(1000, ⟨3, true, [[I c, I c2, I c3]]⟩)]⟩) (eE := fun e => (.exit 0, ⟨[(0, I vars2), (3, .ptr 1000 0 0 1), (5, I e.1), (6, I e.2.1), (9, B e.2.2)], [(1000, ⟨3, true, [[I c, I c2, I c3]]⟩)]⟩)) (fun e => ?_) (fun s o h => ?_) h
  · simp [alt]
  · obtain ⟨hashes, j⟩ := s
    simp only [s_l09Size_1_s] at h
    show Rn tab ow _ _ ⟨[(0, I vars2), (3, .ptr 1000 0 0 1), (5, I hashes), (6, I j)], [(1000, ⟨3, true, [[I c, I c2, I c3]]⟩)]⟩ = _
    simp +decide only [b_s_l09Size_3, go_sem, reduceIte, Nat.reduceAdd]
    rcases brc h with ⟨hb, h⟩ | ⟨hb, h⟩
    · refine br_t hb ?_
      obtain rfl := Option.some.inj h
      first | rfl | (simp only [List.length_set, go_sem]; done)
    · refine br_f hb ?_
      obtain rfl := Option.some.inj h
      first | rfl | (simp only [List.length_set, go_sem]; done)
noncomputable def s_l09Size (vars : Int) (t : Setting) : Option (Int) :=
  (Loop (s_l09Size_1_s vars t.Rate t.Queries t.Grind) ((0 : Int), (0 : Int))).bind fun e_ =>
  some (IntKind.wrap .i64 ((IntKind.wrap .i64 ((IntKind.wrap .i64 ((IntKind.wrap .i64 ((IntKind.wrap .i64 ((24 : Int) * vars)) + (IntKind.wrap .i64 ((32 : Int) * (IntKind.wrap .i64 (vars - (1 : Int))))))) + (8 : Int))) + (4 : Int))) + (IntKind.wrap .i64 (t.Queries * (IntKind.wrap .i64 ((IntKind.wrap .i64 ((16 : Int) * vars)) + (IntKind.wrap .i64 ((32 : Int) * e_.1))))))))
theorem s_l09Size_c {vars : Int} {t : Setting} {r : Int} (h : s_l09Size vars t = some r) : Call tab ow 57 [I vars, .agg [I t.Rate, I t.Queries, I t.Grind]] [] = some (I r, []) := by
  rw [run_s_l09Size]
  unfold s_l09Size at h
  simp +decide only [b_s_l09Size, go_sem, reduceIte, Nat.reduceAdd]
  obtain ⟨e_, h1, h⟩ := bd h
  refine goR_of (s_l09Size_1_l h1) ?_
  simp +decide only [go_sem, reduceIte, Nat.reduceAdd]
  obtain rfl := Option.some.inj h
  first | rfl | (simp only [List.length_set, go_sem]; done)
noncomputable def s_l14Size (s : System) (t : Setting) : Option (Int) :=
  (s_l09Size (IntKind.wrap .i64 (s.Cols - (1 : Int))) t).bind fun r_ =>
  some (IntKind.wrap .i64 ((IntKind.wrap .i64 ((IntKind.wrap .i64 ((IntKind.wrap .i64 ((IntKind.wrap .i64 ((32 : Int) + (IntKind.wrap .i64 ((32 : Int) * s.Rows)))) + (24 : Int))) + (IntKind.wrap .i64 ((24 : Int) * s.Cols)))) + (8 : Int))) + r_))
theorem s_l14Size_c {s : System} {t : Setting} {r : Int} (h : s_l14Size s t = some r) : Call tab ow 42 [.agg [I s.Rows, I s.Cols, I s.Publics, sl eEntry s.A, sl eEntry s.B, sl eEntry s.C], .agg [I t.Rate, I t.Queries, I t.Grind]] [] = some (I r, []) := by
  rw [run_s_l14Size]
  unfold s_l14Size at h
  simp +decide only [b_s_l14Size, go_sem, reduceIte, Nat.reduceAdd]
  obtain ⟨r_, h1, h⟩ := bd h
  refine call_aftD (s_l09Size_c h1) ?_
  simp +decide only [go_sem, reduceIte, Nat.reduceAdd]
  obtain rfl := Option.some.inj h
  first | rfl | (simp only [List.length_set, go_sem]; done)
noncomputable def s_ProofSize (s : System) (t : Setting) : Option (Int × Int) :=
  (s_SystemOK s).bind fun r_ =>
  br (!r_) (
    some ((0 : Int), (1 : Int))) (
    (s_SettingOK t).bind fun r_2 =>
    br (!r_2) (
      some ((0 : Int), (1 : Int))) (
      (s_l14Size s t).bind fun r_3 =>
      some (r_3, (0 : Int))))
theorem s_ProofSize_c {s : System} {t : Setting} {r : Int × Int} (h : s_ProofSize s t = some r) : Call tab ow 24 [.agg [I s.Rows, I s.Cols, I s.Publics, sl eEntry s.A, sl eEntry s.B, sl eEntry s.C], .agg [I t.Rate, I t.Queries, I t.Grind]] [] = some (.tup [I r.1, I r.2], []) := by
  rw [run_s_ProofSize]
  unfold s_ProofSize at h
  simp +decide only [b_s_ProofSize, go_sem, reduceIte, Nat.reduceAdd]
  obtain ⟨r_, h1, h⟩ := bd h
  refine call_aft (s_SystemOK_c h1) ?_
  simp +decide only [go_sem, reduceIte, Nat.reduceAdd]
  rcases brc h with ⟨hb, h⟩ | ⟨hb, h⟩
  · refine br_t hb ?_
    obtain rfl := Option.some.inj h
    first | rfl | (simp only [List.length_set, go_sem]; done)
  · refine br_f hb ?_
    obtain ⟨r_2, h1, h⟩ := bd h
    refine call_aft (s_SettingOK_c h1) ?_
    simp +decide only [go_sem, reduceIte, Nat.reduceAdd]
    rcases brc h with ⟨hb, h⟩ | ⟨hb, h⟩
    · refine br_t hb ?_
      obtain rfl := Option.some.inj h
      first | rfl | (simp only [List.length_set, go_sem]; done)
    · refine br_f hb ?_
      obtain ⟨r_3, h1, h⟩ := bd h
      refine call_aft (s_l14Size_c h1) ?_
      simp +decide only [go_sem, reduceIte, Nat.reduceAdd]
      obtain rfl := Option.some.inj h
      first | rfl | (simp only [List.length_set, go_sem]; done)
noncomputable def i_openingSize_1_s (vars2 : Int) (t2 : Int) (c : Int) (c2 : Int) (c3 : Int) : Int × Int → Option ((Int × Int) ⊕ ((Int × Int × Bool)))
  | (hashes, t3) =>
    br (decide (t3 < t2)) (
      some (.inl ((IntKind.wrap .i64 (hashes + (IntKind.wrap .i64 ((IntKind.wrap .i64 ((IntKind.wrap .i64 (vars2 + c)) - (1 : Int))) - t3)))), (IntKind.wrap .i64 (t3 + (1 : Int)))))) (
      some (.inr (hashes, t3, decide (t3 < t2))))
theorem i_openingSize_1_l {vars2 : Int} {t2 : Int} {c : Int} {c2 : Int} {c3 : Int} {hashes : Int} {t3 : Int} {e : (Int × Int × Bool)} (h : Loop (i_openingSize_1_s vars2 t2 c c2 c3) (hashes, t3) = some e) : LoopX tab ow (.close []) b_i_openingSize_3 ⟨[(0, I vars2), (3, .ptr 1000 0 0 1), (5, I hashes), (7, I t2), (8, I t3)], [(1000, ⟨3, true, [[I c, I c2, I c3]]⟩)]⟩ = some ((.exit 0, ⟨[(0, I vars2), (3, .ptr 1000 0 0 1), (5, I e.1), (7, I t2), (8, I e.2.1), (9, B e.2.2)], [(1000, ⟨3, true, [[I c, I c2, I c3]]⟩)]⟩)) := by
  refine loop_runG (S := Int × Int) (eS := fun s => ⟨[(0, I vars2), (3, .ptr 1000 0 0 1), (5, I s.1), (7, I t2), (8, I s.2)], [(1000, ⟨3, true, [[I c, I c2, I c3]]⟩)]⟩) (eE := fun e => (.exit 0, ⟨[(0, I vars2), (3, .ptr 1000 0 0 1), (5, I e.1), (7, I t2), (8, I e.2.1), (9, B e.2.2)], [(1000, ⟨3, true, [[I c, I c2, I c3]]⟩)]⟩)) (fun e => ?_) (fun s o h => ?_) h
  · simp [alt]
  · obtain ⟨hashes, t3⟩ := s
    simp only [i_openingSize_1_s] at h
    show Rn tab ow _ _ ⟨[(0, I vars2), (3, .ptr 1000 0 0 1), (5, I hashes), (7, I t2), (8, I t3)], [(1000, ⟨3, true, [[I c, I c2, I c3]]⟩)]⟩ = _
    simp +decide only [b_i_openingSize_3, go_sem, reduceIte, Nat.reduceAdd]
    rcases brc h with ⟨hb, h⟩ | ⟨hb, h⟩
    · refine br_t hb ?_
      obtain rfl := Option.some.inj h
      first | rfl | (simp only [List.length_set, go_sem]; done)
    · refine br_f hb ?_
      obtain rfl := Option.some.inj h
      first | rfl | (simp only [List.length_set, go_sem]; done)
noncomputable def i_openingSize (vars : Int) (t : Setting) : Option (Int) :=
  (Loop (i_openingSize_1_s vars vars t.Rate t.Queries t.Grind) ((0 : Int), (0 : Int))).bind fun e_ =>
  some (IntKind.wrap .i64 ((IntKind.wrap .i64 ((IntKind.wrap .i64 ((IntKind.wrap .i64 ((IntKind.wrap .i64 ((24 : Int) * vars)) + (IntKind.wrap .i64 ((32 : Int) * (IntKind.wrap .i64 (vars - (1 : Int))))))) + (8 : Int))) + (4 : Int))) + (IntKind.wrap .i64 (t.Queries * (IntKind.wrap .i64 ((IntKind.wrap .i64 ((16 : Int) * vars)) + (IntKind.wrap .i64 ((32 : Int) * e_.1))))))))
theorem i_openingSize_c {vars : Int} {t : Setting} {r : Int} (h : i_openingSize vars t = some r) : Call tab ow 59 [I vars, .agg [I t.Rate, I t.Queries, I t.Grind]] [] = some (I r, []) := by
  rw [run_i_openingSize]
  unfold i_openingSize at h
  simp +decide only [b_i_openingSize, go_sem, reduceIte, Nat.reduceAdd]
  obtain ⟨e_, h1, h⟩ := bd h
  refine goR_of (i_openingSize_1_l h1) ?_
  simp +decide only [go_sem, reduceIte, Nat.reduceAdd]
  obtain rfl := Option.some.inj h
  first | rfl | (simp only [List.length_set, go_sem]; done)
noncomputable def i_proofSize (s : System) (t : Setting) : Option (Int) :=
  (i_openingSize (IntKind.wrap .i64 (s.Cols - (1 : Int))) t).bind fun r_ =>
  some (IntKind.wrap .i64 ((IntKind.wrap .i64 ((IntKind.wrap .i64 ((IntKind.wrap .i64 ((IntKind.wrap .i64 ((32 : Int) + (IntKind.wrap .i64 ((32 : Int) * s.Rows)))) + (24 : Int))) + (IntKind.wrap .i64 ((24 : Int) * s.Cols)))) + (8 : Int))) + r_))
theorem i_proofSize_c {s : System} {t : Setting} {r : Int} (h : i_proofSize s t = some r) : Call tab ow 44 [.agg [I s.Rows, I s.Cols, I s.Publics, sl eEntry s.A, sl eEntry s.B, sl eEntry s.C], .agg [I t.Rate, I t.Queries, I t.Grind]] [] = some (I r, []) := by
  rw [run_i_proofSize]
  unfold i_proofSize at h
  simp +decide only [b_i_proofSize, go_sem, reduceIte, Nat.reduceAdd]
  obtain ⟨r_, h1, h⟩ := bd h
  refine call_aftD (i_openingSize_c h1) ?_
  simp +decide only [go_sem, reduceIte, Nat.reduceAdd]
  obtain rfl := Option.some.inj h
  first | rfl | (simp only [List.length_set, go_sem]; done)
noncomputable def i_ProofSize (s : System) (t : Setting) : Option (Int × Int) :=
  (i_SystemOK s).bind fun r_ =>
  br (!r_) (
    some ((0 : Int), (1 : Int))) (
    (i_SettingOK t).bind fun r_2 =>
    br (!r_2) (
      some ((0 : Int), (1 : Int))) (
      (i_proofSize s t).bind fun r_3 =>
      some (r_3, (0 : Int))))
theorem i_ProofSize_c {s : System} {t : Setting} {r : Int × Int} (h : i_ProofSize s t = some r) : Call tab ow 26 [.agg [I s.Rows, I s.Cols, I s.Publics, sl eEntry s.A, sl eEntry s.B, sl eEntry s.C], .agg [I t.Rate, I t.Queries, I t.Grind]] [] = some (.tup [I r.1, I r.2], []) := by
  rw [run_i_ProofSize]
  unfold i_ProofSize at h
  simp +decide only [b_i_ProofSize, go_sem, reduceIte, Nat.reduceAdd]
  obtain ⟨r_, h1, h⟩ := bd h
  refine call_aft (i_SystemOK_c h1) ?_
  simp +decide only [go_sem, reduceIte, Nat.reduceAdd]
  rcases brc h with ⟨hb, h⟩ | ⟨hb, h⟩
  · refine br_t hb ?_
    obtain rfl := Option.some.inj h
    first | rfl | (simp only [List.length_set, go_sem]; done)
  · refine br_f hb ?_
    obtain ⟨r_2, h1, h⟩ := bd h
    refine call_aft (i_SettingOK_c h1) ?_
    simp +decide only [go_sem, reduceIte, Nat.reduceAdd]
    rcases brc h with ⟨hb, h⟩ | ⟨hb, h⟩
    · refine br_t hb ?_
      obtain rfl := Option.some.inj h
      first | rfl | (simp only [List.length_set, go_sem]; done)
    · refine br_f hb ?_
      obtain ⟨r_3, h1, h⟩ := bd h
      refine call_aft (i_proofSize_c h1) ?_
      simp +decide only [go_sem, reduceIte, Nat.reduceAdd]
      obtain rfl := Option.some.inj h
      first | rfl | (simp only [List.length_set, go_sem]; done)
noncomputable def w_eqEntry (a : Entry) (b : Entry) : Option (Bool) :=
  br (a.Row != b.Row) (
    some false) (
    br (a.Col != b.Col) (
      some false) (
      br (a.Value != b.Value) (
        some false) (
        some true)))
theorem w_eqEntry_c {a : Entry} {b : Entry} {r : Bool} (h : w_eqEntry a b = some r) : Call tab ow 60 [.agg [I a.Row, I a.Col, I a.Value], .agg [I b.Row, I b.Col, I b.Value]] [] = some (B r, []) := by
  rw [run_w_eqEntry]
  unfold w_eqEntry at h
  simp +decide only [b_w_eqEntry, go_sem, reduceIte, Nat.reduceAdd]
  rcases brc h with ⟨hb, h⟩ | ⟨hb, h⟩
  · refine br_t hb ?_
    obtain rfl := Option.some.inj h
    first | rfl | (simp only [List.length_set, go_sem]; done)
  · refine br_f hb ?_
    rcases brc h with ⟨hb, h⟩ | ⟨hb, h⟩
    · refine br_t hb ?_
      obtain rfl := Option.some.inj h
      first | rfl | (simp only [List.length_set, go_sem]; done)
    · refine br_f hb ?_
      rcases brc h with ⟨hb, h⟩ | ⟨hb, h⟩
      · refine br_t hb ?_
        obtain rfl := Option.some.inj h
        first | rfl | (simp only [List.length_set, go_sem]; done)
      · refine br_f hb ?_
        obtain rfl := Option.some.inj h
        first | rfl | (simp only [List.length_set, go_sem]; done)
noncomputable def w_eqEntryS_1_s (a2 : List Entry) (b2 : List Entry) : Int → Option ((Int) ⊕ (Unit ⊕ (Int × Bool)))
  | i =>
    br (decide (i < ((a2.length : Nat) : Int))) (
      (atL a2 i).bind fun x =>
      (atL b2 i).bind fun x2 =>
      (w_eqEntry x x2).bind fun r_ =>
      br (!r_) (
        some (.inr (.inl ()))) (
        some (.inl (IntKind.wrap .i64 (i + (1 : Int)))))) (
      some (.inr (.inr (i, decide (i < ((a2.length : Nat) : Int))))))
theorem w_eqEntryS_1_l {a2 : List Entry} {b2 : List Entry} {i : Int} {e : Unit ⊕ (Int × Bool)} (h : Loop (w_eqEntryS_1_s a2 b2) i = some e) : LoopX tab ow (.close [7008]) b_w_eqEntryS_4 ⟨[(0, sl eEntry a2), (1, sl eEntry b2), (5, I i)], []⟩ = some ((alt (fun e => ((.ret, ⟨[(4, B false)], []⟩) : AExit × St)) (fun e => (.exit 0, ⟨[(0, sl eEntry a2), (1, sl eEntry b2), (5, I e.1), (14, B e.2)], []⟩))) e) := by
  refine loop_runG (S := Int) (eS := fun s => ⟨[(0, sl eEntry a2), (1, sl eEntry b2), (5, I s)], []⟩) (eE := fun e => (alt (fun e => ((.ret, ⟨[(4, B false)], []⟩) : AExit × St)) (fun e => (.exit 0, ⟨[(0, sl eEntry a2), (1, sl eEntry b2), (5, I e.1), (14, B e.2)], []⟩))) e) (fun e => ?_) (fun i o h => ?_) h
  · rcases e with e | e <;> simp [alt]
  · skip
    simp only [w_eqEntryS_1_s] at h
    show Rn tab ow _ _ ⟨[(0, sl eEntry a2), (1, sl eEntry b2), (5, I i)], []⟩ = _
    simp +decide only [b_w_eqEntryS_4, go_sem, reduceIte, Nat.reduceAdd]
    rcases brc h with ⟨hb, h⟩ | ⟨hb, h⟩
    · refine br_t hb ?_
      obtain ⟨x, h1, h⟩ := bd h
      refine bind_some h1 ?_
      obtain ⟨x2, h1, h⟩ := bd h
      refine bind_some h1 ?_
      obtain ⟨r_, h1, h⟩ := bd h
      refine call_aftD (w_eqEntry_c h1) ?_
      simp +decide only [go_sem, reduceIte, Nat.reduceAdd]
      rcases brc h with ⟨hb, h⟩ | ⟨hb, h⟩
      · refine br_t hb ?_
        obtain rfl := Option.some.inj h
        first | rfl | (simp only [List.length_set, go_sem]; done)
      · refine br_f hb ?_
        obtain rfl := Option.some.inj h
        first | rfl | (simp only [List.length_set, go_sem]; done)
    · refine br_f hb ?_
      obtain rfl := Option.some.inj h
      first | rfl | (simp only [List.length_set, go_sem]; done)
noncomputable def w_eqEntryS (a : (List Entry)) (b : (List Entry)) : Option (Bool) :=
  br (((a.length : Nat) : Int) != ((b.length : Nat) : Int)) (
    some false) (
    (Loop (w_eqEntryS_1_s a b) (0 : Int)).bind (alt (fun e_2 =>
      some false) (fun e_3 =>
      some true)))
theorem w_eqEntryS_c {a : (List Entry)} {b : (List Entry)} {r : Bool} (h : w_eqEntryS a b = some r) : Call tab ow 45 [sl eEntry a, sl eEntry b] [] = some (B r, []) := by
  rw [run_w_eqEntryS]
  unfold w_eqEntryS at h
  simp +decide only [b_w_eqEntryS, go_sem, reduceIte, Nat.reduceAdd]
  rcases brc h with ⟨hb, h⟩ | ⟨hb, h⟩
  · refine br_t hb ?_
    obtain rfl := Option.some.inj h
    first | rfl | (simp only [List.length_set, go_sem]; done)
  · refine br_f hb ?_
    obtain ⟨e_, h1, h⟩ := bd h
    refine goR_of (w_eqEntryS_1_l h1) ?_
    rcases e_ with e_2 | e_3
    · simp +decide only [go_sem, reduceIte, Nat.reduceAdd]
      obtain rfl := Option.some.inj h
      first | rfl | (simp only [List.length_set, go_sem]; done)
    · simp +decide only [go_sem, reduceIte, Nat.reduceAdd]
      obtain rfl := Option.some.inj h
      first | rfl | (simp only [List.length_set, go_sem]; done)
noncomputable def w_eqSystem (a : System) (b : System) : Option (Bool) :=
  br (a.Rows != b.Rows) (
    some false) (
    br (a.Cols != b.Cols) (
      some false) (
      br (a.Publics != b.Publics) (
        some false) (
        (w_eqEntryS a.A b.A).bind fun r_ =>
        br (!r_) (
          some false) (
          (w_eqEntryS a.B b.B).bind fun r_2 =>
          br (!r_2) (
            some false) (
            (w_eqEntryS a.C b.C).bind fun r_3 =>
            br (!r_3) (
              some false) (
              some true))))))
theorem w_eqSystem_c {a : System} {b : System} {r : Bool} (h : w_eqSystem a b = some r) : Call tab ow 27 [.agg [I a.Rows, I a.Cols, I a.Publics, sl eEntry a.A, sl eEntry a.B, sl eEntry a.C], .agg [I b.Rows, I b.Cols, I b.Publics, sl eEntry b.A, sl eEntry b.B, sl eEntry b.C]] [] = some (B r, []) := by
  rw [run_w_eqSystem]
  unfold w_eqSystem at h
  simp +decide only [b_w_eqSystem, go_sem, reduceIte, Nat.reduceAdd]
  rcases brc h with ⟨hb, h⟩ | ⟨hb, h⟩
  · refine br_t hb ?_
    obtain rfl := Option.some.inj h
    first | rfl | (simp only [List.length_set, go_sem]; done)
  · refine br_f hb ?_
    rcases brc h with ⟨hb, h⟩ | ⟨hb, h⟩
    · refine br_t hb ?_
      obtain rfl := Option.some.inj h
      first | rfl | (simp only [List.length_set, go_sem]; done)
    · refine br_f hb ?_
      rcases brc h with ⟨hb, h⟩ | ⟨hb, h⟩
      · refine br_t hb ?_
        obtain rfl := Option.some.inj h
        first | rfl | (simp only [List.length_set, go_sem]; done)
      · refine br_f hb ?_
        obtain ⟨r_, h1, h⟩ := bd h
        refine call_aft (w_eqEntryS_c h1) ?_
        simp +decide only [go_sem, reduceIte, Nat.reduceAdd]
        rcases brc h with ⟨hb, h⟩ | ⟨hb, h⟩
        · refine br_t hb ?_
          obtain rfl := Option.some.inj h
          first | rfl | (simp only [List.length_set, go_sem]; done)
        · refine br_f hb ?_
          obtain ⟨r_2, h1, h⟩ := bd h
          refine call_aft (w_eqEntryS_c h1) ?_
          simp +decide only [go_sem, reduceIte, Nat.reduceAdd]
          rcases brc h with ⟨hb, h⟩ | ⟨hb, h⟩
          · refine br_t hb ?_
            obtain rfl := Option.some.inj h
            first | rfl | (simp only [List.length_set, go_sem]; done)
          · refine br_f hb ?_
            obtain ⟨r_3, h1, h⟩ := bd h
            refine call_aft (w_eqEntryS_c h1) ?_
            simp +decide only [go_sem, reduceIte, Nat.reduceAdd]
            rcases brc h with ⟨hb, h⟩ | ⟨hb, h⟩
            · refine br_t hb ?_
              obtain rfl := Option.some.inj h
              first | rfl | (simp only [List.length_set, go_sem]; done)
            · refine br_f hb ?_
              obtain rfl := Option.some.inj h
              first | rfl | (simp only [List.length_set, go_sem]; done)
noncomputable def w_FnExactProofSize (aS : System) (aT : Setting) : Option (Bool) :=
  (w_szSystem aS (1048576 : Int)).bind fun r_ =>
  br (decide (r_ < (0 : Int))) (
    some true) (
    (w_toSystem aS).bind fun r_2 =>
    (w_toSetting aT).bind fun r_3 =>
    (s_ProofSize r_2 r_3).bind fun r_4 =>
    (w_toSystem aS).bind fun r_5 =>
    (w_toSetting aT).bind fun r_6 =>
    (i_ProofSize r_5 r_6).bind fun r_7 =>
    br (r_7.1 != r_4.1) (
      some false) (
      br (r_7.2 != r_4.2) (
        some false) (
        (w_toSystem aS).bind fun r_8 =>
        (w_eqSystem r_5 r_8).bind fun r_9 =>
        br (!r_9) (
          some false) (
          some true))))
theorem w_FnExactProofSize_c {aS : System} {aT : Setting} {r : Bool} (h : w_FnExactProofSize aS aT = some r) : Call tab ow 8 [.agg [I aS.Rows, I aS.Cols, I aS.Publics, sl eEntry aS.A, sl eEntry aS.B, sl eEntry aS.C], .agg [I aT.Rate, I aT.Queries, I aT.Grind]] [] = some (B r, []) := by
  rw [run_w_FnExactProofSize]
  unfold w_FnExactProofSize at h
  simp +decide only [b_w_FnExactProofSize, go_sem, reduceIte, Nat.reduceAdd]
  obtain ⟨r_, h1, h⟩ := bd h
  refine call_aft (w_szSystem_c h1) ?_
  simp +decide only [go_sem, reduceIte, Nat.reduceAdd]
  rcases brc h with ⟨hb, h⟩ | ⟨hb, h⟩
  · refine br_t hb ?_
    obtain rfl := Option.some.inj h
    first | rfl | (simp only [List.length_set, go_sem]; done)
  · refine br_f hb ?_
    obtain ⟨r_2, h1, h⟩ := bd h
    refine call_aftD (w_toSystem_c h1) ?_
    simp +decide only [go_sem, reduceIte, Nat.reduceAdd]
    obtain ⟨r_3, h1, h⟩ := bd h
    refine call_aftD (w_toSetting_c h1) ?_
    simp +decide only [go_sem, reduceIte, Nat.reduceAdd]
    obtain ⟨r_4, h1, h⟩ := bd h
    refine call_aftD (s_ProofSize_c h1) ?_
    simp +decide only [go_sem, reduceIte, Nat.reduceAdd]
    obtain ⟨r_5, h1, h⟩ := bd h
    refine call_aft (w_toSystem_c h1) ?_
    simp +decide only [go_sem, reduceIte, Nat.reduceAdd]
    obtain ⟨r_6, h1, h⟩ := bd h
    refine call_aftD (w_toSetting_c h1) ?_
    simp +decide only [go_sem, reduceIte, Nat.reduceAdd]
    obtain ⟨r_7, h1, h⟩ := bd h
    refine call_aftD (i_ProofSize_c h1) ?_
    simp +decide only [go_sem, reduceIte, Nat.reduceAdd]
    rcases brc h with ⟨hb, h⟩ | ⟨hb, h⟩
    · refine br_t hb ?_
      obtain rfl := Option.some.inj h
      first | rfl | (simp only [List.length_set, go_sem]; done)
    · refine br_f hb ?_
      rcases brc h with ⟨hb, h⟩ | ⟨hb, h⟩
      · refine br_t hb ?_
        obtain rfl := Option.some.inj h
        first | rfl | (simp only [List.length_set, go_sem]; done)
      · refine br_f hb ?_
        obtain ⟨r_8, h1, h⟩ := bd h
        refine call_aftD (w_toSystem_c h1) ?_
        simp +decide only [go_sem, reduceIte, Nat.reduceAdd]
        obtain ⟨r_9, h1, h⟩ := bd h
        refine call_aftD (w_eqSystem_c h1) ?_
        simp +decide only [go_sem, reduceIte, Nat.reduceAdd]
        rcases brc h with ⟨hb, h⟩ | ⟨hb, h⟩
        · refine br_t hb ?_
          obtain rfl := Option.some.inj h
          first | rfl | (simp only [List.length_set, go_sem]; done)
        · refine br_f hb ?_
          obtain rfl := Option.some.inj h
          first | rfl | (simp only [List.length_set, go_sem]; done)
noncomputable def w_FnExactWorkOf (aS : System) (aT : Setting) : Option (Bool) :=
  (w_szSystem aS (1048576 : Int)).bind fun r_ =>
  br (decide (r_ < (0 : Int))) (
    some true) (
    (w_toSystem aS).bind fun r_2 =>
    (w_toSetting aT).bind fun r_3 =>
    (s_WorkOf r_2 r_3).bind fun r_4 =>
    (w_toSystem aS).bind fun r_5 =>
    (w_toSetting aT).bind fun r_6 =>
    (i_WorkOf r_5 r_6).bind fun r_7 =>
    br (r_7.1 != r_4.1) (
      some false) (
      br (r_7.2 != r_4.2) (
        some false) (
        (w_toSystem aS).bind fun r_8 =>
        (w_eqSystem r_5 r_8).bind fun r_9 =>
        br (!r_9) (
          some false) (
          some true))))
theorem w_FnExactWorkOf_c {aS : System} {aT : Setting} {r : Bool} (h : w_FnExactWorkOf aS aT = some r) : Call tab ow 9 [.agg [I aS.Rows, I aS.Cols, I aS.Publics, sl eEntry aS.A, sl eEntry aS.B, sl eEntry aS.C], .agg [I aT.Rate, I aT.Queries, I aT.Grind]] [] = some (B r, []) := by
  rw [run_w_FnExactWorkOf]
  unfold w_FnExactWorkOf at h
  simp +decide only [b_w_FnExactWorkOf, go_sem, reduceIte, Nat.reduceAdd]
  obtain ⟨r_, h1, h⟩ := bd h
  refine call_aft (w_szSystem_c h1) ?_
  simp +decide only [go_sem, reduceIte, Nat.reduceAdd]
  rcases brc h with ⟨hb, h⟩ | ⟨hb, h⟩
  · refine br_t hb ?_
    obtain rfl := Option.some.inj h
    first | rfl | (simp only [List.length_set, go_sem]; done)
  · refine br_f hb ?_
    obtain ⟨r_2, h1, h⟩ := bd h
    refine call_aftD (w_toSystem_c h1) ?_
    simp +decide only [go_sem, reduceIte, Nat.reduceAdd]
    obtain ⟨r_3, h1, h⟩ := bd h
    refine call_aftD (w_toSetting_c h1) ?_
    simp +decide only [go_sem, reduceIte, Nat.reduceAdd]
    obtain ⟨r_4, h1, h⟩ := bd h
    refine call_aftD (s_WorkOf_c h1) ?_
    simp +decide only [go_sem, reduceIte, Nat.reduceAdd]
    obtain ⟨r_5, h1, h⟩ := bd h
    refine call_aft (w_toSystem_c h1) ?_
    simp +decide only [go_sem, reduceIte, Nat.reduceAdd]
    obtain ⟨r_6, h1, h⟩ := bd h
    refine call_aftD (w_toSetting_c h1) ?_
    simp +decide only [go_sem, reduceIte, Nat.reduceAdd]
    obtain ⟨r_7, h1, h⟩ := bd h
    refine call_aftD (i_WorkOf_c h1) ?_
    simp +decide only [go_sem, reduceIte, Nat.reduceAdd]
    rcases brc h with ⟨hb, h⟩ | ⟨hb, h⟩
    · refine br_t hb ?_
      obtain rfl := Option.some.inj h
      first | rfl | (simp only [List.length_set, go_sem]; done)
    · refine br_f hb ?_
      rcases brc h with ⟨hb, h⟩ | ⟨hb, h⟩
      · refine br_t hb ?_
        obtain rfl := Option.some.inj h
        first | rfl | (simp only [List.length_set, go_sem]; done)
      · refine br_f hb ?_
        obtain ⟨r_8, h1, h⟩ := bd h
        refine call_aftD (w_toSystem_c h1) ?_
        simp +decide only [go_sem, reduceIte, Nat.reduceAdd]
        obtain ⟨r_9, h1, h⟩ := bd h
        refine call_aftD (w_eqSystem_c h1) ?_
        simp +decide only [go_sem, reduceIte, Nat.reduceAdd]
        rcases brc h with ⟨hb, h⟩ | ⟨hb, h⟩
        · refine br_t hb ?_
          obtain rfl := Option.some.inj h
          first | rfl | (simp only [List.length_set, go_sem]; done)
        · refine br_f hb ?_
          obtain rfl := Option.some.inj h
          first | rfl | (simp only [List.length_set, go_sem]; done)
end Go.AI.Fn
