/- Products of lists; FnExtBytes answers true. -/
import Derived.Test.YthjmakpfalhadaaPuY
set_option linter.unusedVariables false
namespace Go.AI.Fn

def addF (a b : Int) : Int := (IntKind.wrap .i64 (a + b)).tmod 2130706433
def mulF (a b : Int) : Int := (IntKind.wrap .i64 (a * b)).tmod 2130706433
def plusE (x y : Ext) : Ext := ⟨addF x.A y.A, addF x.B y.B⟩
def timesE (x y : Ext) : Ext := ⟨addF (mulF x.A y.A) (mulF 3 (mulF x.B y.B)), addF (mulF x.A y.B) (mulF x.B y.A)⟩
theorem i_plus_eq (x y : Ext) : i_Ext_plus x y = some (plusE x y) := rfl
theorem s_add_eq (x y : Ext) : s_l02Add x y = some (plusE x y) := rfl
theorem i_times_eq (x y : Ext) : i_Ext_times x y = some (timesE x y) := rfl
theorem s_mul_eq (x y : Ext) : s_l02Mul x y = some (timesE x y) := rfl
theorem mul_bound {a b : Int} (ha : okF a) (hb : okF b) : 0 ≤ a * b ∧ a * b ≤ 2130706432 * 2130706432 :=
  ⟨Int.mul_nonneg ha.1 hb.1, Int.mul_le_mul ha.2 hb.2 hb.1 (by decide)⟩
theorem addF_eq {a b : Int} (ha : okF a) (hb : okF b) : addF a b = (a + b) % 2130706433 := by
  have h1 := ha.1
  have h2 := ha.2
  have h3 := hb.1
  have h4 := hb.2
  unfold addF
  rw [wrap_i64 _ (by omega) (by omega), tmod_nn _ _ (by omega)]
theorem mulF_eq {a b : Int} (ha : okF a) (hb : okF b) : mulF a b = (a * b) % 2130706433 := by
  have h := mul_bound ha hb
  unfold mulF
  rw [wrap_i64 _ (by omega) (by omega), tmod_nn _ _ (by omega)]
theorem okF_mod (a : Int) : okF (a % 2130706433) := ⟨by omega, by omega⟩
theorem addF_ok {a b : Int} (ha : okF a) (hb : okF b) : okF (addF a b) := by rw [addF_eq ha hb]; exact okF_mod _
theorem mulF_ok {a b : Int} (ha : okF a) (hb : okF b) : okF (mulF a b) := by rw [mulF_eq ha hb]; exact okF_mod _
theorem okF_lit (n : Int) (h : decide (0 ≤ n ∧ n ≤ 2130706432) = true) : okF n := of_decide_eq_true (p := 0 ≤ n ∧ n ≤ 2130706432) h
theorem plusE_ok {x y : Ext} (hx : okE x) (hy : okE y) : okE (plusE x y) := ⟨addF_ok hx.1 hy.1, addF_ok hx.2 hy.2⟩
theorem timesE_ok {x y : Ext} (hx : okE x) (hy : okE y) : okE (timesE x y) :=
  ⟨addF_ok (mulF_ok hx.1 hy.1) (mulF_ok (okF_lit 3 (by decide)) (mulF_ok hx.2 hy.2)), addF_ok (mulF_ok hx.1 hy.2) (mulF_ok hx.2 hy.1)⟩
theorem i_ExtMul_eq {x y : Ext} (hx : okE x) (hy : okE y) : i_ExtMul x y = some (timesE x y, 0) := by
  unfold i_ExtMul i_extTwo
  rw [i_ExtOK_eq, i_ExtOK_eq, okEb_iff.2 hx, okEb_iff.2 hy]; rfl
theorem i_ExtAdd_eq {x y : Ext} (hx : okE x) (hy : okE y) : i_ExtAdd x y = some (plusE x y, 0) := by
  unfold i_ExtAdd i_extTwo_v2
  rw [i_ExtOK_eq, i_ExtOK_eq, okEb_iff.2 hx, okEb_iff.2 hy]; rfl

def dotF : List Ext → List Ext → Ext → Ext
  | x :: l, y :: m, c => dotF l m (plusE c (timesE x y))
  | _, _, c => c
theorem all_ok {l : List Ext} (h : ∀ x ∈ l, okE x) : l.all okEb = true := List.all_eq_true.2 fun x hx => okEb_iff.2 (h x hx)

theorem i_dot_eq {a b : List Ext} (hl : a.length ≤ 4096) (hb : a.length = b.length) : i_dot a b = some (dotF a b ⟨0, 0⟩) := by
  unfold i_dot
  have key := Loop_inv (step := i_dot_1_s b a ((a.length : Nat) : Int) 0 0)
    (fun s => 0 ≤ s.1 ∧ s.1 ≤ a.length ∧ dotF (a.drop s.1.toNat) (b.drop s.1.toNat) ⟨s.2.1, s.2.2⟩ = dotF a b ⟨0, 0⟩) (fun s => (a.length - s.1).toNat)
    (fun e => Ext.mk e.2.2.1 e.2.2.2 = dotF a b ⟨0, 0⟩) ?_ ((0 : Int), (0 : Int), (0 : Int)) ⟨by first | omega | (dsimp only; omega), by first | omega | (dsimp only; omega), rfl⟩
  · obtain ⟨e, he, h⟩ := key
    rw [he]; simp only [Option.bind_some, h]
  · rintro ⟨i, c, d⟩ ⟨h0, h1, h2⟩
    dsimp only at h0 h1 h2
    simp only [i_dot_1_s]
    by_cases hc : i < (a.length : Int)
    · left
      obtain ⟨x, r, e1, e2, e3⟩ := drop_cons (l := a) (i := i.toNat) (by omega)
      obtain ⟨y, r', f1, f2, f3⟩ := drop_cons (l := b) (i := i.toNat) (by omega)
      rw [brd hc, atL_drop h0 e1, atL_drop h0 f1]
      simp only [Option.bind_some, i_times_eq, i_plus_eq]
      rw [wrap_i64 (i + 1) (by omega) (by omega)]
      refine ⟨_, rfl, ⟨by first | omega | (dsimp only; omega), by first | omega | (dsimp only; omega), ?_⟩, by first | omega | (dsimp only; omega)⟩
      dsimp only
      rw [show (i + 1).toNat = i.toNat + 1 by omega, e2, f2]
      rw [e1, f1] at h2
      exact h2
    · right
      rw [brn hc]
      refine ⟨_, rfl, ?_⟩
      rw [List.drop_eq_nil_of_le (show a.length ≤ i.toNat by omega)] at h2
      simpa [dotF] using h2

theorem s_dot_loop {a b : List Ext} (hl : a.length ≤ 4096) (hb : a.length = b.length) : ∃ e, Loop (s_ExtDot_1_s a b 0 0) ((0 : Int), (0 : Int), (0 : Int)) = some e ∧ Ext.mk e.2.2.1 e.2.2.2 = dotF a b ⟨0, 0⟩ := by
  refine Loop_inv (step := s_ExtDot_1_s a b 0 0)
    (fun s => 0 ≤ s.1 ∧ s.1 ≤ a.length ∧ dotF (a.drop s.1.toNat) (b.drop s.1.toNat) ⟨s.2.1, s.2.2⟩ = dotF a b ⟨0, 0⟩) (fun s => (a.length - s.1).toNat)
    (fun e => Ext.mk e.2.2.1 e.2.2.2 = dotF a b ⟨0, 0⟩) ?_ ((0 : Int), (0 : Int), (0 : Int)) ⟨by first | omega | (dsimp only; omega), by first | omega | (dsimp only; omega), rfl⟩
  · rintro ⟨i, c, d⟩ ⟨h0, h1, h2⟩
    dsimp only at h0 h1 h2
    simp only [s_ExtDot_1_s]
    by_cases hc : i < (a.length : Int)
    · left
      obtain ⟨x, r, e1, e2, e3⟩ := drop_cons (l := a) (i := i.toNat) (by omega)
      obtain ⟨y, r', f1, f2, f3⟩ := drop_cons (l := b) (i := i.toNat) (by omega)
      rw [brd hc, atL_drop h0 e1, atL_drop h0 f1]
      simp only [Option.bind_some, s_mul_eq, s_add_eq]
      rw [wrap_i64 (i + 1) (by omega) (by omega)]
      refine ⟨_, rfl, ⟨by first | omega | (dsimp only; omega), by first | omega | (dsimp only; omega), ?_⟩, by first | omega | (dsimp only; omega)⟩
      dsimp only
      rw [show (i + 1).toNat = i.toNat + 1 by omega, e2, f2]
      rw [e1, f1] at h2
      exact h2
    · right
      rw [brn hc]
      refine ⟨_, rfl, ?_⟩
      rw [List.drop_eq_nil_of_le (show a.length ≤ i.toNat by omega)] at h2
      simpa [dotF] using h2

theorem i_ExtDot_eq {a b : List Ext} (hl : a.length ≤ 4096) (hb : a.length = b.length) (ha : ∀ x ∈ a, okE x) (hbo : ∀ x ∈ b, okE x) : i_ExtDot a b = some (dotF a b ⟨0, 0⟩, 0) := by
  unfold i_ExtDot i_areLists
  rw [brn (by omega), brn (by omega), i_are_eq (by omega), i_are_eq (by omega), all_ok ha, all_ok hbo, i_dot_eq hl hb]
  simp [br, hb]
theorem s_ExtDot_eq {a b : List Ext} (hl : a.length ≤ 4096) (hb : a.length = b.length) (ha : ∀ x ∈ a, okE x) (hbo : ∀ x ∈ b, okE x) : s_ExtDot a b = some (dotF a b ⟨0, 0⟩, 0) := by
  unfold s_ExtDot
  obtain ⟨e, he, h⟩ := s_dot_loop hl hb
  rw [brn (by omega), brn (by omega), s_list_eq (by omega), s_list_eq (by omega), all_ok ha, all_ok hbo, he]
  simp [br, hb, h]

theorem same_eq {a : List Ext} (hl : a.length ≤ 1099511627776) : w_sameExts a a = some true := by
  unfold w_sameExts
  rw [brbe rfl]
  have key := Loop_inv (step := w_sameExts_1_s a a) (fun t => 0 ≤ t ∧ t ≤ a.length) (fun t => (a.length - t).toNat) (fun e => ∃ p, e = .inr p) ?_ 0 ⟨by first | omega | (dsimp only; omega), by first | omega | (dsimp only; omega)⟩
  · obtain ⟨e, he, p, rfl⟩ := key
    rw [he]; rfl
  · intro t ⟨h0, h1⟩
    simp only [w_sameExts_1_s]
    by_cases c : t < (a.length : Int)
    · left
      obtain ⟨x, r, e1, e2, e3⟩ := drop_cons (l := a) (i := t.toNat) (by omega)
      rw [brd c, atL_drop h0 e1]
      simp only [Option.bind_some]
      rw [bre rfl, bre rfl, wrap_i64 (t + 1) (by omega) (by omega)]
      exact ⟨_, rfl, ⟨by first | omega | (dsimp only; omega), by first | omega | (dsimp only; omega)⟩, by first | omega | (dsimp only; omega)⟩
    · right
      rw [brn c]
      exact ⟨_, rfl, _, rfl⟩

theorem sum_eq {m : List UInt8} {n p q r s t : Int} {a b : List Ext} (hn : (a.length : Int) = n) (hl : a.length ≤ 4096) (hb : a.length = b.length) (ha : ∀ x ∈ a, okE x) (hbo : ∀ x ∈ b, okE x) :
    ∃ e, Loop (w_FnExtBytes_1_s m n a b p q r s t) ((0 : Int), (0 : Int), (0 : Int)) = some (.inr e) ∧ Ext.mk e.2.2.1 e.2.2.2 = dotF a b ⟨0, 0⟩ := by
  have key := Loop_inv (step := w_FnExtBytes_1_s m n a b p q r s t)
    (fun s => 0 ≤ s.1 ∧ s.1 ≤ a.length ∧ okE ⟨s.2.1, s.2.2⟩ ∧ dotF (a.drop s.1.toNat) (b.drop s.1.toNat) ⟨s.2.1, s.2.2⟩ = dotF a b ⟨0, 0⟩) (fun s => (a.length - s.1).toNat)
    (fun e => ∃ e', e = .inr e' ∧ Ext.mk e'.2.2.1 e'.2.2.2 = dotF a b ⟨0, 0⟩) ?_ ((0 : Int), (0 : Int), (0 : Int)) ⟨by first | omega | (dsimp only; omega), by first | omega | (dsimp only; omega), ⟨⟨by first | omega | (dsimp only; omega), by first | omega | (dsimp only; omega)⟩, ⟨by first | omega | (dsimp only; omega), by first | omega | (dsimp only; omega)⟩⟩, rfl⟩
  · obtain ⟨e, he, e', rfl, h⟩ := key
    exact ⟨e', he, h⟩
  · rintro ⟨i, c, d⟩ ⟨h0, h1, ho, h2⟩
    dsimp only at h0 h1 h2 ho
    simp only [w_FnExtBytes_1_s]
    by_cases hc : i < (a.length : Int)
    · left
      obtain ⟨x, r, e1, e2, e3⟩ := drop_cons (l := a) (i := i.toNat) (by omega)
      obtain ⟨y, r', f1, f2, f3⟩ := drop_cons (l := b) (i := i.toNat) (by omega)
      have hx := ha x (List.mem_of_getElem? e3)
      have hy := hbo y (List.mem_of_getElem? f3)
      rw [brd (by omega), atL_drop h0 e1, atL_drop h0 f1]
      simp only [Option.bind_some, i_ExtMul_eq hx hy, i_ExtAdd_eq ho (timesE_ok hx hy)]
      rw [brbe rfl, brbe rfl, wrap_i64 (i + 1) (by omega) (by omega)]
      refine ⟨_, rfl, ⟨by first | omega | (dsimp only; omega), by first | omega | (dsimp only; omega), plusE_ok ho (timesE_ok hx hy), ?_⟩, by first | omega | (dsimp only; omega)⟩
      dsimp only
      rw [show (i + 1).toNat = i.toNat + 1 by omega, e2, f2]
      rw [e1, f1] at h2
      exact h2
    · right
      rw [brn (by omega)]
      refine ⟨_, rfl, _, rfl, ?_⟩
      rw [List.drop_eq_nil_of_le (show a.length ≤ i.toNat by omega)] at h2
      simpa [dotF] using h2

theorem bytesE_ok {l : List Ext} (hl : l.length ≤ 4096) (h : ∀ x ∈ l, okE x) : bytesE l = (l.flatMap e8, 0) := by
  unfold bytesE
  rw [if_neg (by omega), if_pos (all_ok h)]
theorem flat_len (l : List Ext) : (l.flatMap e8).length = 8 * l.length := by
  induction l with
  | nil => rfl
  | cons x l ih => rw [List.flatMap_cons, List.length_append, ih, e8_len, List.length_cons]; omega
theorem readE_ok {l : List Ext} (hl : l.length ≤ 4096) (h : ∀ x ∈ l, okE x) : readE (l.flatMap e8) = (l, 0) := by
  unfold readE
  rw [if_neg (by rw [flat_len]; omega), dec_e8 h, if_pos ⟨by rw [flat_len]; omega, all_ok h⟩, if_neg (by omega)]

theorem law (a b : List UInt8) : w_FnExtBytes a b = some true := by
  unfold w_FnExtBytes
  by_cases c1 : ((a.length : Nat) : Int) > 1048576
  · rw [brd c1]
  rw [brn c1]
  by_cases c2 : ((b.length : Nat) : Int) > 1048576
  · rw [brd c2]
  rw [brn c2]
  obtain ⟨n, e1, n0, n1⟩ := at_ok (a := b) (i := 0) (n := 6) (by omega) (by omega) (by omega) (by omega)
  obtain ⟨l, e2, l0, l1⟩ := ExtsOf_ok (code := a) (n := n) (by omega) (by omega) (by omega)
  obtain ⟨k, e3, k0, k1⟩ := ExtsOf_ok (code := b) (n := n) (by omega) (by omega) (by omega)
  have hl : l.length ≤ 4096 := by omega
  have hk : l.length = k.length := by omega
  obtain ⟨e, e4, h4⟩ := sum_eq (m := b) (p := (dotF l k ⟨0, 0⟩, (0 : Int)).2) (q := (dotF l k ⟨0, 0⟩, (0 : Int)).1.A) (r := (dotF l k ⟨0, 0⟩, (0 : Int)).1.B) (s := (dotF l k ⟨0, 0⟩, (0 : Int)).1.A) (t := (dotF l k ⟨0, 0⟩, (0 : Int)).1.B) l0 hl hk l1 k1
  rw [e1]
  simp only [Option.bind_some]
  rw [e2]
  simp only [Option.bind_some, i_ExtBytes_eq, s_ExtBytes_eq, bytesE_ok hl l1, i_ReadExts_eq, readE_ok hl l1]
  rw [brbe rfl, br_no (by simp), brbe (by rw [flat_len, wrap_i64 _ (by omega) (by omega)]; omega), brbe rfl, same_eq (by omega)]
  simp only [Option.bind_some, Bool.not_true, br_false]
  rw [e3]
  simp only [Option.bind_some, i_ExtDot_eq hl hk l1 k1, s_ExtDot_eq hl hk l1 k1]
  rw [e4]
  simp only [Option.bind_some, alt_inr, s_ReadExts_eq]
  have hA : (dotF l k ⟨0, 0⟩).A = e.2.2.1 := by rw [← h4]
  have hB : (dotF l k ⟨0, 0⟩).B = e.2.2.2 := by rw [← h4]
  rw [brbe rfl, bre rfl, bre rfl, bre hA, bre hB, brbe rfl]
  by_cases c3 : (readE b).2 = 0
  · rw [brbe c3]
    unfold readE at c3 ⊢
    by_cases c4 : b.length > 65536
    · rw [if_pos c4] at c3; exact absurd c3 (by decide)
    rw [if_neg c4] at c3 ⊢
    by_cases c5 : b.length % 8 = 0 ∧ (dec b).all okEb
    · rw [if_pos c5] at c3 ⊢
      by_cases c6 : (dec b).length > 4096
      · rw [if_pos c6] at c3; exact absurd c3 (by decide)
      rw [if_neg c6, bytesE_ok (by omega) fun x hx => okEb_iff.1 (List.all_eq_true.1 c5.2 x hx), e8_dec b c5.1]
      rw [bre rfl]; simp
    · rw [if_neg c5] at c3; exact absurd c3 (by decide)
  · rw [brb c3]
end Go.AI.Fn
