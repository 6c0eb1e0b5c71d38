/- What a callee is handed stands to memory as it did for the caller. -/
import Derived.Test.YtnfkfhedladdaaaAiCall
set_option linter.unusedVariables false
set_option linter.unusedSimpArgs false
namespace Go.AI

section
variable {G : Frame} {μ μ' : Mu} {h h' : Heap} {w w' : World}
theorem chEv (C : @Chg G μ h w μ' h' w') : @Evol G μ w μ' w' := @Chg.ev G _ _ _ _ _ _ C
theorem chRefs (C : @Chg G μ h w μ' h' w') : Refs μ h w μ' h' w' := @Chg.refs G _ _ _ _ _ _ C
theorem evOs (C : @Evol G μ w μ' w') : w'.os = w.os := @Evol.os G _ _ _ _ C
theorem evTape (C : @Evol G μ w μ' w') : w'.tape = w.tape := @Evol.tape G _ _ _ _ C
theorem evOut (C : @Evol G μ w μ' w') : w'.output = w.output := @Evol.output G _ _ _ _ C
theorem evSize (C : @Evol G μ w μ' w') : w.heap.size ≤ w'.heap.size := @Evol.size G _ _ _ _ C
theorem evKeep (C : @Evol G μ w μ' w') : ∀ c, c < w.heap.size → @Stable G μ c → w'.heap[c]? = w.heap[c]? ∧ @Stable G μ' c := @Evol.keep G _ _ _ _ C
theorem evKeepF (C : @Evol G μ w μ' w') : ∀ c, G.fr c → w'.heap[c]? = w.heap[c]? := @Evol.keepF G _ _ _ _ C
theorem hInj (H : @HRel G μ h w) : ∀ b b' c, μ b = some c → μ b' = some c → b = b' := @HRel.inj G _ _ _ H
theorem hDom (H : @HRel G μ h w) : ∀ b c, μ b = some c → ∃ k, h b = some k ∧ 0 < k.esz := @HRel.dom G _ _ _ H
theorem hBlk (H : @HRel G μ h w) : ∀ b k, h b = some k → @BRel G μ h w b k := @HRel.blk G _ _ _ H
theorem hRows (H : @HRel G μ h w) : ∀ b k, h b = some k → ∀ row ∈ k.rows, row.length = k.esz ∧ ∀ v ∈ row, v.cell = true ∧ (k.op = false → v.cl = true) := @HRel.rows G _ _ _ H
theorem hFrame (H : @HRel G μ h w) : ∀ b c, μ b = some c → ¬ G.fr c := @HRel.frame G _ _ _ H
theorem hFrlt (H : @HRel G μ h w) : ∀ c, G.fr c → c < w.heap.size := @HRel.frlt G _ _ _ H
theorem hLt (H : @HRel G μ h w) {b c : Nat} (hb : μ b = some c) : c < w.heap.size := @HRel.lt G _ _ _ H b c hb
end

theorem getL_some {α : Type} {l : List α} {i : Nat} (h : i < l.length) : ∃ x, l[i]? = some x := ⟨l[i], List.getElem?_eq_getElem h⟩

structure Way (h : Heap) (ids bor : List Nat) (blks : List Blk) : Prop where
  nd : ids.Nodup
  len : ids.length = blks.length
  at_ : ∀ (i b : Nat), ids[i]? = some b → ∃ k k0, h b = some k ∧ blks[i]? = some k0 ∧ LocB h ids bor k k0
  dis : ∀ b ∈ bor, b ∉ ids
  has : ∀ b ∈ bor, ∃ k, h b = some k

@[reducible] def frIn (F : Frame) (μ : Mu) (ids bor : List Nat) : Frame := ⟨fun c => F.fr c ∨ ∃ b, μ b = some c ∧ b ∉ ids ∧ b ∉ bor⟩
def muIn (μ : Mu) (ids : List Nat) : Mu := fun i => (ids[i]?).bind μ

section
variable {F : Frame} {μ : Mu} {h : Heap} {w : World} {ids bor : List Nat} {blks : List Blk}

theorem muIn_inv {i c : Nat} (hi : muIn μ ids i = some c) : ∃ b, ids[i]? = some b ∧ μ b = some c := by
  unfold muIn at hi
  cases hb : ids[i]? with
  | none => rw [hb] at hi; cases hi
  | some b => rw [hb] at hi; exact ⟨b, rfl, hi⟩

theorem stable_in (W : Way h ids bor blks) {c : Nat} (h1 : ¬ F.fr c) (h2 : ∀ b, b ∉ bor → μ b ≠ some c) : @Stable (frIn F μ ids bor) (muIn μ ids) c := by
  refine ⟨fun i hi => ?_, fun hf => ?_⟩
  · obtain ⟨b, hb, hm⟩ := muIn_inv hi
    exact h2 b (fun hbor => W.dis b hbor (List.mem_of_getElem? hb)) hm
  · rcases hf with hf | ⟨b, hb, _, hnb⟩
    · exact h1 hf
    · exact h2 b hnb hb

theorem move_in (W : Way h ids bor blks) {v : V} {x : Value} (hv : @VRel F μ h w v x) (hcl : v.cl = true) : @VRel (frIn F μ ids bor) (muIn μ ids) (bheap blks) w v x :=
  VRel.move (F := F) _ (fun c hc hs => ⟨hc, rfl, stable_in W hs.2 (fun b _ => hs.1 b)⟩) hv hcl

theorem locV_in (W : Way h ids bor blks) (H : @HRel F μ h w) {v v' : V} {x : Value} (hl : LocV h ids bor v v') (hv : @VRel F μ h w v x) : @VRel (frIn F μ ids bor) (muIn μ ids) (bheap blks) w v' x := by
  cases hl with
  | lit y => exact move_in W hv rfl
  | imm e r => exact move_in W hv rfl
  | iptr r o => exact move_in W hv rfl
  | undef => exact @VRel.unk (frIn F μ ids bor) (muIn μ ids) (bheap blks) w x
  | fn f => exact move_in W hv rfl
  | ptr b i o n p hp =>
    cases hv with
    | ptr _ _ _ _ _ k hk hn' hx hpp =>
      obtain ⟨k1, k0, h1, h2, L⟩ := W.at_ p b hp
      rw [hk] at h1; cases h1
      refine @VRel.ptr (frIn F μ ids bor) (muIn μ ids) (bheap blks) w p i o n x k0 h2 (by rw [L.len, L.esz]; exact hn') hx (fun g1 g2 g3 => ?_)
      rw [L.esz] at g1 ⊢
      obtain ⟨c, c1, c2⟩ := hpp g1 (by rw [← L.len]; exact g2) g3
      exact ⟨c, by simp [muIn, hp, c1], c2⟩
  | sl b s n p hp =>
    cases hv with
    | sl _ _ _ _ k hk hn' hx hpp =>
      obtain ⟨k1, k0, h1, h2, L⟩ := W.at_ p b hp
      rw [hk] at h1; cases h1
      refine @VRel.sl (frIn F μ ids bor) (muIn μ ids) (bheap blks) w p s n x k0 h2 (by rw [L.len, L.esz]; exact hn') hx (fun g1 g2 => ?_)
      rw [L.esz] at g1 ⊢
      obtain ⟨a, cap, c1, c2⟩ := hpp g1 (by rw [← L.len]; exact g2)
      refine ⟨a, cap, c1, ?_⟩
      rcases c2 with c2 | ⟨c, d1, d2, d3, d4⟩
      · exact .inl c2
      · exact .inr ⟨c, by simp [muIn, hp, d1], d2, d3, d4⟩
  | bor b s n k hb hk ho h0 hn =>
    have h1 := @rows_imm μ h w F H b s n k x hk ho h0 hn hv (muSet μ b none) h (by simp [muSet]) (fun b' c hm => by
      unfold muSet at hm
      split at hm
      · cases hm
      · exact hm)
    refine VRel.move (F := F) _ (fun c hc hs => ⟨hc, rfl, stable_in W hs.2 (fun b' hb' => ?_)⟩) h1 rfl
    have hne : b' ≠ b := fun e => hb' (e ▸ hb)
    have := hs.1 b'
    simpa [muSet, hne] using this

theorem LocV.cellOf {v v' : V} (hl : LocV h ids bor v v') (hc : v.cell = true) : v'.cell = true := by
  cases hl <;> first | exact hc | rfl

theorem locA_in (W : Way h ids bor blks) (H : @HRel F μ h w) {v v' : V} {x : Value} (hl : LocA h ids bor v v') (hv : @VRel F μ h w v x) : @VRel (frIn F μ ids bor) (muIn μ ids) (bheap blks) w v' x := by
  cases hl with
  | cell _ _ hl => exact locV_in W H hl hv
  | agg cs cs' hlen hcs =>
    cases hv with
    | agg _ xs hl hcell hc =>
      refine @VRel.agg (frIn F μ ids bor) (muIn μ ids) (bheap blks) w cs' xs (by rw [hl, hlen]) (fun v hv => ?_) (fun i v hi => ?_)
      · obtain ⟨i, hi, rfl⟩ := List.getElem_of_mem hv
        have h1 : cs[i]? = some cs[i] := List.getElem?_eq_getElem (by omega)
        exact (hcs i _ _ h1 (List.getElem?_eq_getElem hi)).cellOf (hcell _ (List.mem_of_getElem? h1))
      · have hi' := getL_lt hi
        have h1 : cs[i]? = some cs[i] := List.getElem?_eq_getElem (by omega)
        exact locV_in W H (hcs i _ _ h1 hi) (hc i _ h1)
  | fn f cs cs' hlen hcs =>
    cases hv with
    | fn _ _ xs hl hc =>
      refine @VRel.fn (frIn F μ ids bor) (muIn μ ids) (bheap blks) w f cs' xs (by rw [hl, hlen]) (fun i v hi => ?_)
      have hi' := getL_lt hi
      have h1 : cs[i]? = some cs[i] := List.getElem?_eq_getElem (by omega)
      exact locV_in W H (hcs i _ _ h1 hi) (hc i _ h1)

theorem LocA.cellOf {v v' : V} (hl : LocA h ids bor v v') (hc : v.cell = true) : v'.cell = true := by
  cases hl with
  | cell _ _ h => exact h.cellOf hc
  | agg => simp [V.cell] at hc
  | fn => rfl

theorem Way.back (W : Way h ids bor blks) {i : Nat} {k0 : Blk} (hk : bheap blks i = some k0) : ∃ b k, ids[i]? = some b ∧ h b = some k ∧ LocB h ids bor k k0 := by
  have hlt := getL_lt hk
  obtain ⟨b, hi⟩ := getL_some (l := ids) (i := i) (by rw [W.len]; exact hlt)
  obtain ⟨k, k1, h1, h2, L⟩ := W.at_ i _ hi
  have : blks[i]? = some k0 := hk
  rw [h2] at this; cases this
  exact ⟨_, k, hi, h1, L⟩

theorem hrel_in (W : Way h ids bor blks) (H : @HRel F μ h w) : @HRel (frIn F μ ids bor) (muIn μ ids) (bheap blks) w := by
  refine @HRel.mk (frIn F μ ids bor) (muIn μ ids) (bheap blks) w (fun i i' c h1 h2 => ?_) (fun i c h1 => ?_) (fun i k0 hk => ?_) (fun i k0 hk => ?_) (fun i c h1 => ?_) (fun c hc => ?_)
  · obtain ⟨b, hb, hm⟩ := muIn_inv h1
    obtain ⟨b', hb', hm'⟩ := muIn_inv h2
    have := @HRel.inj F μ h w H _ _ _ hm hm'
    subst this
    exact (List.getElem?_inj (getL_lt hb) W.nd).1 (by rw [hb, hb'])
  · obtain ⟨b, hb, hm⟩ := muIn_inv h1
    obtain ⟨k, k0, g1, g2, L⟩ := W.at_ i b hb
    obtain ⟨k', hk', h0⟩ := @HRel.dom F μ h w H b c hm
    rw [g1] at hk'; cases hk'
    exact ⟨k0, g2, by rw [L.esz]; exact h0⟩
  · obtain ⟨b, k, hb, hkb, L⟩ := W.back hk
    rcases @HRel.blk F μ h w H b k hkb with ⟨g1, g2, g3⟩ | ⟨g0, c, arr, t, lo, hi, gm, gh, gf, gl, gv⟩
    · left
      rw [L.same g2]
      exact ⟨g1, g2, by simp [muIn, hb, g3]⟩
    · right
      refine ⟨by rw [L.esz]; exact g0, c, arr, t, lo, hi, by simp [muIn, hb, gm], gh, gf, by rw [L.len, L.esz]; exact gl, fun i2 row' j v' h1 h2 => ?_⟩
      rw [L.esz]
      cases hop : k.op with
      | false =>
        rw [L.same hop] at h1
        exact move_in W (gv i2 row' j v' h1 h2) ((@HRel.rows F μ h w H b k hkb row' (List.mem_of_getElem? h1)).2 v' (List.mem_of_getElem? h2) |>.2 hop)
      | true =>
        obtain ⟨row, h3⟩ := getL_some (l := k.rows) (i := i2) (by rw [← L.len]; exact getL_lt h1)
        obtain ⟨r1, r2⟩ := L.row hop i2 _ _ h3 h1
        obtain ⟨v, h4⟩ := getL_some (l := row) (i := j) (by rw [← r1]; exact getL_lt h2)
        exact locA_in W H (r2 j _ _ h4 h2) (gv i2 row j v h3 h4)
  · obtain ⟨b, k, hb, hkb, L⟩ := W.back hk
    intro row' hrow
    obtain ⟨i2, hi2, rfl⟩ := List.getElem_of_mem hrow
    have h1 : k0.rows[i2]? = some k0.rows[i2] := List.getElem?_eq_getElem hi2
    cases hop : k.op with
    | false =>
      have := L.same hop
      subst this
      have hr := @HRel.rows F μ h w H b k0 hkb _ (List.mem_of_getElem? h1)
      exact ⟨hr.1, fun v hv => ⟨(hr.2 v hv).1, fun _ => (hr.2 v hv).2 hop⟩⟩
    | true =>
      obtain ⟨row, h3⟩ := getL_some (l := k.rows) (i := i2) (by rw [← L.len]; exact hi2)
      obtain ⟨r1, r2⟩ := L.row hop i2 _ _ h3 h1
      have hr := @HRel.rows F μ h w H b k hkb _ (List.mem_of_getElem? h3)
      refine ⟨by rw [r1, hr.1, L.esz], fun v hv => ?_⟩
      obtain ⟨j, hj, rfl⟩ := List.getElem_of_mem hv
      obtain ⟨v, h4⟩ := getL_some (l := row) (i := j) (by omega)
      refine ⟨(r2 j _ _ h4 (List.getElem?_eq_getElem hj)).cellOf (hr.2 _ (List.mem_of_getElem? h4)).1, fun h5 => ?_⟩
      rw [L.op, hop] at h5; cases h5
  · obtain ⟨b, hb, hm⟩ := muIn_inv h1
    intro hf
    rcases hf with hf | ⟨b', hb', hn, _⟩
    · exact @HRel.frame F μ h w H b c hm hf
    · have := @HRel.inj F μ h w H _ _ _ hm hb'
      subst this
      exact hn (List.mem_of_getElem? hb)
  · rcases hc with hf | ⟨b, hb, _⟩
    · exact @HRel.frlt F μ h w H c hf
    · exact @HRel.lt F μ h w H b c hb

theorem prep_way {owns : FuncId → List Nat} {f : FuncId} {args args' : List V} (hp : callPrep owns h f args = some (args', blks, ids, bor)) :
    Way h ids bor blks ∧ args'.length = args.length ∧ ∀ (i : Nat) (v v' : V), args[i]? = some v → args'[i]? = some v' → LocA h ids bor v v' := by
  unfold callPrep at hp
  split at hp
  · cases hp
  · rename_i a1 ids0 bor1 h1
    split at hp
    · cases hp
    · rename_i bl ids1 h2
      split at hp
      · cases hp
      · rename_i hany
        cases hp
        obtain ⟨x1, x2, x3, x4⟩ := locArgs_spec h1
        obtain ⟨y1, y2, y3⟩ := locBlks_spec h2 (Nat.zero_le _)
        refine ⟨⟨y1.2.1 (x1.2.1 List.nodup_nil), by rw [y2]; omega, (fun i b hb => by obtain ⟨k, k0, g1, g2, g3⟩ := y3 i b (by simpa using hb); exact ⟨k, k0, g1, g2, g3.mono (fun p b hp => hp) (fun b hb => by simp at hb)⟩), fun b hb hm => hany ?_, x4⟩, x2, fun i v v' g1 g2 => (x3 i v v' g1 g2).mono (fun p b hp => y1.at hp) (fun b hb => hb)⟩
        rw [List.any_eq_true]
        exact ⟨b, hb, by simpa using hm⟩

end
end Go.AI
