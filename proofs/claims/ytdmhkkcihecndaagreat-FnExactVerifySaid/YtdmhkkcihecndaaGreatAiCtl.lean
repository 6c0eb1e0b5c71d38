/- Control and functions: a run of the abstract machine's is a run of the model's. -/
import Derived.Test.YtdmhkkcihecndaaGreatAiDraw2
import Derived.Test.YtdmhkkcihecndaaGreatAiLim
set_option linter.unusedVariables false
set_option linter.unusedSimpArgs false
namespace Go.AI
def ah.real:ah→Exit
 | .normal=> .normal
 | .exit id=> .exit id
 | .ret=> .ret
theorem T2 {P:Program} {Q:Exit→Act→World→Prop} {c:Code} (T:Nat→Act→World→Prop) (hz: ∀a w, ¬T 0 a w)
 (round: ∀k a w,T (k+1) a w→c.wp P (Exit.then (fun a' w'=>T k a' w') Q) a w) {k:Nat} {a:Act} {w:World} (h0:T k a w):(Code.loop c).wp P Q a w:=by
 intro b kk cs
 have key: ∀n a w,T n a w→ ∃e a' w',Q e a' w'∧Arrives P (lone (b.at a (.code c:: .inLoop c::kk)) cs w) b kk cs e a' w':=by
  intro n
  induction n with
  |zero=>exact fun a w h=>absurd h (hz a w)
  |succ n ih=>
   intro a w hT
   obtain ⟨e,a₁,w₁,hq,harr⟩:=round n a w hT b (.inLoop c::kk) cs
   cases e with
   |normal=>
    obtain ⟨e₂,a₂,w₂,hq₂,harr₂⟩:=ih a₁ w₁ hq
    exact ⟨e₂,a₂,w₂,hq₂,.of_steps (Steps.trans harr (.one step_inLoop)) harr₂⟩
   |exit id=>exact ⟨_,a₁,w₁,hq,.pass (x:= .inLoop c) rfl (fun _ _=> .inl (by simp)) harr⟩
   |goto l=>exact ⟨_,a₁,w₁,hq,.pass (x:= .inLoop c) rfl (fun _ _=> .inl (by simp)) harr⟩
   |ret=>exact ⟨_,a₁,w₁,hq,.pass (x:= .inLoop c) rfl (fun _ _=> .inl (by simp)) harr⟩
   |panic ch=>exact ⟨_,a₁,w₁,hq,.pass (x:= .inLoop c) rfl (fun _ _=> .inl (by simp)) harr⟩
   |outgrown=>exact ⟨_,a₁,w₁,hq,.pass (x:= .inLoop c) rfl (fun _ _=> .inl (by simp)) harr⟩
 obtain ⟨e,a',w',hq,harr⟩:=key k a w h0
 exact ⟨e,a',w',hq,.of_steps (.one step_loop) harr⟩
section
variable {P:Program} {C:aU} {ow:dl} {n:Nat} {hn:a0a}
theorem qY [Frame] {μ0:Mu} {h0:ak} {w0:World} {id:Nat} {ac:ae} {a:Act} {w:World} {r:ah×St}: ∀(gs:List (Nat×fO)) (k:Nat) (st:St) (μ:Mu),bA C ow k (y0 gs id ac) st=some r→Inv n st.get st.heap μ a w→jB μ0 h0 w0 μ st.heap w→
 ∃k' st1 μ1,k'≤k∧bA C ow k' ac st1=some r∧Inv n st1.get st1.heap μ1 a w∧jB μ0 h0 w0 μ1 st1.heap w
 |[],k,st,μ,h,I,S=>⟨k,st,μ,Nat.le_refl _,h,I,S⟩
 | (i,g)::gs,k,st,μ,h,I,S=>by
   simp only [y0,List.foldr_cons] at h
   split at h
   ·cases k with
    |zero=>simp [bA] at h
    |succ k=>
     simp only [bA] at h
     split at h
     ·rename_i st' hg
      obtain ⟨μ',I',S'⟩:=X8 hg I S
      obtain ⟨k',st1,μ1,hk,h1,I1,S1⟩:=qY gs k st' μ' h I' S'
      exact ⟨k',st1,μ1,by omega,h1,I1,S1⟩
     ·cases h
   ·exact qY gs k st μ h I S
theorem YO [Frame] (hC:gA P C) (hm:P.follows .mixedOrders=true) {μ0:Mu} {h0:ak} {w0:World}: ∀(k:Nat) (c:Code) (ac:ae) (st st':St) (e:ah) (μ:Mu) (a:Act) (w:World) (Q:Exit→Act→World→Prop),
 dX P n hn c=some ac→bA C ow k ac st=some (e,st')→Inv n st.get st.heap μ a w→jB μ0 h0 w0 μ st.heap w→
 (∀μ' a' w',Inv n st'.get st'.heap μ' a' w'→jB μ0 h0 w0 μ' st'.heap w'→Q e.real a' w')→c.wp P Q a w:=by
 intro k
 induction k using Nat.strongRecOn with
 |_ k ih=>
  intro c ac st st' e μ a w Q hc he I S K
  cases c with
  |skip=>
   simp only [dX,Option.some.injEq] at hc
   subst hc
   cases k with
   |zero=>simp [bA] at he
   |succ k=>simp only [bA,Option.some.injEq,Prod.mk.injEq] at he;obtain ⟨rfl,rfl⟩:=he;exact wp_skip (K μ a w I S)
  |exit id=>
   simp only [dX,Option.some.injEq] at hc
   subst hc
   cases k with
   |zero=>simp [bA] at he
   |succ k=>simp only [bA,Option.some.injEq,Prod.mk.injEq] at he;obtain ⟨rfl,rfl⟩:=he;exact wp_exit (K μ a w I S)
  |ret=>
   simp only [dX,Option.some.injEq] at hc
   subst hc
   cases k with
   |zero=>simp [bA] at he
   |succ k=>simp only [bA,Option.some.injEq,Prod.mk.injEq] at he;obtain ⟨rfl,rfl⟩:=he;exact wp_ret (K μ a w I S)
  |region id ops draw=>
   simp only [dX] at hc
   split at hc
   ·cases hc
   ·rename_i steps hst
    cases draw with
    |true=>
     simp only [if_true] at hc
     split at hc
     ·rename_i hd
      cases hc
      obtain ⟨k',st1,μ1,hk,h1,I1,S1⟩:=qY _ k st μ he I S
      cases k' with
      |zero=>simp [bA] at h1
      |succ k'=>
       simp only [bA] at h1
       have hreal:e= .normal:=by
        unfold uS at h1
        split at h1
        ·split at h1
         ·cases h1;rfl
         ·cases h1
        ·cases h1
       subst hreal
       exact (WS hC hm hst hd h1 I1 S1 K).2
     ·cases hc
    |false=>
     simp only [Bool.false_eq_true,if_false,Option.some.injEq] at hc
     subst hc
     obtain ⟨k',st1,μ1,hk,h1,I1,S1⟩:=qY _ k st μ he I S
     cases k' with
     |zero=>simp [bA] at h1
     |succ k'=>
      simp only [bA] at h1
      have hreal:e= .normal:=by
       unfold nO at h1
       split at h1
       ·cases h1;rfl
       ·cases h1
      subst hreal
      exact (RZ hC hst h1 I1 S1 K).2
  |seq x y=>
   simp only [dX] at hc
   split at hc
   ·rename_i ax ay hx hy
    cases hc
    cases k with
    |zero=>simp [bA] at he
    |succ k=>
     simp only [bA] at he
     refine wp_seq ?_
     cases hxe:bA C ow k ax st with
     |none=>rw [hxe] at he;cases he
     |some p=>
      obtain ⟨e1,st1⟩:=p
      rw [hxe] at he
      cases e1 with
      |normal=>exact ih k (by omega) x ax st st1 .normal μ a w _ hx hxe I S (fun μ' a' w' I' S'=>ih k (by omega) y ay st1 st' e μ' a' w' Q hy he I' S' K)
      |exit id=>cases he;exact ih k (by omega) x ax st st' (.exit id) μ a w _ hx hxe I S (fun μ' a' w' I' S'=>K μ' a' w' I' S')
      |ret=>cases he;exact ih k (by omega) x ax st st' .ret μ a w _ hx hxe I S (fun μ' a' w' I' S'=>K μ' a' w' I' S')
   ·cases hc
  |cond cd x y=>
   simp only [dX] at hc
   split at hc
   ·rename_i acd ax ay hcd hx hy
    cases hc
    cases k with
    |zero=>simp [bA] at he
    |succ k=>
     simp only [bA] at he
     have hv:=aS I.E hcd
     split at he
     ·rename_i hev
      rw [show Opd.ev st.get acd=_ from hev] at hv
      generalize hX:a.eval cd=X at hv
      cases hv
      exact wp_cond_true hX (ih k (by omega) x ax st st' e μ a w Q hx he I S K)
     ·rename_i hev
      rw [show Opd.ev st.get acd=_ from hev] at hv
      generalize hX:a.eval cd=X at hv
      cases hv
      exact wp_cond_false hX (ih k (by omega) y ay st st' e μ a w Q hy he I S K)
     ·cases he
   ·cases hc
  |block id x=>
   simp only [dX] at hc
   obtain ⟨ax,hx,rfl⟩:=map_some hc
   cases k with
   |zero=>simp [bA] at he
   |succ k=>
    simp only [bA] at he
    refine wp_block ?_
    cases hxe:bA C ow k ax st with
    |none=>rw [hxe] at he;cases he
    |some p=>
     obtain ⟨e1,st1⟩:=p
     rw [hxe] at he
     cases e1 with
     |normal=>cases he;exact ih k (by omega) x ax st st' .normal μ a w _ hx hxe I S (fun μ' a' w' I' S'=>K μ' a' w' I' S')
     |exit id'=>
      simp only at he
      refine ih k (by omega) x ax st st1 (.exit id') μ a w _ hx hxe I S (fun μ' a' w' I' S'=> ?_)
      show (if id'=id then Q .normal a' w' else Q (.exit id') a' w')
      split at he
      ·rename_i hid;cases he;rw [if_pos hid];exact K μ' a' w' I' S'
      ·rename_i hid;cases he;rw [if_neg hid];exact K μ' a' w' I' S'
     |ret=>cases he;exact ih k (by omega) x ax st st' .ret μ a w _ hx hxe I S (fun μ' a' w' I' S'=>K μ' a' w' I' S')
  |loop x=>
   simp only [dX] at hc
   obtain ⟨ax,hx,rfl⟩:=map_some hc
   refine T2 (k:=k) (fun j a w=>j≤k∧ ∃st1 μ1,bA C ow j (.loop ax) st1=some (e,st')∧Inv n st1.get st1.heap μ1 a w∧jB μ0 h0 w0 μ1 st1.heap w) (fun a w=> ?_) (fun j a w hT=> ?_) ⟨Nat.le_refl _,st,μ,he,I,S⟩
   ·rintro ⟨_,st1,μ1,h1,_⟩;simp [bA] at h1
   ·obtain ⟨hj,st1,μ1,h1,I1,S1⟩:=hT
    simp only [bA] at h1
    cases hxe:bA C ow j ax st1 with
    |none=>rw [hxe] at h1;cases h1
    |some p=>
     obtain ⟨e1,st2⟩:=p
     rw [hxe] at h1
     cases e1 with
     |normal=>exact ih j (by omega) x ax st1 st2 .normal μ1 a w _ hx hxe I1 S1 (fun μ' a' w' I' S'=>⟨by omega,st2,μ',h1,I',S'⟩)
     |exit id=>cases h1;exact ih j (by omega) x ax st1 st' (.exit id) μ1 a w _ hx hxe I1 S1 (fun μ' a' w' I' S'=>K μ' a' w' I' S')
     |ret=>cases h1;exact ih j (by omega) x ax st1 st' .ret μ1 a w _ hx hxe I1 S1 (fun μ' a' w' I' S'=>K μ' a' w' I' S')
  |_=>simp [dX] at hc
end
end Go.AI
