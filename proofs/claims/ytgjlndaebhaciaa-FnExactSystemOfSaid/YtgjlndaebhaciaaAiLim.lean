/- The limit of the abstract machine's runs: more rounds tell the same; the equations of the limit. -/
import Derived.Test.YtgjlndaebhaciaaAiDefs
namespace Go.AI
theorem pK {C C':aB} (hC: ∀f a b r,C f a b=some r→C' f a b=some r) {ow:bf} {h:ah} {new:Nat} {f:FuncId} {args:List V} {r:V×Upd}
 (hr:dN C ow h new f args=some r):dN C' ow h new f args=some r:=by
 unfold dN at hr ⊢
 cases hp:bn ow h f args with
 |none=>rw [hp] at hr;cases hr
 |some p=>
  obtain ⟨args',blks,ids,bor⟩:=p
  rw [hp] at hr
  dsimp only at hr ⊢
  cases hc:C f (gH (ow f) args') (gS (ow f) blks) with
  |none=>rw [hc] at hr;cases hr
  |some q=>rw [hC _ _ _ _ hc];rw [hc] at hr;exact hr
theorem rV {C C':aB} (hC: ∀f a b r,C f a b=some r→C' f a b=some r) {ow:bf} {o:AOp} {ev:Opd→V} {h:ah} {new:Nat} {r:V×Upd}
 (hr:ae C ow o ev h new=some r):ae C' ow o ev h new=some r:=by
 cases o
 case call f args=>simp only [ae] at hr ⊢;exact pK hC hr
 case dyn f args=>
  simp only [ae] at hr ⊢
  split at hr
  ·exact pK hC hr
  ·cases hr
 all_goals exact hr
theorem uv {C:Nat→aB} {D:aB} (hD: ∀f a b r,D f a b=some r→ ∃n,C n f a b=some r) (n0:Nat) {ow:bf} {o:AOp} {ev:Opd→V} {h:ah} {new:Nat} {r:V×Upd}
 (hr:ae D ow o ev h new=some r): ∃n,ae (C n) ow o ev h new=some r:=by
 have key: ∀f args,dN D ow h new f args=some r→ ∃n,dN (C n) ow h new f args=some r:=by
  intro f args hr
  unfold dN at hr
  cases hp:bn ow h f args with
  |none=>rw [hp] at hr;cases hr
  |some p=>
   obtain ⟨args',blks,ids,bor⟩:=p
   rw [hp] at hr
   dsimp only at hr
   cases hc:D f (gH (ow f) args') (gS (ow f) blks) with
   |none=>rw [hc] at hr;cases hr
   |some q=>
    rw [hc] at hr
    obtain ⟨n,hn⟩:=hD _ _ _ _ hc
    refine ⟨n, ?_⟩
    unfold dN
    rw [hp]
    dsimp only
    rw [hn]
    exact hr
 cases o
 case call f args=>simp only [ae] at hr ⊢;exact key _ _ hr
 case dyn f args=>
  simp only [ae] at hr ⊢
  split at hr
  ·exact key _ _ hr
  ·cases hr
 all_goals exact ⟨n0,hr⟩
theorem rA {C C':aB} (hC: ∀f a b r,C f a b=some r→C' f a b=some r) {ow:bf} {st:St} {s:aD} {n:Nat} {r:St}
 (hr:jJ C ow st s n=some r):jJ C' ow st s n=some r:=by
 unfold jJ at hr ⊢
 split at hr
 ·cases hr
 ·exact hr
 ·split at hr
  ·rename_i v u ho;rw [rV hC ho];exact hr
  ·cases hr
theorem hJ {C C':aB} (hC: ∀f a b r,C f a b=some r→C' f a b=some r) {ow:bf}: ∀{l:List aD} {n:Nat} {st:St} {r:St},
 co C ow l n st=some r→co C' ow l n st=some r
 |[],_,_,_,hr=>hr
 |s::l,n,st,r,hr=>by
  simp only [co] at hr ⊢
  split at hr
  ·rename_i st' h;rw [rA hC h];exact hJ hC hr
  ·cases hr
theorem sZ {C C':aB} (hC: ∀f a b r,C f a b=some r→C' f a b=some r) {ow:bf} {st:St} {s:aD} {i n:Nat} {r:St×Rec}
 (hr:iN C ow st s i n=some r):iN C' ow st s i n=some r:=by
 unfold iN at hr ⊢
 split at hr
 ·cases hr
 ·exact hr
 ·split at hr
  ·rename_i v u ho;rw [rV hC ho];exact hr
  ·cases hr
theorem hG {C C':aB} (hC: ∀f a b r,C f a b=some r→C' f a b=some r) {ow:bf} {base:Nat}: ∀{l:List aD} {n:Nat} {st:St} {r:St×List Rec},
 cp C ow base l n st=some r→cp C' ow base l n st=some r
 |[],_,_,_,hr=>hr
 |s::l,n,st,r,hr=>by
  simp only [cp] at hr ⊢
  split at hr
  ·rename_i st' rc h
   rw [sZ hC h]
   dsimp only
   split at hr
   ·rename_i st2 rs h2;rw [hG hC h2];exact hr
   ·cases hr
  ·cases hr
theorem aX {C C':aB} (hC: ∀f a b r,C f a b=some r→C' f a b=some r) {ow:bf}: ∀(n m:Nat),n≤m→ ∀{c:aA} {st:St} {r:aH×St},
 aN C ow n c st=some r→aN C' ow m c st=some r
 |0,_,_,_,_,_,hr=>by simp [aN] at hr
 |n+1,0,h,_,_,_,_=>absurd h (by omega)
 |n+1,m+1,h,c,st,r,hr=>by
  have ih:=fun {c st r}=>aX hC (ow:=ow) n m (by omega) (c:=c) (st:=st) (r:=r)
  cases c with
  |skip=>exact hr
  |region base steps live=>
   simp only [aN,fB] at hr ⊢
   split at hr
   ·rename_i st' h;rw [hJ hC h];exact hr
   ·cases hr
  |drawn base steps deps live=>
   simp only [aN,jy] at hr ⊢
   split at hr
   ·rename_i st' rs h;rw [hG hC h];exact hr
   ·cases hr
  |seq a b=>
   simp only [aN] at hr ⊢
   cases ha:aN C ow n a st with
   |none=>rw [ha] at hr;cases hr
   |some p=>
    obtain ⟨e,st'⟩:=p
    rw [ih ha]
    rw [ha] at hr
    cases e with
    |normal=>exact ih hr
    |exit id=>exact hr
    |ret=>exact hr
  |cond c a b=>
   simp only [aN] at hr ⊢
   split at hr
   ·exact ih hr
   ·exact ih hr
   ·cases hr
  |block id c=>
   simp only [aN] at hr ⊢
   cases ha:aN C ow n c st with
   |none=>rw [ha] at hr;cases hr
   |some p=>rw [ih ha];rw [ha] at hr;exact hr
  |loop c=>
   simp only [aN] at hr ⊢
   cases ha:aN C ow n c st with
   |none=>rw [ha] at hr;cases hr
   |some p=>
    obtain ⟨e,st'⟩:=p
    rw [ih ha]
    rw [ha] at hr
    cases e with
    |normal=>exact ih hr
    |exit id=>exact hr
    |ret=>exact hr
  |exit id=>exact hr
  |ret=>exact hr
  |ghost g c=>
   simp only [aN] at hr ⊢
   split at hr
   ·exact ih hr
   ·cases hr
theorem rU (T:Tab) (ow:bf): ∀(n:Nat) f a b r,bq T ow n f a b=some r→bq T ow (n+1) f a b=some r
 |0,_,_,_,_,h=>by simp [bq] at h
 |n+1,f,a,b,r,h=>by
  simp only [bq] at h ⊢
  split at h
  ·cases h
  rotate_left
  ·exact h
  ·rename_i af haf
   cases he:aN (bq T ow n) ow n af.body (start a b) with
   |none=>rw [he] at h;simp [cU,yl] at h
   |some p=>
    have:=aX (rU T ow n) (ow:=ow) n (n+1) (by omega) he
    simp only [bq] at this
    rw [this]
    rw [he] at h
    exact h
theorem b6 (T:Tab) (ow:bf) {n m:Nat} (h:n≤m): ∀f a b r,bq T ow n f a b=some r→bq T ow m f a b=some r:=by
 induction h with
 |refl=>exact fun _ _ _ _ h=>h
 |step _ ih=>exact fun f a b r h=>rU T ow _ f a b r (ih f a b r h)
open Classical in
noncomputable def lim {α:Type} (g:Nat→Option α):Option α:=if h: ∃n r,g n=some r then g h.choose else none
theorem Ax {α:Type} {g:Nat→Option α} (hm: ∀n m r,n≤m→g n=some r→g m=some r) {n:Nat} {r:α} (h:g n=some r):lim g=some r:=by
 have hx: ∃n r,g n=some r:=⟨n,r,h⟩
 unfold lim
 rw [dif_pos hx]
 obtain ⟨r',hr'⟩:=hx.choose_spec
 have h1:=hm _ (max n hx.choose) _ (Nat.le_max_left _ _) h
 have h2:=hm _ (max n hx.choose) _ (Nat.le_max_right _ _) hr'
 rw [h1] at h2
 rw [hr', ←h2]
theorem AF {α:Type} {g:Nat→Option α} {r:α} (h:lim g=some r): ∃n,g n=some r:=by
 unfold lim at h
 split at h
 ·exact ⟨_,h⟩
 ·cases h
noncomputable def Call (T:Tab) (ow:bf):aB:=fun f a b=>lim fun n=>bq T ow n f a b
noncomputable def bO (T:Tab) (ow:bf) (c:aA) (st:St):Option (aH×St):=lim fun n=>aN (bq T ow n) ow n c st
section
variable {T:Tab} {ow:bf}
theorem KQ {n m:Nat} (h:n≤m) {c:aA} {st:St} {r:aH×St} (hr:aN (bq T ow n) ow n c st=some r):aN (bq T ow m) ow m c st=some r:=
 aX (b6 T ow h) n m h hr
theorem bG {n:Nat} {c:aA} {st:St} {r:aH×St} (h:aN (bq T ow n) ow n c st=some r):bO T ow c st=some r:=
 Ax (g:=fun n=>aN (bq T ow n) ow n c st) (fun _ _ _ hnm h=>KQ hnm h) h
theorem cI {c:aA} {st:St} {r:aH×St} (h:bO T ow c st=some r): ∃n,aN (bq T ow n) ow n c st=some r:=AF h
theorem uN {n:Nat} {f:FuncId} {a:List V} {b:List Blk} {r:V×List Blk} (h:bq T ow n f a b=some r):Call T ow f a b=some r:=
 Ax (g:=fun n=>bq T ow n f a b) (fun _ _ _ hnm h=>b6 T ow hnm _ _ _ _ h) h
theorem qV {f:FuncId} {a:List V} {b:List Blk} {r:V×List Blk} (h:Call T ow f a b=some r): ∃n,bq T ow n f a b=some r:=AF h
theorem iC {α:Type} {a b:Option α} (h1: ∀r,a=some r→b=some r) (h2: ∀r,b=some r→a=some r):a=b:=by
 cases a with
 |none=>cases b with
  |none=>rfl
  |some r=>exact absurd (h2 r rfl) (by simp)
 |some r=>exact (h1 r rfl).symm
theorem sS: ∀{l:List aD} {n:Nat} {st:St} {r:St},co (Call T ow) ow l n st=some r→ ∃k,co (bq T ow k) ow l n st=some r
 |[],_,_,_,h=>⟨0,h⟩
 |s::l,n,st,r,h=>by
  simp only [co] at h
  cases h1:jJ (Call T ow) ow st s n with
  |none=>rw [h1] at h;cases h
  |some st'=>
   rw [h1] at h
   obtain ⟨k2,hk2⟩:=sS h
   have: ∃k,jJ (bq T ow k) ow st s n=some st':=by
    unfold jJ at h1 ⊢
    split at h1
    ·cases h1
    ·exact ⟨0,h1⟩
    ·split at h1
     ·rename_i v u ho
      obtain ⟨k,hk⟩:=uv (C:=bq T ow) (D:=Call T ow) (fun _ _ _ _ h=>qV h) 0 ho
      exact ⟨k,by rw [hk];exact h1⟩
     ·cases h1
   obtain ⟨k1,hk1⟩:=this
   refine ⟨max k1 k2, ?_⟩
   simp only [co]
   rw [rA (b6 T ow (Nat.le_max_left k1 k2)) hk1]
   exact hJ (b6 T ow (Nat.le_max_right k1 k2)) hk2
theorem sO {base:Nat}: ∀{l:List aD} {n:Nat} {st:St} {r:St×List Rec},cp (Call T ow) ow base l n st=some r→ ∃k,cp (bq T ow k) ow base l n st=some r
 |[],_,_,_,h=>⟨0,h⟩
 |s::l,n,st,r,h=>by
  simp only [cp] at h
  cases h1:iN (Call T ow) ow st s n (base+n) with
  |none=>rw [h1] at h;cases h
  |some p=>
   obtain ⟨st',rc⟩:=p
   rw [h1] at h
   dsimp only at h
   cases h2:cp (Call T ow) ow base l (n+1) st' with
   |none=>rw [h2] at h;cases h
   |some q=>
    obtain ⟨st2,rs⟩:=q
    rw [h2] at h
    obtain ⟨k2,hk2⟩:=sO h2
    have: ∃k,iN (bq T ow k) ow st s n (base+n)=some (st',rc):=by
     unfold iN at h1 ⊢
     split at h1
     ·cases h1
     ·exact ⟨0,h1⟩
     ·split at h1
      ·rename_i v u ho
       obtain ⟨k,hk⟩:=uv (C:=bq T ow) (D:=Call T ow) (fun _ _ _ _ h=>qV h) 0 ho
       exact ⟨k,by rw [hk];exact h1⟩
      ·cases h1
    obtain ⟨k1,hk1⟩:=this
    refine ⟨max k1 k2, ?_⟩
    simp only [cp]
    rw [sZ (b6 T ow (Nat.le_max_left k1 k2)) hk1]
    dsimp only
    rw [hG (b6 T ow (Nat.le_max_right k1 k2)) hk2]
    exact h
theorem rH (k:Nat): ∀f a b r,bq T ow k f a b=some r→Call T ow f a b=some r:=fun _ _ _ _ h=>uN h
theorem Cg (st:St):bO T ow .skip st=some (.normal,st):=bG (n:=1) rfl
theorem DN (id:Nat) (st:St):bO T ow (.exit id) st=some (.exit id,st):=bG (n:=1) rfl
theorem Gz (st:St):bO T ow .ret st=some (.ret,st):=bG (n:=1) rfl
theorem pZ (base:Nat) (steps:List aD) (live:List Nat) (st:St):bO T ow (.region base steps live) st=fB (Call T ow) ow base steps live st:=by
 refine iC (fun r h=> ?_) (fun r h=> ?_)
 ·obtain ⟨n,hn⟩:=cI h
  cases n with
  |zero=>simp [aN] at hn
  |succ n=>
   simp only [aN,fB] at hn ⊢
   split at hn
   ·rename_i st' h';rw [hJ (rH (n+1)) h'];exact hn
   ·cases hn
 ·unfold fB at h
  split at h
  ·rename_i st' h'
   obtain ⟨k,hk⟩:=sS h'
   refine bG (n:=k+1) ?_
   simp only [aN,fB]
   rw [hJ (b6 T ow (Nat.le_succ k)) hk]
   exact h
  ·cases h
theorem zr (base:Nat) (steps:List aD) (deps:List (List Nat)) (live:List Nat) (st:St):
 bO T ow (.drawn base steps deps live) st=jy (Call T ow) ow base steps deps live st:=by
 refine iC (fun r h=> ?_) (fun r h=> ?_)
 ·obtain ⟨n,hn⟩:=cI h
  cases n with
  |zero=>simp [aN] at hn
  |succ n=>
   simp only [aN,jy] at hn ⊢
   split at hn
   ·rename_i st' rs h';rw [hG (rH (n+1)) h'];exact hn
   ·cases hn
 ·unfold jy at h
  split at h
  ·rename_i st' rs h'
   obtain ⟨k,hk⟩:=sO h'
   refine bG (n:=k+1) ?_
   simp only [aN,jy]
   rw [hG (b6 T ow (Nat.le_succ k)) hk]
   exact h
  ·cases h
theorem ou (a b:aA) (st:St):bO T ow (.seq a b) st=(match bO T ow a st with
 |some (.normal,st')=>bO T ow b st'
 |r=>r):=by
 refine iC (fun r h=> ?_) (fun r h=> ?_)
 ·obtain ⟨n,hn⟩:=cI h
  cases n with
  |zero=>simp [aN] at hn
  |succ n=>
   simp only [aN] at hn
   cases ha:aN (bq T ow (n+1)) ow n a st with
   |none=>rw [ha] at hn;cases hn
   |some p=>
    obtain ⟨e,st'⟩:=p
    rw [bG (aX (fun _ _ _ _ h=>h) n (n+1) (by omega) ha)]
    rw [ha] at hn
    cases e with
    |normal=>exact bG (aX (fun _ _ _ _ h=>h) n (n+1) (by omega) hn)
    |exit id=>exact hn
    |ret=>exact hn
 ·cases ha:bO T ow a st with
  |none=>rw [ha] at h;cases h
  |some p=>
   obtain ⟨e,st'⟩:=p
   rw [ha] at h
   obtain ⟨n,hn⟩:=cI ha
   cases e with
   |normal=>
    obtain ⟨m,hm⟩:=cI (show bO T ow b st'=some r from h)
    refine bG (n:=max n m+1) ?_
    simp only [aN]
    rw [aX (b6 T ow (by omega)) n (max n m) (by omega) hn]
    exact aX (b6 T ow (by omega)) m (max n m) (by omega) hm
   |exit id=>
    refine bG (n:=n+1) ?_
    simp only [aN]
    rw [aX (b6 T ow (by omega)) n n (by omega) hn]
    exact h
   |ret=>
    refine bG (n:=n+1) ?_
    simp only [aN]
    rw [aX (b6 T ow (by omega)) n n (by omega) hn]
    exact h
theorem CX (c:Opd) (a b:aA) (st:St):bO T ow (.cond c a b) st=(match st.ev c with
 | .lit (.bool true)=>bO T ow a st
 | .lit (.bool false)=>bO T ow b st
 |_=>none):=by
 refine iC (fun r h=> ?_) (fun r h=> ?_)
 ·obtain ⟨n,hn⟩:=cI h
  cases n with
  |zero=>simp [aN] at hn
  |succ n=>
   simp only [aN] at hn
   split at hn
   ·rename_i hc;simp only [hc];exact bG (aX (fun _ _ _ _ h=>h) n (n+1) (by omega) hn)
   ·rename_i hc;simp only [hc];exact bG (aX (fun _ _ _ _ h=>h) n (n+1) (by omega) hn)
   ·cases hn
 ·split at h
  ·rename_i hc
   obtain ⟨n,hn⟩:=cI h
   refine bG (n:=n+1) ?_
   simp only [aN,hc]
   exact aX (b6 T ow (by omega)) n n (by omega) hn
  ·rename_i hc
   obtain ⟨n,hn⟩:=cI h
   refine bG (n:=n+1) ?_
   simp only [aN,hc]
   exact aX (b6 T ow (by omega)) n n (by omega) hn
  ·cases h
theorem oh (id:Nat) (c:aA) (st:St):bO T ow (.block id c) st=(match bO T ow c st with
 |some (.exit id',st')=>if id'=id then some (.normal,st') else some (.exit id',st')
 |r=>r):=by
 refine iC (fun r h=> ?_) (fun r h=> ?_)
 ·obtain ⟨n,hn⟩:=cI h
  cases n with
  |zero=>simp [aN] at hn
  |succ n=>
   simp only [aN] at hn
   cases ha:aN (bq T ow (n+1)) ow n c st with
   |none=>rw [ha] at hn;cases hn
   |some p=>
    rw [bG (aX (fun _ _ _ _ h=>h) n (n+1) (by omega) ha)]
    rw [ha] at hn
    exact hn
 ·cases ha:bO T ow c st with
  |none=>rw [ha] at h;cases h
  |some p=>
   obtain ⟨n,hn⟩:=cI ha
   refine bG (n:=n+1) ?_
   simp only [aN]
   rw [aX (b6 T ow (by omega)) n n (by omega) hn]
   rw [ha] at h
   exact h
theorem uz (c:aA) (st:St):bO T ow (.loop c) st=(match bO T ow c st with
 |some (.normal,st')=>bO T ow (.loop c) st'
 |r=>r):=by
 refine iC (fun r h=> ?_) (fun r h=> ?_)
 ·obtain ⟨n,hn⟩:=cI h
  cases n with
  |zero=>simp [aN] at hn
  |succ n=>
   simp only [aN] at hn
   cases ha:aN (bq T ow (n+1)) ow n c st with
   |none=>rw [ha] at hn;cases hn
   |some p=>
    obtain ⟨e,st'⟩:=p
    rw [bG (aX (fun _ _ _ _ h=>h) n (n+1) (by omega) ha)]
    rw [ha] at hn
    cases e with
    |normal=>exact bG (aX (fun _ _ _ _ h=>h) n (n+1) (by omega) hn)
    |exit id=>exact hn
    |ret=>exact hn
 ·cases ha:bO T ow c st with
  |none=>rw [ha] at h;cases h
  |some p=>
   obtain ⟨e,st'⟩:=p
   rw [ha] at h
   obtain ⟨n,hn⟩:=cI ha
   cases e with
   |normal=>
    obtain ⟨m,hm⟩:=cI (show bO T ow (.loop c) st'=some r from h)
    refine bG (n:=max n m+1) ?_
    simp only [aN]
    rw [aX (b6 T ow (by omega)) n (max n m) (by omega) hn]
    exact aX (b6 T ow (by omega)) m (max n m) (by omega) hm
   |exit id=>
    refine bG (n:=n+1) ?_
    simp only [aN]
    rw [aX (b6 T ow (by omega)) n n (by omega) hn]
    exact h
   |ret=>
    refine bG (n:=n+1) ?_
    simp only [aN]
    rw [aX (b6 T ow (by omega)) n n (by omega) hn]
    exact h
theorem dm (g:bu) (c:aA) (st:St):bO T ow (.ghost g c) st=(match aM st g with
 |some st'=>bO T ow c st'
 |none=>none):=by
 refine iC (fun r h=> ?_) (fun r h=> ?_)
 ·obtain ⟨n,hn⟩:=cI h
  cases n with
  |zero=>simp [aN] at hn
  |succ n=>
   simp only [aN] at hn
   split at hn
   ·rename_i st' hg;simp only [hg];exact bG (aX (fun _ _ _ _ h=>h) n (n+1) (by omega) hn)
   ·cases hn
 ·split at h
  ·rename_i st' hg
   obtain ⟨n,hn⟩:=cI h
   refine bG (n:=n+1) ?_
   simp only [aN,hg]
   exact aX (b6 T ow (by omega)) n n (by omega) hn
  ·cases h
theorem B1 (f:FuncId) (a:List V) (b:List Blk):Call T ow f a b=(match T f with
 |none=>none
 |some (.code af)=>yl af (cU af b.length (bO T ow af.body (start a b)))
 |some (.ext g)=>g a b):=by
 refine iC (fun r h=> ?_) (fun r h=> ?_)
 ·obtain ⟨n,hn⟩:=qV h
  cases n with
  |zero=>simp [bq] at hn
  |succ n=>
   simp only [bq] at hn
   split at hn
   ·cases hn
   rotate_left
   ·rename_i g hg;simp only [hg];exact hn
   ·rename_i af haf
    cases he:aN (bq T ow n) ow n af.body (start a b) with
    |none=>rw [he] at hn;simp [cU,yl] at hn
    |some p=>simp only [haf];rw [bG he];rw [he] at hn;exact hn
 ·split at h
  ·cases h
  rotate_left
  ·rename_i g hg
   refine uN (n:=1) ?_
   simp only [bq,hg]
   exact h
  ·rename_i af haf
   cases he:bO T ow af.body (start a b) with
   |none=>rw [he] at h;simp [cU,yl] at h
   |some p=>
    obtain ⟨n,hn⟩:=cI he
    refine uN (n:=n+1) ?_
    simp only [bq,haf]
    rw [hn]
    rw [he] at h
    exact h
end
end Go.AI
set_option linter.unusedVariables false
set_option linter.unusedSimpArgs false
namespace Go.AI
def br {α:Type} (c:Bool) (x y:α):α:=match c with
 |true=>x
 |false=>y
theorem bI {α:Type} (x y:α):br true x y=x:=rfl
theorem aZ {α:Type} (x y:α):br false x y=y:=rfl
theorem SD {α:Type} (c:Bool) (x y:α):br (!c) x y=br c y x:=by cases c<;>rfl
theorem T9 {α:Type} {c:Bool} {x y r:α} (h:c=true) (hx:x=r):br c x y=r:=by subst h;exact hx
theorem Tb {α:Type} {c:Bool} {x y r:α} (h:c=false) (hy:y=r):br c x y=r:=by subst h;exact hy
theorem brc {α:Type} {c:Bool} {x y r:α} (h:br c x y=r):(c=true∧x=r)∨(c=false∧y=r):=by
 cases c
 ·exact .inr ⟨rfl,h⟩
 ·exact .inl ⟨rfl,h⟩
theorem brg {α:Type} {c:Bool} {x:Option α} {r:α} (h:br c x none=some r):c=true∧x=some r:=by
 cases c
 ·cases h
 ·exact ⟨rfl,h⟩
theorem bd {α β:Type} {x:Option α} {g:α→Option β} {r:β} (h:x.bind g=some r): ∃a,x=some a∧g a=some r:=by
 cases x with
 |none=>cases h
 |some a=>exact ⟨a,rfl,h⟩
inductive Fr where
 |code (c:aA)
 |steps (n:Nat) (ss:List aD) (live:List Nat)
 |dr (base i:Nat) (ss:List aD) (deps:List (List Nat)) (live:List Nat) (rs:List Rec)
 |blk (id:Nat)
section
variable {R:Type}
noncomputable def gy (T:Tab) (ow:bf) (k:aH→St→Option R):List Fr→Option Nat→St→Option R
 |[],none,st=>k .normal st
 |[],some id,st=>k (.exit id) st
 | .blk id'::K,some id,st=>if id'=id then gy T ow k K none st else gy T ow k K (some id) st
 |_::K,some id,st=>gy T ow k K (some id) st
 | .blk _::K,none,st=>gy T ow k K none st
 | .code c::K,none,st=>match bO T ow c st with
   |some (.normal,st')=>gy T ow k K none st'
   |some (.exit id,st')=>gy T ow k K (some id) st'
   |some (.ret,st')=>k .ret st'
   |none=>none
 | .steps n ss live::K,none,st=>match co (Call T ow) ow ss n st with
   |some st'=>gy T ow k K none (trim live st')
   |none=>none
 | .dr base i ss deps live rs::K,none,st=>match cp (Call T ow) ow base ss i st with
   |some (st',rs')=>br (eR deps (rs++rs'.filter Rec.loud)) (gy T ow k K none (trim live st')) none
   |none=>none
noncomputable def Rn (T:Tab) (ow:bf) (k:aH→St→Option R) (K:List Fr) (st:St):Option R:=gy T ow k K none st
noncomputable def Unw (T:Tab) (ow:bf) (k:aH→St→Option R) (id:Nat) (K:List Fr) (st:St):Option R:=gy T ow k K (some id) st
noncomputable def goR (T:Tab) (ow:bf) (k:aH→St→Option R) (K:List Fr):Option (aH×St)→Option R
 |some (.normal,st')=>Rn T ow k K st'
 |some (.exit id,st')=>Unw T ow k id K st'
 |some (.ret,st')=>k .ret st'
 |none=>none
variable {T:Tab} {ow:bf} {k:aH→St→Option R}
theorem be (c:aA) (K:List Fr) (st:St):Rn T ow k (.code c::K) st=goR T ow k K (bO T ow c st):=by
 unfold Rn gy goR
 cases bO T ow c st with
 |none=>rfl
 |some p=>obtain ⟨e,st'⟩:=p;cases e<;>rfl
theorem JR (st:St):Rn T ow k [] st=k .normal st:=rfl
theorem MC (id:Nat) (K:List Fr) (st:St):Rn T ow k (.blk id::K) st=Rn T ow k K st:=rfl
theorem EZ (K:List Fr) (st:St):Rn T ow k (.code .skip::K) st=Rn T ow k K st:=by rw [be,Cg];rfl
theorem GV (id:Nat) (K:List Fr) (st:St):Rn T ow k (.code (.exit id)::K) st=Unw T ow k id K st:=by rw [be,DN];rfl
theorem Kt (K:List Fr) (st:St):Rn T ow k (.code .ret::K) st=k .ret st:=by rw [be,Gz];rfl
theorem Jf (a b:aA) (K:List Fr) (st:St):Rn T ow k (.code (.seq a b)::K) st=Rn T ow k (.code a:: .code b::K) st:=by
 rw [be,ou,be]
 cases bO T ow a st with
 |none=>rfl
 |some p=>
  obtain ⟨e,st'⟩:=p
  cases e with
  |normal=>simp only [goR];rw [be];rfl
  |exit id=>rfl
  |ret=>rfl
theorem E4 (id:Nat) (c:aA) (K:List Fr) (st:St):Rn T ow k (.code (.block id c)::K) st=Rn T ow k (.code c:: .blk id::K) st:=by
 rw [be,oh,be]
 cases bO T ow c st with
 |none=>rfl
 |some p=>
  obtain ⟨e,st'⟩:=p
  cases e with
  |normal=>rfl
  |exit id'=>
   simp only [goR,Unw,Rn,gy]
   by_cases h:id'=id
   ·subst h;simp
   ·rw [if_neg h,if_neg (fun e=>h e.symm)]
  |ret=>rfl
noncomputable def IK (T:Tab) (ow:bf) (k:aH→St→Option R) (a b:aA) (K:List Fr) (st:St):V→Option R
 | .lit (.bool c)=>br c (Rn T ow k (.code a::K) st) (Rn T ow k (.code b::K) st)
 |_=>none
theorem HQ (c:Opd) (a b:aA) (K:List Fr) (st:St):Rn T ow k (.code (.cond c a b)::K) st=IK T ow k a b K st (st.ev c):=by
 rw [be,CX]
 unfold IK
 split
 ·rename_i h;rw [h];exact (be _ _ _).symm
 ·rename_i h;rw [h];exact (be _ _ _).symm
 ·rename_i h1 h2
  split
  ·rename_i c' h;cases c'
   ·exact absurd h h2
   ·exact absurd h h1
  ·rfl
theorem zt (a b:aA) (K:List Fr) (st:St) (c:Bool):IK T ow k a b K st (.lit (.bool c))=br c (Rn T ow k (.code a::K) st) (Rn T ow k (.code b::K) st):=rfl
noncomputable def ghR (T:Tab) (ow:bf) (k:aH→St→Option R) (c:aA) (K:List Fr):Option St→Option R
 |some st'=>Rn T ow k (.code c::K) st'
 |none=>none
theorem DJ (g:bu) (c:aA) (K:List Fr) (st:St):Rn T ow k (.code (.ghost g c)::K) st=ghR T ow k c K (aM st g):=by
 rw [be,dm]
 cases aM st g with
 |none=>rfl
 |some st'=>simp only [ghR];rw [be]
theorem Gr (c:aA) (K:List Fr) (st:St):ghR T ow k c K (some st)=Rn T ow k (.code c::K) st:=rfl
theorem RK (c:aA) (K:List Fr) (st:St):Rn T ow k (.code (.loop c)::K) st=goR T ow k K (bO T ow (.loop c) st):=be _ _ _
theorem zK (K:List Fr) (st:St):goR T ow k K (some (.normal,st))=Rn T ow k K st:=rfl
theorem GL (id:Nat) (K:List Fr) (st:St):goR T ow k K (some (.exit id,st))=Unw T ow k id K st:=rfl
theorem L7 (K:List Fr) (st:St):goR T ow k K (some (.ret,st))=k .ret st:=rfl
theorem Jn (id:Nat) (st:St):Unw T ow k id [] st=k (.exit id) st:=rfl
theorem Ft (id:Nat) (c:aA) (K:List Fr) (st:St):Unw T ow k id (.code c::K) st=Unw T ow k id K st:=rfl
theorem Ls (id id':Nat) (K:List Fr) (st:St):Unw T ow k id (.blk id'::K) st=if id'=id then Rn T ow k K st else Unw T ow k id K st:=rfl
theorem zl (n:Nat) (ss:List aD) (live:List Nat) (K:List Fr) (st:St):Rn T ow k (.code (.region n ss live)::K) st=Rn T ow k (.steps n ss live::K) st:=by
 rw [be,pZ]
 unfold fB
 simp only [Rn,gy]
 cases co (Call T ow) ow ss n st<;>rfl
theorem E3 (n:Nat) (ss:List aD) (deps:List (List Nat)) (live:List Nat) (K:List Fr) (st:St):Rn T ow k (.code (.drawn n ss deps live)::K) st=Rn T ow k (.dr n 0 ss deps live []::K) st:=by
 rw [be,zr]
 unfold jy
 simp only [Rn,gy]
 cases cp (Call T ow) ow n ss 0 st with
 |none=>rfl
 |some p=>
  obtain ⟨st',rs⟩:=p
  simp only [List.nil_append]
  cases eR deps (rs.filter Rec.loud)<;>rfl
theorem tC (n:Nat) (live:List Nat) (K:List Fr) (st:St):Rn T ow k (.steps n [] live::K) st=Rn T ow k K (trim live st):=rfl
noncomputable def aft (T:Tab) (ow:bf) (k:aH→St→Option R) (d:Option Nat) (n:Nat) (ss:List aD) (live:List Nat) (K:List Fr) (st:St):Option (V×Upd)→Option R
 |some (v,u)=>Rn T ow k (.steps (n+1) ss live::K) ((st.upd u).put d v)
 |none=>none
variable {d:Option Nat} {n:Nat} {ss:List aD} {live:List Nat} {K:List Fr} {st:St}
theorem BX (op:AOp):Rn T ow k (.steps n (⟨d,op,none⟩::ss) live::K) st=aft T ow k d n ss live K st (ae (Call T ow) ow op st.ev st.heap n):=by
 unfold aft
 simp only [Rn,gy,co,jJ,St.want]
 cases ae (Call T ow) ow op st.ev st.heap n with
 |none=>rfl
 |some p=>obtain ⟨v,u⟩:=p;rfl
theorem EA (v:V) (u:Upd):aft T ow k d n ss live K st (some (v,u))=Rn T ow k (.steps (n+1) ss live::K) ((st.upd u).put d v):=rfl
theorem F6:aft T ow k d n ss live K st none=none:=rfl
theorem Q7 (c:Bool) (x y:Option (V×Upd)):aft T ow k d n ss live K st (br c x y)=br c (aft T ow k d n ss live K st x) (aft T ow k d n ss live K st y):=by cases c<;>rfl
theorem FU {α:Type} (x:Option α) (f:α→Option (V×Upd)):aft T ow k d n ss live K st (x.bind f)=x.bind (fun a=>aft T ow k d n ss live K st (f a)):=by cases x<;>rfl
noncomputable def gd (T:Tab) (ow:bf) (k:aH→St→Option R) (t:Nat) (b:Bool) (d:Option Nat) (op:AOp) (n:Nat) (ss:List aD) (live:List Nat) (K:List Fr) (st:St):V→Option R
 | .lit (.bool c)=>br (c==b) (Rn T ow k (.steps n (⟨d,op,none⟩::ss) live::K) { st with e:=ci t (.lit (.bool c)) st.e })
  (Rn T ow k (.steps (n+1) ss live::K) ({ st with e:=ci t (.lit (.bool c)) st.e }.put d (.lit (.tuple #[]))))
 | .lit (.tuple _)=>Rn T ow k (.steps (n+1) ss live::K) (st.put d (.lit (.tuple #[])))
 |_=>none
theorem ur {α:Type}: ∀{l:List (Nat×α)} {t:Nat} {v:α},b7 l t=some v→ci t v l=l
 |[],_,_,h=>by simp [b7] at h
 | (j,u)::r,t,v,h=>by
   simp only [b7] at h
   simp only [ci]
   split at h
   ·rename_i e;cases h;subst e;simp
   ·rename_i e;rw [if_neg e,ur h]
theorem yH {v:V} {t:Nat} (h:st.get t=v) (hv:v≠ .undef):({ st with e:=ci t v st.e }:St)=st:=by
 unfold St.get at h
 cases ha:b7 st.e t with
 |none=>rw [ha] at h;exact absurd h.symm hv
 |some u=>
  rw [ha] at h;cases h
  show ({ st with e:=ci t u st.e }:St)=st
  rw [ur ha]
theorem DK (t:Nat) (b:Bool) (op:AOp):Rn T ow k (.steps n (⟨d,op,some (t,b)⟩::ss) live::K) st=gd T ow k t b d op n ss live K st (st.get t):=by
 cases hg:st.get t with
 |lit v=>
  cases v with
  |bool c=>
   simp only [gd]
   rw [yH hg (by simp)]
   simp only [Rn,gy,co,jJ,St.want,hg]
   cases hcb:(c==b)
   ·simp [aZ,hcb]
   ·simp [bI,hcb]
  |tuple xs=>simp only [gd];simp only [Rn,gy,co,jJ,St.want,hg]
  |_=>simp only [gd];simp only [Rn,gy,co,jJ,St.want,hg]
 |_=>simp only [gd];simp only [Rn,gy,co,jJ,St.want,hg]
theorem Kk (t:Nat) (op:AOp) (c:Bool):gd T ow k t true d op n ss live K st (.lit (.bool c))=
 br c (Rn T ow k (.steps n (⟨d,op,none⟩::ss) live::K) { st with e:=ci t (.lit (.bool true)) st.e })
  (Rn T ow k (.steps (n+1) ss live::K) ({ st with e:=ci t (.lit (.bool false)) st.e }.put d (.lit (.tuple #[])))):=by cases c<;>rfl
theorem Hj (t:Nat) (op:AOp) (c:Bool):gd T ow k t false d op n ss live K st (.lit (.bool c))=
 br c (Rn T ow k (.steps (n+1) ss live::K) ({ st with e:=ci t (.lit (.bool true)) st.e }.put d (.lit (.tuple #[]))))
  (Rn T ow k (.steps n (⟨d,op,none⟩::ss) live::K) { st with e:=ci t (.lit (.bool false)) st.e }):=by cases c<;>rfl
theorem EG (t:Nat) (b:Bool) (op:AOp) (xs:Array Value):gd T ow k t b d op n ss live K st (.lit (.tuple xs))=Rn T ow k (.steps (n+1) ss live::K) (st.put d (.lit (.tuple #[]))):=rfl
variable {base i:Nat} {deps:List (List Nat)} {rs:List Rec} {fp:List Nat}
def DZ (rs:List Rec) (i:Nat) (fp wr:List Nat):List Rec:=rs++[Rec.mk i fp wr].filter Rec.loud
theorem zF:Rn T ow k (.dr base i [] deps live rs::K) st=br (eR deps rs) (Rn T ow k K (trim live st)) none:=by
 simp only [Rn,gy,cp,List.filter_nil,List.append_nil]
noncomputable def qO (T:Tab) (ow:bf) (k:aH→St→Option R) (d:Option Nat) (base i:Nat) (ss:List aD) (deps:List (List Nat)) (live:List Nat) (rs:List Rec) (K:List Fr) (st:St) (fp:List Nat):Option (V×Upd)→Option R
 |some (v,u)=>br ((u.map (·.1)).all (fun b=>decide (b∈fp)||(st.heap b).isNone))
  (Rn T ow k (.dr base (i+1) ss deps live (DZ rs i fp (u.map (·.1)))::K) ((st.upd u).put d v)) none
 |none=>none
theorem PV (op:AOp):Rn T ow k (.dr base i (⟨d,op,none⟩::ss) deps live rs::K) st=
 qO T ow k d base i ss deps live rs K st (bS ow op st.ev st.heap) (ae (Call T ow) ow op st.ev (fG st.heap (bS ow op st.ev st.heap)) (base+i)):=by
 unfold qO
 simp only [Rn,gy,cp,iN,St.want]
 cases ho:ae (Call T ow) ow op st.ev (fG st.heap (bS ow op st.ev st.heap)) (base+i) with
 |none=>rfl
 |some p=>
  obtain ⟨v,u⟩:=p
  dsimp only
  by_cases hc:(u.map (·.1)).all (fun b=>decide (b∈bS ow op st.ev st.heap)||(st.heap b).isNone)=true
  ·rw [hc,bI,if_pos rfl]
   dsimp only
   cases cp (Call T ow) ow base ss (i+1) ((st.upd u).put d v) with
   |none=>rfl
   |some q=>
    obtain ⟨st2,rs2⟩:=q
    simp only [DZ,List.filter_cons,List.filter_nil,List.append_assoc]
    cases Rec.loud ⟨i,bS ow op st.ev st.heap,u.map (·.1)⟩<;>rfl
  ·rw [Bool.not_eq_true] at hc
   rw [hc,aZ,if_neg (by decide)]
theorem CK (v:V) (u:Upd):qO T ow k d base i ss deps live rs K st fp (some (v,u))=br ((u.map (·.1)).all (fun b=>decide (b∈fp)||(st.heap b).isNone))
 (Rn T ow k (.dr base (i+1) ss deps live (DZ rs i fp (u.map (·.1)))::K) ((st.upd u).put d v)) none:=rfl
theorem AP (v:V):qO T ow k d base i ss deps live rs K st fp (some (v,[]))=Rn T ow k (.dr base (i+1) ss deps live (DZ rs i fp [])::K) (st.put d v):=rfl
theorem DL:qO T ow k d base i ss deps live rs K st fp none=none:=rfl
theorem Mt (c:Bool) (x y:Option (V×Upd)):qO T ow k d base i ss deps live rs K st fp (br c x y)=br c (qO T ow k d base i ss deps live rs K st fp x) (qO T ow k d base i ss deps live rs K st fp y):=by cases c<;>rfl
theorem D8 {α:Type} (x:Option α) (f:α→Option (V×Upd)):qO T ow k d base i ss deps live rs K st fp (x.bind f)=x.bind (fun a=>qO T ow k d base i ss deps live rs K st fp (f a)):=by cases x<;>rfl
noncomputable def gdD (T:Tab) (ow:bf) (k:aH→St→Option R) (t:Nat) (b:Bool) (d:Option Nat) (op:AOp) (base i:Nat) (ss:List aD) (deps:List (List Nat)) (live:List Nat) (rs:List Rec) (K:List Fr) (st:St):V→Option R
 | .lit (.bool c)=>br (c==b) (Rn T ow k (.dr base i (⟨d,op,none⟩::ss) deps live rs::K) { st with e:=ci t (.lit (.bool c)) st.e })
  (Rn T ow k (.dr base (i+1) ss deps live rs::K) ({ st with e:=ci t (.lit (.bool c)) st.e }.put d (.lit (.tuple #[]))))
 | .lit (.tuple _)=>Rn T ow k (.dr base (i+1) ss deps live rs::K) (st.put d (.lit (.tuple #[])))
 |_=>none
theorem Bv (op:AOp) (g:Nat×Bool) (h:st.want (some g)=some false):Rn T ow k (.dr base i (⟨d,op,some g⟩::ss) deps live rs::K) st=Rn T ow k (.dr base (i+1) ss deps live rs::K) (st.put d (.lit (.tuple #[]))):=by
 simp only [Rn,gy,cp,iN,h]
 cases cp (Call T ow) ow base ss (i+1) (st.put d (.lit (.tuple #[]))) with
 |none=>rfl
 |some q=>obtain ⟨st2,rs2⟩:=q;rfl
theorem QE (op:AOp) (g:Nat×Bool) (h:st.want (some g)=some true):Rn T ow k (.dr base i (⟨d,op,some g⟩::ss) deps live rs::K) st=Rn T ow k (.dr base i (⟨d,op,none⟩::ss) deps live rs::K) st:=by
 have h2:st.want none=some true:=rfl
 simp only [Rn,gy,cp,iN,h,h2]
theorem Bq (op:AOp) (g:Nat×Bool) (h:st.want (some g)=none):Rn T ow k (.dr base i (⟨d,op,some g⟩::ss) deps live rs::K) st=none:=by
 simp only [Rn,gy,cp,iN,h]
theorem v6 (t:Nat) (b:Bool) (op:AOp):Rn T ow k (.dr base i (⟨d,op,some (t,b)⟩::ss) deps live rs::K) st=gdD T ow k t b d op base i ss deps live rs K st (st.get t):=by
 cases hg:st.get t with
 |lit v=>
  cases v with
  |bool c=>
   simp only [gdD]
   rw [yH hg (by simp)]
   cases hcb:(c==b)
   ·rw [aZ];exact Bv op (t,b) (by simp [St.want,hg,hcb])
   ·rw [bI];exact QE op (t,b) (by simp [St.want,hg,hcb])
  |tuple xs=>exact Bv op (t,b) (by simp [St.want,hg])
  |_=>exact Bq op (t,b) (by simp [St.want,hg])
 |_=>exact Bq op (t,b) (by simp [St.want,hg])
theorem EP (t:Nat) (op:AOp) (c:Bool):gdD T ow k t true d op base i ss deps live rs K st (.lit (.bool c))=
 br c (Rn T ow k (.dr base i (⟨d,op,none⟩::ss) deps live rs::K) { st with e:=ci t (.lit (.bool true)) st.e })
  (Rn T ow k (.dr base (i+1) ss deps live rs::K) ({ st with e:=ci t (.lit (.bool false)) st.e }.put d (.lit (.tuple #[])))):=by cases c<;>rfl
theorem Dk (t:Nat) (op:AOp) (c:Bool):gdD T ow k t false d op base i ss deps live rs K st (.lit (.bool c))=
 br c (Rn T ow k (.dr base (i+1) ss deps live rs::K) ({ st with e:=ci t (.lit (.bool true)) st.e }.put d (.lit (.tuple #[]))))
  (Rn T ow k (.dr base i (⟨d,op,none⟩::ss) deps live rs::K) { st with e:=ci t (.lit (.bool false)) st.e }):=by cases c<;>rfl
theorem CN (t:Nat) (b:Bool) (op:AOp) (xs:Array Value):gdD T ow k t b d op base i ss deps live rs K st (.lit (.tuple xs))=Rn T ow k (.dr base (i+1) ss deps live rs::K) (st.put d (.lit (.tuple #[]))):=rfl
end
def A7 (af:aJ) (m:Nat) (x:aH) (st:St):Option (V×List Blk):=yl af (cU af m (some (x,st)))
theorem au {T:Tab} {ow:bf} {f:FuncId} {af:aJ} (hT:T f=some (.code af)) (a:List V) (b:List Blk):Call T ow f a b=Rn T ow (A7 af b.length) [.code af.body] (start a b):=by
 rw [B1,hT]
 dsimp only
 rw [be]
 cases bO T ow af.body (start a b) with
 |none=>rfl
 |some p=>obtain ⟨e,st⟩:=p;cases e<;>rfl
def og {S E:Type} (step:S→Option (S⊕E)):Nat→S→Option E
 |0,_=>none
 |n+1,s=>match step s with
  |none=>none
  |some (.inl s')=>og step n s'
  |some (.inr e)=>some e
theorem uf {S E:Type} {step:S→Option (S⊕E)}: ∀{n:Nat} {s:S} {e:E},og step n s=some e→og step (n+1) s=some e
 |0,_,_,h=>by cases h
 |n+1,s,e,h=>by
  simp only [og] at h ⊢
  split at h
  ·cases h
  ·rename_i s' hs;exact uf h
  ·rename_i e' hs;exact h
theorem LS {S E:Type} {step:S→Option (S⊕E)} {n m:Nat} (hnm:n≤m) {s:S} {e:E} (h:og step n s=some e):og step m s=some e:=by
 induction hnm with
 |refl=>exact h
 |step _ ih=>exact uf ih
noncomputable def Loop {S E:Type} (step:S→Option (S⊕E)) (s:S):Option E:=lim (fun n=>og step n s)
theorem r8 {S E:Type} {step:S→Option (S⊕E)} {s:S} {e:E} (h:Loop step s=some e): ∃n,og step n s=some e:=AF h
theorem w5 {S E:Type} {step:S→Option (S⊕E)} {n:Nat} {s:S} {e:E} (h:og step n s=some e):Loop step s=some e:=
 Ax (g:=fun n=>og step n s) (fun _ _ _ hnm h=>LS hnm h) h
def Bx {S E:Type} (lp:S→Option E):Option (S⊕E)→Option E
 |none=>none
 |some (.inl s')=>lp s'
 |some (.inr e)=>some e
theorem mV {S E:Type} (step:S→Option (S⊕E)) (s:S):Loop step s=Bx (Loop step) (step s):=by
 refine iC (fun r h=> ?_) (fun r h=> ?_)
 ·obtain ⟨n,hn⟩:=r8 h
  cases n with
  |zero=>cases hn
  |succ n=>
   simp only [og] at hn
   split at hn
   ·cases hn
   ·rename_i s' hs;rw [hs];exact w5 hn
   ·rename_i e' hs;rw [hs];exact hn
 ·cases hs:step s with
  |none=>rw [hs] at h;cases h
  |some o=>
   rw [hs] at h
   cases o with
   |inl s'=>
    obtain ⟨n,hn⟩:=r8 (show Loop step s'=some r from h)
    exact w5 (n:=n+1) (by simp only [og,hs];exact hn)
   |inr e=>exact w5 (n:=1) (by simp only [og,hs];exact h)
def Sj (x:aH) (st:St):Option (aH×St):=some (x,st)
theorem ED {T:Tab} {ow:bf} (c:aA) (st:St):bO T ow c st=Rn T ow Sj [.code c] st:=by
 rw [be]
 cases bO T ow c st with
 |none=>rfl
 |some p=>obtain ⟨e,st⟩:=p;cases e<;>rfl
theorem RA {T:Tab} {ow:bf} {S E:Type} {c:aA} {step:S→Option (S⊕E)} {eS:S→St} {eE:E→aH×St} (hne: ∀e,(eE e).1≠ .normal)
 (hb: ∀s o,step s=some o→Rn T ow Sj [.code c] (eS s)=some (match o with
  | .inl s'=>(.normal,eS s')
  | .inr e=>eE e)) {s:S} {e:E} (h:Loop step s=some e):bO T ow (.loop c) (eS s)=some (eE e):=by
 obtain ⟨n,hn⟩:=r8 h
 clear h
 induction n generalizing s with
 |zero=>cases hn
 |succ n ih=>
  simp only [og] at hn
  rw [uz,ED]
  split at hn
  ·cases hn
  ·rename_i s' hs
   rw [hb s _ hs]
   exact ih hn
  ·rename_i e' hs
   rw [hb s _ hs]
   cases hn
   dsimp only
   have:=hne e
   revert this
   generalize eE e=p
   obtain ⟨x,st⟩:=p
   intro this
   cases x with
   |normal=>exact absurd rfl this
   |exit id=>rfl
   |ret=>rfl
def qz (g:bu):aA→aA
 | .seq a b=> .seq (qz g a) b
 | .block id a=> .block id (qz g a)
 |c=> .ghost g c
section
variable {R:Type} {T:Tab} {ow:bf} {k:aH→St→Option R}
def ghE (T:Tab) (ow:bf) (c:aA):Option St→Option (aH×St)→Option (aH×St)
 |some _,r=>r
 |none,_=>none
theorem pu (g:bu): ∀(c:aA) (st:St),bO T ow (qz g c) st=(match aM st g with
 |some st'=>bO T ow c st'
 |none=>none)
 | .seq a b,st=>by
   simp only [qz]
   rw [ou,pu g a st]
   cases aM st g with
   |none=>rfl
   |some st'=>dsimp only;rw [ou]
 | .block id a,st=>by
   simp only [qz]
   rw [oh,pu g a st]
   cases aM st g with
   |none=>rfl
   |some st'=>dsimp only;rw [oh]
 | .skip,st=>dm _ _ _
 | .region _ _ _,st=>dm _ _ _
 | .drawn _ _ _ _,st=>dm _ _ _
 | .cond _ _ _,st=>dm _ _ _
 | .loop _,st=>dm _ _ _
 | .exit _,st=>dm _ _ _
 | .ret,st=>dm _ _ _
 | .ghost _ _,st=>dm _ _ _
noncomputable def cw (T:Tab) (ow:bf) (g:bu) (c:aA) (st:St):Option (aH×St):=match bO T ow c st with
 |some (.normal,st')=>bO T ow (.loop (qz g c)) st'
 |r=>r
noncomputable def goL (T:Tab) (ow:bf) (k:aH→St→Option R) (K:List Fr) (g:bu) (c:aA):Option St→Option R
 |some st'=>goR T ow k K (cw T ow g c st')
 |none=>none
theorem rq (g:bu) (c:aA) (st:St):bO T ow (.loop (qz g c)) st=(match aM st g with
 |some st'=>cw T ow g c st'
 |none=>none):=by
 rw [uz,pu]
 cases aM st g<;>rfl
theorem BZ (g:bu) (c:aA) (K:List Fr) (st:St):Rn T ow k (.code (.loop (qz g c))::K) st=goL T ow k K g c (aM st g):=by
 rw [be,rq]
 cases aM st g<;>rfl
theorem Ik (K:List Fr) (g:bu) (c:aA) (st':St):goL T ow k K g c (some st')=goR T ow k K (cw T ow g c st'):=rfl
def ogM:Option St→Option (aH×St)
 |some st=>some (.normal,st)
 |none=>none
def vr (g:bu):aH→St→Option (aH×St)
 | .normal,st=>ogM (aM st g)
 |x,st=>some (x,st)
theorem wE (g:bu) (st:St):vr g .normal st=ogM (aM st g):=rfl
theorem DE (g:bu) (id:Nat) (st:St):vr g (.exit id) st=some (.exit id,st):=rfl
theorem IY (g:bu) (st:St):vr g .ret st=some (.ret,st):=rfl
theorem Im (st:St):ogM (some st)=some (.normal,st):=rfl
theorem CJ {S E:Type} {g:bu} {c:aA} {step:S→Option (S⊕E)} {eS:S→St} {eE:E→aH×St} (hne: ∀e,(eE e).1≠ .normal)
 (hb: ∀s o,step s=some o→Rn T ow (vr g) [.code c] (eS s)=some (match o with
  | .inl s'=>(.normal,eS s')
  | .inr e=>eE e)) {s:S} {e:E} (h:Loop step s=some e):cw T ow g c (eS s)=some (eE e):=by
 obtain ⟨n,hn⟩:=r8 h
 clear h
 induction n generalizing s with
 |zero=>cases hn
 |succ n ih=>
  simp only [og] at hn
  unfold cw
  split at hn
  ·cases hn
  ·rename_i s' hs
   have h1:=hb s _ hs
   rw [be] at h1
   cases hx:bO T ow c (eS s) with
   |none=>rw [hx] at h1;cases h1
   |some p=>
    obtain ⟨x,st'⟩:=p
    rw [hx] at h1
    cases x with
    |normal=>
     dsimp only
     rw [rq]
     simp only [goR,Rn,gy,vr,ogM] at h1
     cases hg:aM st' g with
     |none=>rw [hg] at h1;cases h1
     |some st2=>rw [hg] at h1;cases h1;exact ih hn
    |exit id=>simp [goR,Unw,gy,vr] at h1
    |ret=>simp [goR,vr] at h1
  ·rename_i e' hs
   have h1:=hb s _ hs
   cases hn
   have hn2:=hne e
   rw [be] at h1
   dsimp only at h1
   revert h1 hn2
   generalize eE e=q
   intro h1 hn2
   cases hx:bO T ow c (eS s) with
   |none=>rw [hx] at h1;cases h1
   |some p=>
    obtain ⟨x,st'⟩:=p
    rw [hx] at h1
    cases x with
    |normal=>
     simp only [goR,Rn,gy,vr,ogM] at h1
     cases hg:aM st' g with
     |none=>rw [hg] at h1;cases h1
     |some st2=>rw [hg] at h1;cases h1;exact absurd rfl hn2
    |exit id=>exact h1
    |ret=>exact h1
variable {d:Option Nat} {n:Nat} {ss:List aD} {live:List Nat} {K:List Fr} {st:St} {base i:Nat} {deps:List (List Nat)} {rs:List Rec} {fp:List Nat} {r:R}
theorem Nx {x:Option (aH×St)} {p:aH×St} (h:x=some p) (hr:goR T ow k K (some p)=some r):goR T ow k K x=some r:=by rw [h];exact hr
theorem CO (g:bu) (c:aA):goR T ow k K (cw T ow g c st)=Rn T ow k (.code c:: .code (.loop (qz g c))::K) st:=by
 rw [be]
 unfold cw
 cases hx:bO T ow c st with
 |none=>rfl
 |some p=>
  obtain ⟨x,st'⟩:=p
  cases x with
  |normal=>dsimp only;simp only [goR];rw [be];rfl
  |exit id=>rfl
  |ret=>rfl
theorem Qx {g:bu} {c:aA} (h:Rn T ow k (.code c:: .code (.loop (qz g c))::K) st=some r):goR T ow k K (cw T ow g c st)=some r:=by rw [CO];exact h
theorem bind_some {α β:Type} {x:Option α} {a:α} {F:α→Option β} {r:β} (h:x=some a) (hr:F a=some r):x.bind F=some r:=by rw [h];exact hr
end
end Go.AI
set_option linter.unusedVariables false
set_option linter.unusedSimpArgs false
namespace Go.AI
abbrev I (n:Int):V:= .lit (.int .i64 n)
abbrev B (b:Bool):V:= .lit (.bool b)
abbrev S (s:List UInt8):V:= .lit (.string ⟨⟨s⟩⟩)
structure En (α:Type) where
 esz:Nat
 enc:α→List V
def rws {α:Type} (e:En α) (l:List α):List (List V):=l.map e.enc
def sl {α:Type} (e:En α) (l:List α):V:=(V.imm e.esz (rws e l)).cz
theorem P5 {α:Type} (e:En α):sl e []= .imm 1 []:=rfl
theorem Sq {α:Type} (e:En α) (x:α) (l:List α):sl e (x::l)= .imm e.esz (rws e (x::l)):=rfl
def eI:En Int:=⟨1,fun n=>[I n]⟩
def eU8:En UInt8:=⟨1,fun b=>[.lit (.int .u8 b.toNat)]⟩
def wS:En Int:=⟨1,fun n=>[.lit (.int .u64 n)]⟩
def eB:En Bool:=⟨1,fun b=>[B b]⟩
def eS:En (List UInt8):=⟨1,fun s=>[S s]⟩
def eL {α:Type} (e:En α):En (List α):=⟨1,fun l=>[sl e l]⟩
theorem Ns:eI.esz=1:=by decide
theorem Ps (n:Int):eI.enc n=[I n]:=rfl
theorem MB:eU8.esz=1:=by decide
theorem KJ (n:UInt8):eU8.enc n=[.lit (.int .u8 n.toNat)]:=rfl
theorem Hp:wS.esz=1:=by decide
theorem Il (n:Int):wS.enc n=[.lit (.int .u64 n)]:=rfl
theorem P2:eB.esz=1:=by decide
theorem OL (n:Bool):eB.enc n=[B n]:=rfl
theorem Ov:eS.esz=1:=by decide
theorem Qf (n:List UInt8):eS.enc n=[S n]:=rfl
theorem OM {α:Type} (e:En α):(eL e).esz=1:=of_decide_eq_true rfl
theorem Qp {α:Type} (e:En α) (l:List α):(eL e).enc l=[sl e l]:=rfl
def atL {α:Type} (l:List α) (i:Int):Option α:=if 0≤i then l[i.toNat]? else none
def fT {α:Type} (l:List α) (a b:Int):Option (List α):=if 0≤a∧a≤b∧b≤l.length then some ((l.take b.toNat).drop a.toNat) else none
def inb (i:Int) (n:Nat):Bool:=decide (0≤i)&&decide (i.toNat<n)
def dM (n bytes:Nat):Bool:=decide (n*bytes≤aK)
def zO (l c:Int) (bytes:Nat):Bool:=decide (0≤l)&&decide (l≤c)&&decide (c*bytes≤aK)
def mx (a b:Int):Int:=if b>a then b else a
def mn (a b:Int):Int:=if b<a then b else a
def B5 (r:List (List V)):Nat:=r.length
def app (r q:List (List V)):List (List V):=r++q
def mkR (n:Nat) (r:List (List V)):List (List V):=r
def bD (row:List V) (r:List (List V)):List (List V):=row::r
def xS (n k:Nat) (row:List V):List (List V):=List.replicate k row
def cD (r:List (List V)) (i:Nat) (row:List V):List (List V):=r.set i row
section
variable {α:Type} {e:En α} {l l2:List α}
theorem BW:B5 (rws e l)=l.length:=by simp [B5,rws]
theorem Jo:app (rws e l) (rws e l2)=rws e (l++l2):=by simp [app,rws]
theorem mk0 (e:En α) (n:Nat):mkR n []=rws e []:=rfl
theorem EI (n:Nat) (row:List V) (r:List (List V)):mkR n (row::r)=bD row (mkR n r):=rfl
theorem QM (a:Int) (l:List Int):bD [I a] (rws eI l)=rws eI (a::l):=rfl
theorem R8 (a:List UInt8) (l:List (List UInt8)):bD [S a] (rws eS l)=rws eS (a::l):=rfl
theorem QT (a:List α) (l:List (List α)):bD [sl e a] (rws (eL e) l)=rws (eL e) (a::l):=rfl
theorem Qs (l:List (List α)):bD [.imm 1 []] (rws (eL e) l)=rws (eL e) ([]::l):=rfl
theorem Sh (b:Bool) (l:List Bool):bD [B b] (rws eB l)=rws eB (b::l):=rfl
theorem KT (a:Int) (l:List Int):bD [.lit (.int .u64 a)] (rws wS l)=rws wS (a::l):=rfl
theorem z6 (b:UInt8) (l:List UInt8):bD [.lit (.int .u8 b.toNat)] (rws eU8 l)=rws eU8 (b::l):=rfl
theorem gz (x:Int):((UInt8.ofInt x).toNat:Int)=IntKind.u8.wrap x:=by
 simp [UInt8.ofInt,IntKind.wrap,IntKind.bits,IntKind.signed]
 omega
theorem oU (x:Int) (l:List UInt8):bD [.lit (.int .u8 (IntKind.u8.wrap x))] (rws eU8 l)=rws eU8 (UInt8.ofInt x::l):=by
 rw [←gz];rfl
theorem Sr (n:Nat) (h:n<256) (l:List UInt8):bD [.lit (.int .u8 (n:Int))] (rws eU8 l)=rws eU8 (UInt8.ofNat n::l):=by
 have:(UInt8.ofNat n).toNat=n:=by simp;omega
 rw [←z6,this]
theorem KB (n:Nat) (h:Nat.ble n 255=true) (l:List UInt8):bD [.lit (.int .u8 (no_index (OfNat.ofNat n:Int)))] (rws eU8 l)=rws eU8 ((OfNat.ofNat n:UInt8)::l):=by
 have h':=Nat.le_of_ble_eq_true h
 have:((OfNat.ofNat n:UInt8).toNat:Int)=(OfNat.ofNat n:Int):=by
  show ((UInt8.ofNat n).toNat:Int)=(n:Int)
  simp;omega
 rw [←z6,this]
theorem SF (l:List Int) (i:Nat) (a:Int):cD (rws eI l) i [I a]=rws eI (l.set i a):=by simp [cD,rws,eI]
theorem OU (l:List Int) (i:Nat) (a:Int):cD (rws wS l) i [.lit (.int .u64 a)]=rws wS (l.set i a):=by simp [cD,rws,wS]
theorem setB (l:List Bool) (i:Nat) (a:Bool):cD (rws eB l) i [B a]=rws eB (l.set i a):=by simp [cD,rws,eB]
theorem Nd (l:List (List UInt8)) (i:Nat) (a:List UInt8):cD (rws eS l) i [S a]=rws eS (l.set i a):=by simp [cD,rws,eS]
theorem SA (l:List (List α)) (i:Nat) (a:List α):cD (rws (eL e) l) i [sl e a]=rws (eL e) (l.set i a):=by simp [cD,rws,eL]
theorem MP (l:List UInt8) (i:Nat) (a:UInt8):cD (rws eU8 l) i [.lit (.int .u8 a.toNat)]=rws eU8 (l.set i a):=by simp [cD,rws,eU8]
theorem te (l:List UInt8) (i:Nat) (x:Int):cD (rws eU8 l) i [.lit (.int .u8 (IntKind.u8.wrap x))]=rws eU8 (l.set i (UInt8.ofInt x)):=by
 rw [←gz,MP]
theorem SG (e:En α) (x:α) (n k:Nat):xS n k (e.enc x)=rws e (List.replicate k x):=by simp [xS,rws]
theorem NU (m:Nat) (h:e.esz=m):V.cz (.imm m (rws e l))=sl e l:=by subst h;rfl
theorem RP (r:List (List V)):r.drop 0=r:=rfl
theorem R6 (k:Nat):(rws e l).drop k=rws e (l.drop k):=by simp [rws]
theorem cQ (e:En α) (l:List α):(l=[]∧sl e l= .imm 1 [])∨(l≠[]∧sl e l= .imm e.esz (rws e l)):=by
 cases l with
 |nil=>exact .inl ⟨rfl,rfl⟩
 |cons x l=>exact .inr ⟨by simp,rfl⟩
theorem RY:(sl e l).cz=sl e l:=by
 cases l with
 |nil=>rfl
 |cons x l=>rfl
theorem P0:(sl e l).czA=sl e l:=by
 cases l with
 |nil=>rfl
 |cons x l=>rfl
theorem Nq:(sl e l).czR=sl e l:=by
 cases l with
 |nil=>rfl
 |cons x l=>rfl
theorem M4:(sl e l).cell=true:=by
 rcases cQ e l with ⟨_,h⟩|⟨_,h⟩<;>rw [h]<;>rfl
theorem Rx:(sl e l).cl=true:=by
 rcases cQ e l with ⟨_,h⟩|⟨_,h⟩<;>rw [h]<;>rfl
theorem G3:(sl e l).cells=[sl e l]:=by
 rcases cQ e l with ⟨_,h⟩|⟨_,h⟩<;>rw [h]<;>rfl
theorem K0:bL (sl e l)=[]:=by
 rcases cQ e l with ⟨_,h⟩|⟨_,h⟩<;>rw [h]<;>rfl
theorem Lf:ft (sl e l)=[]:=by
 rcases cQ e l with ⟨_,h⟩|⟨_,h⟩<;>rw [h]<;>rfl
theorem Bp {h:ah}:eo h (sl e l)=some (sl e l,[]):=by
 rcases cQ e l with ⟨_,h⟩|⟨_,h⟩<;>rw [h]<;>rfl
theorem Al {h:ah} {own:Bool} {ids:List Nat}:aU h own ids (sl e l)=some (sl e l,ids,[]):=by
 rcases cQ e l with ⟨_,h⟩|⟨_,h⟩<;>rw [h]<;>rfl
theorem BO {h:ah} {own:Bool} {ids:List Nat}:bp h own ids (sl e l)=some (sl e l,ids,[]):=by
 rcases cQ e l with ⟨_,h⟩|⟨_,h⟩<;>rw [h]<;>rfl
theorem Nb {ids:List Nat}:unV ids (sl e l)=sl e l:=by
 rcases cQ e l with ⟨_,h⟩|⟨_,h⟩<;>rw [h]<;>rfl
theorem IG {ids:List Nat}:dt ids (sl e l)=sl e l:=by
 rcases cQ e l with ⟨_,h⟩|⟨_,h⟩<;>rw [h]<;>rfl
theorem IZ {ids:List Nat}:kj ids (sl e l)=sl e l:=by
 rcases cQ e l with ⟨_,h⟩|⟨_,h⟩<;>rw [h]<;>rfl
theorem Hz:eO (sl e l)=false:=by
 rcases cQ e l with ⟨_,h⟩|⟨_,h⟩<;>rw [h]<;>rfl
theorem Io:l9 (sl e l)=false:=by
 rcases cQ e l with ⟨_,h⟩|⟨_,h⟩<;>rw [h]<;>rfl
theorem Gv:fU (sl e l)=false:=by
 rcases cQ e l with ⟨_,h⟩|⟨_,h⟩<;>rw [h]<;>rfl
theorem Pr {h:ah} {bs:List Nat}:fzC h bs (sl e l)=sl e l:=by
 rcases cQ e l with ⟨_,h⟩|⟨_,h⟩<;>rw [h]<;>rfl
theorem PT {h:ah} {bs:List Nat}:fzA h bs (sl e l)=sl e l:=by
 rcases cQ e l with ⟨_,h⟩|⟨_,h⟩<;>rw [h]<;>rfl
theorem ME {h:ah} {m:Nat} {kp:List Nat}:eG h m kp (sl e l)=some (sl e l):=by
 rcases cQ e l with ⟨_,h⟩|⟨_,h⟩<;>rw [h]<;>rfl
theorem K2 {h:ah} {m:Nat} {kp:List Nat}:lJ h m kp (sl e l)=some (sl e l):=by
 rcases cQ e l with ⟨_,h⟩|⟨_,h⟩<;>rw [h]<;>rfl
theorem Mo {h:ah} {m:Nat} {kp:List Nat}:nm h m kp (sl e l)=some (sl e l):=by
 rcases cQ e l with ⟨_,h⟩|⟨_,h⟩<;>rw [h]<;>rfl
theorem Ni:okC (sl e l)=true:=by
 rcases cQ e l with ⟨_,h⟩|⟨_,h⟩<;>rw [h]<;>rfl
theorem ub {h:ah} (m:Nat) (hm:e.esz=m):bg h m (sl e l)=some (rws e l):=by
 subst hm
 rcases cQ e l with ⟨rfl,h⟩|⟨hl,h⟩
 ·rw [h];simp [bg,rws]
 ·rw [h];simp [bg]
theorem ya:B4 (sl e l)=false:=by
 rcases cQ e l with ⟨_,h⟩|⟨_,h⟩<;>rw [h]<;>rfl
end
end Go.AI
