/- The limit of the abstract machine's runs: more rounds tell the same; the equations of the limit. -/
import Derived.Test.YtgjlndaebhaciaaAiDefs
namespace Go.AI
theorem qq {C C':aB} (hC: ∀f a b r,C f a b=some r→C' f a b=some r) {ow:be} {h:ah} {new:Nat} {f:FuncId} {args:List V} {r:V×Upd}
 (hr:dQ C ow h new f args=some r):dQ C' ow h new f args=some r:=by
 unfold dQ at hr ⊢
 cases hp:bn ow h f args with
 |none=>rw [hp] at hr;cases hr
 |some p=>
  obtain ⟨args',blks,ids,bor⟩:=p
  rw [hp] at hr
  dsimp only at hr ⊢
  cases hc:C f (gU (ow f) args') (gM (ow f) blks) with
  |none=>rw [hc] at hr;cases hr
  |some q=>rw [hC _ _ _ _ hc];rw [hc] at hr;exact hr
theorem sq {C C':aB} (hC: ∀f a b r,C f a b=some r→C' f a b=some r) {ow:be} {o:AOp} {ev:Opd→V} {h:ah} {new:Nat} {r:V×Upd}
 (hr:ae C ow o ev h new=some r):ae C' ow o ev h new=some r:=by
 cases o
 case call f args=>simp only [ae] at hr ⊢;exact qq hC hr
 case dyn f args=>
  simp only [ae] at hr ⊢
  split at hr
  ·exact qq hC hr
  ·cases hr
 all_goals exact hr
theorem u6 {C:Nat→aB} {D:aB} (hD: ∀f a b r,D f a b=some r→ ∃n,C n f a b=some r) (n0:Nat) {ow:be} {o:AOp} {ev:Opd→V} {h:ah} {new:Nat} {r:V×Upd}
 (hr:ae D ow o ev h new=some r): ∃n,ae (C n) ow o ev h new=some r:=by
 have key: ∀f args,dQ D ow h new f args=some r→ ∃n,dQ (C n) ow h new f args=some r:=by
  intro f args hr
  unfold dQ at hr
  cases hp:bn ow h f args with
  |none=>rw [hp] at hr;cases hr
  |some p=>
   obtain ⟨args',blks,ids,bor⟩:=p
   rw [hp] at hr
   dsimp only at hr
   cases hc:D f (gU (ow f) args') (gM (ow f) blks) with
   |none=>rw [hc] at hr;cases hr
   |some q=>
    rw [hc] at hr
    obtain ⟨n,hn⟩:=hD _ _ _ _ hc
    refine ⟨n, ?_⟩
    unfold dQ
    rw [hp]
    dsimp only
    rw [hn]
    exact hr
 cases o
 case call f args=>simp only [ae] at hr ⊢;exact key _ _ hr
 case dyn f args=>
  simp only [ae] at hr ⊢
  split at hr
  ·exact key _ _ hr
  ·cases hr
 all_goals exact ⟨n0,hr⟩
theorem rv {C C':aB} (hC: ∀f a b r,C f a b=some r→C' f a b=some r) {ow:be} {st:St} {s:aD} {n:Nat} {r:St}
 (hr:jX C ow st s n=some r):jX C' ow st s n=some r:=by
 unfold jX at hr ⊢
 split at hr
 ·cases hr
 ·exact hr
 ·split at hr
  ·rename_i v u ho;rw [sq hC ho];exact hr
  ·cases hr
theorem hZ {C C':aB} (hC: ∀f a b r,C f a b=some r→C' f a b=some r) {ow:be}: ∀{l:List aD} {n:Nat} {st:St} {r:St},
 cn C ow l n st=some r→cn C' ow l n st=some r
 |[],_,_,_,hr=>hr
 |s::l,n,st,r,hr=>by
  simp only [cn] at hr ⊢
  split at hr
  ·rename_i st' h;rw [rv hC h];exact hZ hC hr
  ·cases hr
theorem sZ {C C':aB} (hC: ∀f a b r,C f a b=some r→C' f a b=some r) {ow:be} {st:St} {s:aD} {i n:Nat} {r:St×Rec}
 (hr:iJ C ow st s i n=some r):iJ C' ow st s i n=some r:=by
 unfold iJ at hr ⊢
 split at hr
 ·cases hr
 ·exact hr
 ·split at hr
  ·rename_i v u ho;rw [sq hC ho];exact hr
  ·cases hr
theorem hI {C C':aB} (hC: ∀f a b r,C f a b=some r→C' f a b=some r) {ow:be} {base:Nat}: ∀{l:List aD} {n:Nat} {st:St} {r:St×List Rec},
 co C ow base l n st=some r→co C' ow base l n st=some r
 |[],_,_,_,hr=>hr
 |s::l,n,st,r,hr=>by
  simp only [co] at hr ⊢
  split at hr
  ·rename_i st' rc h
   rw [sZ hC h]
   dsimp only
   split at hr
   ·rename_i st2 rs h2;rw [hI hC h2];exact hr
   ·cases hr
  ·cases hr
theorem aX {C C':aB} (hC: ∀f a b r,C f a b=some r→C' f a b=some r) {ow:be}: ∀(n m:Nat),n≤m→ ∀{c:aw} {st:St} {r:aH×St},
 aN C ow n c st=some r→aN C' ow m c st=some r
 |0,_,_,_,_,_,hr=>by simp [aN] at hr
 |n+1,0,h,_,_,_,_=>absurd h (by omega)
 |n+1,m+1,h,c,st,r,hr=>by
  have ih:=fun {c st r}=>aX hC (ow:=ow) n m (by omega) (c:=c) (st:=st) (r:=r)
  cases c with
  |skip=>exact hr
  |region base steps live=>
   simp only [aN,fI] at hr ⊢
   split at hr
   ·rename_i st' h;rw [hZ hC h];exact hr
   ·cases hr
  |drawn base steps deps live=>
   simp only [aN,jy] at hr ⊢
   split at hr
   ·rename_i st' rs h;rw [hI hC h];exact hr
   ·cases hr
  |seq a b=>
   simp only [aN] at hr ⊢
   cases ha:aN C ow n a st with
   |none=>rw [ha] at hr;cases hr
   |some p=>
    obtain ⟨e,st'⟩:=p
    rw [ih ha]
    rw [ha] at hr
    cases e with
    |normal=>exact ih hr
    |exit id=>exact hr
    |ret=>exact hr
  |cond c a b=>
   simp only [aN] at hr ⊢
   split at hr
   ·exact ih hr
   ·exact ih hr
   ·cases hr
  |block id c=>
   simp only [aN] at hr ⊢
   cases ha:aN C ow n c st with
   |none=>rw [ha] at hr;cases hr
   |some p=>rw [ih ha];rw [ha] at hr;exact hr
  |loop c=>
   simp only [aN] at hr ⊢
   cases ha:aN C ow n c st with
   |none=>rw [ha] at hr;cases hr
   |some p=>
    obtain ⟨e,st'⟩:=p
    rw [ih ha]
    rw [ha] at hr
    cases e with
    |normal=>exact ih hr
    |exit id=>exact hr
    |ret=>exact hr
  |exit id=>exact hr
  |ret=>exact hr
  |ghost g c=>
   simp only [aN] at hr ⊢
   split at hr
   ·exact ih hr
   ·cases hr
theorem so (T:Tab) (ow:be): ∀(n:Nat) f a b r,bq T ow n f a b=some r→bq T ow (n+1) f a b=some r
 |0,_,_,_,_,h=>by simp [bq] at h
 |n+1,f,a,b,r,h=>by
  simp only [bq] at h ⊢
  split at h
  ·cases h
  rotate_left
  ·exact h
  ·rename_i af haf
   cases he:aN (bq T ow n) ow n af.body (start a b) with
   |none=>rw [he] at h;simp [cU,xM] at h
   |some p=>
    have:=aX (so T ow n) (ow:=ow) n (n+1) (by omega) he
    simp only [bq] at this
    rw [this]
    rw [he] at h
    exact h
theorem aZ (T:Tab) (ow:be) {n m:Nat} (h:n≤m): ∀f a b r,bq T ow n f a b=some r→bq T ow m f a b=some r:=by
 induction h with
 |refl=>exact fun _ _ _ _ h=>h
 |step _ ih=>exact fun f a b r h=>so T ow _ f a b r (ih f a b r h)
open Classical in
noncomputable def lim {α:Type} (g:Nat→Option α):Option α:=if h: ∃n r,g n=some r then g h.choose else none
theorem Ak {α:Type} {g:Nat→Option α} (hm: ∀n m r,n≤m→g n=some r→g m=some r) {n:Nat} {r:α} (h:g n=some r):lim g=some r:=by
 have hx: ∃n r,g n=some r:=⟨n,r,h⟩
 unfold lim
 rw [dif_pos hx]
 obtain ⟨r',hr'⟩:=hx.choose_spec
 have h1:=hm _ (max n hx.choose) _ (Nat.le_max_left _ _) h
 have h2:=hm _ (max n hx.choose) _ (Nat.le_max_right _ _) hr'
 rw [h1] at h2
 rw [hr', ←h2]
theorem zo {α:Type} {g:Nat→Option α} {r:α} (h:lim g=some r): ∃n,g n=some r:=by
 unfold lim at h
 split at h
 ·exact ⟨_,h⟩
 ·cases h
noncomputable def Call (T:Tab) (ow:be):aB:=fun f a b=>lim fun n=>bq T ow n f a b
noncomputable def bO (T:Tab) (ow:be) (c:aw) (st:St):Option (aH×St):=lim fun n=>aN (bq T ow n) ow n c st
section
variable {T:Tab} {ow:be}
theorem LD {n m:Nat} (h:n≤m) {c:aw} {st:St} {r:aH×St} (hr:aN (bq T ow n) ow n c st=some r):aN (bq T ow m) ow m c st=some r:=
 aX (aZ T ow h) n m h hr
theorem bH {n:Nat} {c:aw} {st:St} {r:aH×St} (h:aN (bq T ow n) ow n c st=some r):bO T ow c st=some r:=
 Ak (g:=fun n=>aN (bq T ow n) ow n c st) (fun _ _ _ hnm h=>LD hnm h) h
theorem cD {c:aw} {st:St} {r:aH×St} (h:bO T ow c st=some r): ∃n,aN (bq T ow n) ow n c st=some r:=zo h
theorem vJ {n:Nat} {f:FuncId} {a:List V} {b:List Blk} {r:V×List Blk} (h:bq T ow n f a b=some r):Call T ow f a b=some r:=
 Ak (g:=fun n=>bq T ow n f a b) (fun _ _ _ hnm h=>aZ T ow hnm _ _ _ _ h) h
theorem ra {f:FuncId} {a:List V} {b:List Blk} {r:V×List Blk} (h:Call T ow f a b=some r): ∃n,bq T ow n f a b=some r:=zo h
theorem ip {α:Type} {a b:Option α} (h1: ∀r,a=some r→b=some r) (h2: ∀r,b=some r→a=some r):a=b:=by
 cases a with
 |none=>cases b with
  |none=>rfl
  |some r=>exact absurd (h2 r rfl) (by simp)
 |some r=>exact (h1 r rfl).symm
theorem rK: ∀{l:List aD} {n:Nat} {st:St} {r:St},cn (Call T ow) ow l n st=some r→ ∃k,cn (bq T ow k) ow l n st=some r
 |[],_,_,_,h=>⟨0,h⟩
 |s::l,n,st,r,h=>by
  simp only [cn] at h
  cases h1:jX (Call T ow) ow st s n with
  |none=>rw [h1] at h;cases h
  |some st'=>
   rw [h1] at h
   obtain ⟨k2,hk2⟩:=rK h
   have: ∃k,jX (bq T ow k) ow st s n=some st':=by
    unfold jX at h1 ⊢
    split at h1
    ·cases h1
    ·exact ⟨0,h1⟩
    ·split at h1
     ·rename_i v u ho
      obtain ⟨k,hk⟩:=u6 (C:=bq T ow) (D:=Call T ow) (fun _ _ _ _ h=>ra h) 0 ho
      exact ⟨k,by rw [hk];exact h1⟩
     ·cases h1
   obtain ⟨k1,hk1⟩:=this
   refine ⟨max k1 k2, ?_⟩
   simp only [cn]
   rw [rv (aZ T ow (Nat.le_max_left k1 k2)) hk1]
   exact hZ (aZ T ow (Nat.le_max_right k1 k2)) hk2
theorem tl {base:Nat}: ∀{l:List aD} {n:Nat} {st:St} {r:St×List Rec},co (Call T ow) ow base l n st=some r→ ∃k,co (bq T ow k) ow base l n st=some r
 |[],_,_,_,h=>⟨0,h⟩
 |s::l,n,st,r,h=>by
  simp only [co] at h
  cases h1:iJ (Call T ow) ow st s n (base+n) with
  |none=>rw [h1] at h;cases h
  |some p=>
   obtain ⟨st',rc⟩:=p
   rw [h1] at h
   dsimp only at h
   cases h2:co (Call T ow) ow base l (n+1) st' with
   |none=>rw [h2] at h;cases h
   |some q=>
    obtain ⟨st2,rs⟩:=q
    rw [h2] at h
    obtain ⟨k2,hk2⟩:=tl h2
    have: ∃k,iJ (bq T ow k) ow st s n (base+n)=some (st',rc):=by
     unfold iJ at h1 ⊢
     split at h1
     ·cases h1
     ·exact ⟨0,h1⟩
     ·split at h1
      ·rename_i v u ho
       obtain ⟨k,hk⟩:=u6 (C:=bq T ow) (D:=Call T ow) (fun _ _ _ _ h=>ra h) 0 ho
       exact ⟨k,by rw [hk];exact h1⟩
      ·cases h1
    obtain ⟨k1,hk1⟩:=this
    refine ⟨max k1 k2, ?_⟩
    simp only [co]
    rw [sZ (aZ T ow (Nat.le_max_left k1 k2)) hk1]
    dsimp only
    rw [hI (aZ T ow (Nat.le_max_right k1 k2)) hk2]
    exact h
theorem sw (k:Nat): ∀f a b r,bq T ow k f a b=some r→Call T ow f a b=some r:=fun _ _ _ _ h=>vJ h
theorem Du (st:St):bO T ow .skip st=some (.normal,st):=bH (n:=1) rfl
theorem DN (id:Nat) (st:St):bO T ow (.exit id) st=some (.exit id,st):=bH (n:=1) rfl
theorem Ff (st:St):bO T ow .ret st=some (.ret,st):=bH (n:=1) rfl
theorem pS (base:Nat) (steps:List aD) (live:List Nat) (st:St):bO T ow (.region base steps live) st=fI (Call T ow) ow base steps live st:=by
 refine ip (fun r h=> ?_) (fun r h=> ?_)
 ·obtain ⟨n,hn⟩:=cD h
  cases n with
  |zero=>simp [aN] at hn
  |succ n=>
   simp only [aN,fI] at hn ⊢
   split at hn
   ·rename_i st' h';rw [hZ (sw (n+1)) h'];exact hn
   ·cases hn
 ·unfold fI at h
  split at h
  ·rename_i st' h'
   obtain ⟨k,hk⟩:=rK h'
   refine bH (n:=k+1) ?_
   simp only [aN,fI]
   rw [hZ (aZ T ow (Nat.le_succ k)) hk]
   exact h
  ·cases h
theorem AU (base:Nat) (steps:List aD) (deps:List (List Nat)) (live:List Nat) (st:St):
 bO T ow (.drawn base steps deps live) st=jy (Call T ow) ow base steps deps live st:=by
 refine ip (fun r h=> ?_) (fun r h=> ?_)
 ·obtain ⟨n,hn⟩:=cD h
  cases n with
  |zero=>simp [aN] at hn
  |succ n=>
   simp only [aN,jy] at hn ⊢
   split at hn
   ·rename_i st' rs h';rw [hI (sw (n+1)) h'];exact hn
   ·cases hn
 ·unfold jy at h
  split at h
  ·rename_i st' rs h'
   obtain ⟨k,hk⟩:=tl h'
   refine bH (n:=k+1) ?_
   simp only [aN,jy]
   rw [hI (aZ T ow (Nat.le_succ k)) hk]
   exact h
  ·cases h
theorem ol (a b:aw) (st:St):bO T ow (.seq a b) st=(match bO T ow a st with
 |some (.normal,st')=>bO T ow b st'
 |r=>r):=by
 refine ip (fun r h=> ?_) (fun r h=> ?_)
 ·obtain ⟨n,hn⟩:=cD h
  cases n with
  |zero=>simp [aN] at hn
  |succ n=>
   simp only [aN] at hn
   cases ha:aN (bq T ow (n+1)) ow n a st with
   |none=>rw [ha] at hn;cases hn
   |some p=>
    obtain ⟨e,st'⟩:=p
    rw [bH (aX (fun _ _ _ _ h=>h) n (n+1) (by omega) ha)]
    rw [ha] at hn
    cases e with
    |normal=>exact bH (aX (fun _ _ _ _ h=>h) n (n+1) (by omega) hn)
    |exit id=>exact hn
    |ret=>exact hn
 ·cases ha:bO T ow a st with
  |none=>rw [ha] at h;cases h
  |some p=>
   obtain ⟨e,st'⟩:=p
   rw [ha] at h
   obtain ⟨n,hn⟩:=cD ha
   cases e with
   |normal=>
    obtain ⟨m,hm⟩:=cD (show bO T ow b st'=some r from h)
    refine bH (n:=max n m+1) ?_
    simp only [aN]
    rw [aX (aZ T ow (by omega)) n (max n m) (by omega) hn]
    exact aX (aZ T ow (by omega)) m (max n m) (by omega) hm
   |exit id=>
    refine bH (n:=n+1) ?_
    simp only [aN]
    rw [aX (aZ T ow (by omega)) n n (by omega) hn]
    exact h
   |ret=>
    refine bH (n:=n+1) ?_
    simp only [aN]
    rw [aX (aZ T ow (by omega)) n n (by omega) hn]
    exact h
theorem CH (c:Opd) (a b:aw) (st:St):bO T ow (.cond c a b) st=(match st.ev c with
 | .lit (.bool true)=>bO T ow a st
 | .lit (.bool false)=>bO T ow b st
 |_=>none):=by
 refine ip (fun r h=> ?_) (fun r h=> ?_)
 ·obtain ⟨n,hn⟩:=cD h
  cases n with
  |zero=>simp [aN] at hn
  |succ n=>
   simp only [aN] at hn
   split at hn
   ·rename_i hc;simp only [hc];exact bH (aX (fun _ _ _ _ h=>h) n (n+1) (by omega) hn)
   ·rename_i hc;simp only [hc];exact bH (aX (fun _ _ _ _ h=>h) n (n+1) (by omega) hn)
   ·cases hn
 ·split at h
  ·rename_i hc
   obtain ⟨n,hn⟩:=cD h
   refine bH (n:=n+1) ?_
   simp only [aN,hc]
   exact aX (aZ T ow (by omega)) n n (by omega) hn
  ·rename_i hc
   obtain ⟨n,hn⟩:=cD h
   refine bH (n:=n+1) ?_
   simp only [aN,hc]
   exact aX (aZ T ow (by omega)) n n (by omega) hn
  ·cases h
theorem nX (id:Nat) (c:aw) (st:St):bO T ow (.block id c) st=(match bO T ow c st with
 |some (.exit id',st')=>if id'=id then some (.normal,st') else some (.exit id',st')
 |r=>r):=by
 refine ip (fun r h=> ?_) (fun r h=> ?_)
 ·obtain ⟨n,hn⟩:=cD h
  cases n with
  |zero=>simp [aN] at hn
  |succ n=>
   simp only [aN] at hn
   cases ha:aN (bq T ow (n+1)) ow n c st with
   |none=>rw [ha] at hn;cases hn
   |some p=>
    rw [bH (aX (fun _ _ _ _ h=>h) n (n+1) (by omega) ha)]
    rw [ha] at hn
    exact hn
 ·cases ha:bO T ow c st with
  |none=>rw [ha] at h;cases h
  |some p=>
   obtain ⟨n,hn⟩:=cD ha
   refine bH (n:=n+1) ?_
   simp only [aN]
   rw [aX (aZ T ow (by omega)) n n (by omega) hn]
   rw [ha] at h
   exact h
theorem u9 (c:aw) (st:St):bO T ow (.loop c) st=(match bO T ow c st with
 |some (.normal,st')=>bO T ow (.loop c) st'
 |r=>r):=by
 refine ip (fun r h=> ?_) (fun r h=> ?_)
 ·obtain ⟨n,hn⟩:=cD h
  cases n with
  |zero=>simp [aN] at hn
  |succ n=>
   simp only [aN] at hn
   cases ha:aN (bq T ow (n+1)) ow n c st with
   |none=>rw [ha] at hn;cases hn
   |some p=>
    obtain ⟨e,st'⟩:=p
    rw [bH (aX (fun _ _ _ _ h=>h) n (n+1) (by omega) ha)]
    rw [ha] at hn
    cases e with
    |normal=>exact bH (aX (fun _ _ _ _ h=>h) n (n+1) (by omega) hn)
    |exit id=>exact hn
    |ret=>exact hn
 ·cases ha:bO T ow c st with
  |none=>rw [ha] at h;cases h
  |some p=>
   obtain ⟨e,st'⟩:=p
   rw [ha] at h
   obtain ⟨n,hn⟩:=cD ha
   cases e with
   |normal=>
    obtain ⟨m,hm⟩:=cD (show bO T ow (.loop c) st'=some r from h)
    refine bH (n:=max n m+1) ?_
    simp only [aN]
    rw [aX (aZ T ow (by omega)) n (max n m) (by omega) hn]
    exact aX (aZ T ow (by omega)) m (max n m) (by omega) hm
   |exit id=>
    refine bH (n:=n+1) ?_
    simp only [aN]
    rw [aX (aZ T ow (by omega)) n n (by omega) hn]
    exact h
   |ret=>
    refine bH (n:=n+1) ?_
    simp only [aN]
    rw [aX (aZ T ow (by omega)) n n (by omega) hn]
    exact h
theorem de (g:bt) (c:aw) (st:St):bO T ow (.ghost g c) st=(match aL st g with
 |some st'=>bO T ow c st'
 |none=>none):=by
 refine ip (fun r h=> ?_) (fun r h=> ?_)
 ·obtain ⟨n,hn⟩:=cD h
  cases n with
  |zero=>simp [aN] at hn
  |succ n=>
   simp only [aN] at hn
   split at hn
   ·rename_i st' hg;simp only [hg];exact bH (aX (fun _ _ _ _ h=>h) n (n+1) (by omega) hn)
   ·cases hn
 ·split at h
  ·rename_i st' hg
   obtain ⟨n,hn⟩:=cD h
   refine bH (n:=n+1) ?_
   simp only [aN,hg]
   exact aX (aZ T ow (by omega)) n n (by omega) hn
  ·cases h
theorem Bh (f:FuncId) (a:List V) (b:List Blk):Call T ow f a b=(match T f with
 |none=>none
 |some (.code af)=>xM af (cU af b.length (bO T ow af.body (start a b)))
 |some (.ext g)=>g a b):=by
 refine ip (fun r h=> ?_) (fun r h=> ?_)
 ·obtain ⟨n,hn⟩:=ra h
  cases n with
  |zero=>simp [bq] at hn
  |succ n=>
   simp only [bq] at hn
   split at hn
   ·cases hn
   rotate_left
   ·rename_i g hg;simp only [hg];exact hn
   ·rename_i af haf
    cases he:aN (bq T ow n) ow n af.body (start a b) with
    |none=>rw [he] at hn;simp [cU,xM] at hn
    |some p=>simp only [haf];rw [bH he];rw [he] at hn;exact hn
 ·split at h
  ·cases h
  rotate_left
  ·rename_i g hg
   refine vJ (n:=1) ?_
   simp only [bq,hg]
   exact h
  ·rename_i af haf
   cases he:bO T ow af.body (start a b) with
   |none=>rw [he] at h;simp [cU,xM] at h
   |some p=>
    obtain ⟨n,hn⟩:=cD he
    refine vJ (n:=n+1) ?_
    simp only [bq,haf]
    rw [hn]
    rw [he] at h
    exact h
end
end Go.AI
set_option linter.unusedVariables false
set_option linter.unusedSimpArgs false
namespace Go.AI
def br {α:Type} (c:Bool) (x y:α):α:=match c with
 |true=>x
 |false=>y
theorem bG {α:Type} (x y:α):br true x y=x:=rfl
theorem b6 {α:Type} (x y:α):br false x y=y:=rfl
theorem Sw {α:Type} (c:Bool) (x y:α):br (!c) x y=br c y x:=by cases c<;>rfl
theorem Tc {α:Type} {c:Bool} {x y r:α} (h:c=true) (hx:x=r):br c x y=r:=by subst h;exact hx
theorem Td {α:Type} {c:Bool} {x y r:α} (h:c=false) (hy:y=r):br c x y=r:=by subst h;exact hy
theorem brc {α:Type} {c:Bool} {x y r:α} (h:br c x y=r):(c=true∧x=r)∨(c=false∧y=r):=by
 cases c
 ·exact .inr ⟨rfl,h⟩
 ·exact .inl ⟨rfl,h⟩
theorem brg {α:Type} {c:Bool} {x:Option α} {r:α} (h:br c x none=some r):c=true∧x=some r:=by
 cases c
 ·cases h
 ·exact ⟨rfl,h⟩
theorem bd {α β:Type} {x:Option α} {g:α→Option β} {r:β} (h:x.bind g=some r): ∃a,x=some a∧g a=some r:=by
 cases x with
 |none=>cases h
 |some a=>exact ⟨a,rfl,h⟩
inductive Fr where
 |code (c:aw)
 |steps (n:Nat) (ss:List aD) (live:List Nat)
 |dr (base i:Nat) (ss:List aD) (deps:List (List Nat)) (live:List Nat) (rs:List Rec)
 |blk (id:Nat)
section
variable {R:Type}
noncomputable def gw (T:Tab) (ow:be) (k:aH→St→Option R):List Fr→Option Nat→St→Option R
 |[],none,st=>k .normal st
 |[],some id,st=>k (.exit id) st
 | .blk id'::K,some id,st=>if id'=id then gw T ow k K none st else gw T ow k K (some id) st
 |_::K,some id,st=>gw T ow k K (some id) st
 | .blk _::K,none,st=>gw T ow k K none st
 | .code c::K,none,st=>match bO T ow c st with
   |some (.normal,st')=>gw T ow k K none st'
   |some (.exit id,st')=>gw T ow k K (some id) st'
   |some (.ret,st')=>k .ret st'
   |none=>none
 | .steps n ss live::K,none,st=>match cn (Call T ow) ow ss n st with
   |some st'=>gw T ow k K none (trim live st')
   |none=>none
 | .dr base i ss deps live rs::K,none,st=>match co (Call T ow) ow base ss i st with
   |some (st',rs')=>br (eP deps (rs++rs'.filter Rec.loud)) (gw T ow k K none (trim live st')) none
   |none=>none
noncomputable def Rn (T:Tab) (ow:be) (k:aH→St→Option R) (K:List Fr) (st:St):Option R:=gw T ow k K none st
noncomputable def Unw (T:Tab) (ow:be) (k:aH→St→Option R) (id:Nat) (K:List Fr) (st:St):Option R:=gw T ow k K (some id) st
noncomputable def goR (T:Tab) (ow:be) (k:aH→St→Option R) (K:List Fr):Option (aH×St)→Option R
 |some (.normal,st')=>Rn T ow k K st'
 |some (.exit id,st')=>Unw T ow k id K st'
 |some (.ret,st')=>k .ret st'
 |none=>none
variable {T:Tab} {ow:be} {k:aH→St→Option R}
theorem bf (c:aw) (K:List Fr) (st:St):Rn T ow k (.code c::K) st=goR T ow k K (bO T ow c st):=by
 unfold Rn gw goR
 cases bO T ow c st with
 |none=>rfl
 |some p=>obtain ⟨e,st'⟩:=p;cases e<;>rfl
theorem Je (st:St):Rn T ow k [] st=k .normal st:=rfl
theorem ME (id:Nat) (K:List Fr) (st:St):Rn T ow k (.blk id::K) st=Rn T ow k K st:=rfl
theorem If (K:List Fr) (st:St):Rn T ow k (.code .skip::K) st=Rn T ow k K st:=by rw [bf,Du];rfl
theorem HQ (id:Nat) (K:List Fr) (st:St):Rn T ow k (.code (.exit id)::K) st=Unw T ow k id K st:=by rw [bf,DN];rfl
theorem MM (K:List Fr) (st:St):Rn T ow k (.code .ret::K) st=k .ret st:=by rw [bf,Ff];rfl
theorem Kw (a b:aw) (K:List Fr) (st:St):Rn T ow k (.code (.seq a b)::K) st=Rn T ow k (.code a:: .code b::K) st:=by
 rw [bf,ol,bf]
 cases bO T ow a st with
 |none=>rfl
 |some p=>
  obtain ⟨e,st'⟩:=p
  cases e with
  |normal=>simp only [goR];rw [bf];rfl
  |exit id=>rfl
  |ret=>rfl
theorem BS (id:Nat) (c:aw) (K:List Fr) (st:St):Rn T ow k (.code (.block id c)::K) st=Rn T ow k (.code c:: .blk id::K) st:=by
 rw [bf,nX,bf]
 cases bO T ow c st with
 |none=>rfl
 |some p=>
  obtain ⟨e,st'⟩:=p
  cases e with
  |normal=>rfl
  |exit id'=>
   simp only [goR,Unw,Rn,gw]
   by_cases h:id'=id
   ·subst h;simp
   ·rw [if_neg h,if_neg (fun e=>h e.symm)]
  |ret=>rfl
noncomputable def FO (T:Tab) (ow:be) (k:aH→St→Option R) (a b:aw) (K:List Fr) (st:St):V→Option R
 | .lit (.bool c)=>br c (Rn T ow k (.code a::K) st) (Rn T ow k (.code b::K) st)
 |_=>none
theorem Fb (c:Opd) (a b:aw) (K:List Fr) (st:St):Rn T ow k (.code (.cond c a b)::K) st=FO T ow k a b K st (st.ev c):=by
 rw [bf,CH]
 unfold FO
 split
 ·rename_i h;rw [h];exact (bf _ _ _).symm
 ·rename_i h;rw [h];exact (bf _ _ _).symm
 ·rename_i h1 h2
  split
  ·rename_i c' h;cases c'
   ·exact absurd h h2
   ·exact absurd h h1
  ·rfl
theorem A8 (a b:aw) (K:List Fr) (st:St) (c:Bool):FO T ow k a b K st (.lit (.bool c))=br c (Rn T ow k (.code a::K) st) (Rn T ow k (.code b::K) st):=rfl
noncomputable def ghR (T:Tab) (ow:be) (k:aH→St→Option R) (c:aw) (K:List Fr):Option St→Option R
 |some st'=>Rn T ow k (.code c::K) st'
 |none=>none
theorem BZ (g:bt) (c:aw) (K:List Fr) (st:St):Rn T ow k (.code (.ghost g c)::K) st=ghR T ow k c K (aL st g):=by
 rw [bf,de]
 cases aL st g with
 |none=>rfl
 |some st'=>simp only [ghR];rw [bf]
theorem Eu (c:aw) (K:List Fr) (st:St):ghR T ow k c K (some st)=Rn T ow k (.code c::K) st:=rfl
theorem S9 (c:aw) (K:List Fr) (st:St):Rn T ow k (.code (.loop c)::K) st=goR T ow k K (bO T ow (.loop c) st):=bf _ _ _
theorem Az (K:List Fr) (st:St):goR T ow k K (some (.normal,st))=Rn T ow k K st:=rfl
theorem Hm (id:Nat) (K:List Fr) (st:St):goR T ow k K (some (.exit id,st))=Unw T ow k id K st:=rfl
theorem L5 (K:List Fr) (st:St):goR T ow k K (some (.ret,st))=k .ret st:=rfl
theorem JK (id:Nat) (st:St):Unw T ow k id [] st=k (.exit id) st:=rfl
theorem H8 (id:Nat) (c:aw) (K:List Fr) (st:St):Unw T ow k id (.code c::K) st=Unw T ow k id K st:=rfl
theorem L0 (id id':Nat) (K:List Fr) (st:St):Unw T ow k id (.blk id'::K) st=if id'=id then Rn T ow k K st else Unw T ow k id K st:=rfl
theorem AC (n:Nat) (ss:List aD) (live:List Nat) (K:List Fr) (st:St):Rn T ow k (.code (.region n ss live)::K) st=Rn T ow k (.steps n ss live::K) st:=by
 rw [bf,pS]
 unfold fI
 simp only [Rn,gw]
 cases cn (Call T ow) ow ss n st<;>rfl
theorem Cq (n:Nat) (ss:List aD) (deps:List (List Nat)) (live:List Nat) (K:List Fr) (st:St):Rn T ow k (.code (.drawn n ss deps live)::K) st=Rn T ow k (.dr n 0 ss deps live []::K) st:=by
 rw [bf,AU]
 unfold jy
 simp only [Rn,gw]
 cases co (Call T ow) ow n ss 0 st with
 |none=>rfl
 |some p=>
  obtain ⟨st',rs⟩:=p
  simp only [List.nil_append]
  cases eP deps (rs.filter Rec.loud)<;>rfl
theorem tC (n:Nat) (live:List Nat) (K:List Fr) (st:St):Rn T ow k (.steps n [] live::K) st=Rn T ow k K (trim live st):=rfl
noncomputable def aft (T:Tab) (ow:be) (k:aH→St→Option R) (d:Option Nat) (n:Nat) (ss:List aD) (live:List Nat) (K:List Fr) (st:St):Option (V×Upd)→Option R
 |some (v,u)=>Rn T ow k (.steps (n+1) ss live::K) ((st.upd u).put d v)
 |none=>none
variable {d:Option Nat} {n:Nat} {ss:List aD} {live:List Nat} {K:List Fr} {st:St}
theorem CW (op:AOp):Rn T ow k (.steps n (⟨d,op,none⟩::ss) live::K) st=aft T ow k d n ss live K st (ae (Call T ow) ow op st.ev st.heap n):=by
 unfold aft
 simp only [Rn,gw,cn,jX,St.want]
 cases ae (Call T ow) ow op st.ev st.heap n with
 |none=>rfl
 |some p=>obtain ⟨v,u⟩:=p;rfl
theorem Hl (v:V) (u:Upd):aft T ow k d n ss live K st (some (v,u))=Rn T ow k (.steps (n+1) ss live::K) ((st.upd u).put d v):=rfl
theorem GM:aft T ow k d n ss live K st none=none:=rfl
theorem Q5 (c:Bool) (x y:Option (V×Upd)):aft T ow k d n ss live K st (br c x y)=br c (aft T ow k d n ss live K st x) (aft T ow k d n ss live K st y):=by cases c<;>rfl
theorem GE {α:Type} (x:Option α) (f:α→Option (V×Upd)):aft T ow k d n ss live K st (x.bind f)=x.bind (fun a=>aft T ow k d n ss live K st (f a)):=by cases x<;>rfl
noncomputable def gd (T:Tab) (ow:be) (k:aH→St→Option R) (t:Nat) (b:Bool) (d:Option Nat) (op:AOp) (n:Nat) (ss:List aD) (live:List Nat) (K:List Fr) (st:St):V→Option R
 | .lit (.bool c)=>br (c==b) (Rn T ow k (.steps n (⟨d,op,none⟩::ss) live::K) { st with e:=ci t (.lit (.bool c)) st.e })
  (Rn T ow k (.steps (n+1) ss live::K) ({ st with e:=ci t (.lit (.bool c)) st.e }.put d (.lit (.tuple #[]))))
 | .lit (.tuple _)=>Rn T ow k (.steps (n+1) ss live::K) (st.put d (.lit (.tuple #[])))
 |_=>none
theorem uB {α:Type}: ∀{l:List (Nat×α)} {t:Nat} {v:α},b7 l t=some v→ci t v l=l
 |[],_,_,h=>by simp [b7] at h
 | (j,u)::r,t,v,h=>by
   simp only [b7] at h
   simp only [ci]
   split at h
   ·rename_i e;cases h;subst e;simp
   ·rename_i e;rw [if_neg e,uB h]
theorem xO {v:V} {t:Nat} (h:st.get t=v) (hv:v≠ .undef):({ st with e:=ci t v st.e }:St)=st:=by
 unfold St.get at h
 cases ha:b7 st.e t with
 |none=>rw [ha] at h;exact absurd h.symm hv
 |some u=>
  rw [ha] at h;cases h
  show ({ st with e:=ci t u st.e }:St)=st
  rw [uB ha]
theorem Dr (t:Nat) (b:Bool) (op:AOp):Rn T ow k (.steps n (⟨d,op,some (t,b)⟩::ss) live::K) st=gd T ow k t b d op n ss live K st (st.get t):=by
 cases hg:st.get t with
 |lit v=>
  cases v with
  |bool c=>
   simp only [gd]
   rw [xO hg (by simp)]
   simp only [Rn,gw,cn,jX,St.want,hg]
   cases hcb:(c==b)
   ·simp [b6,hcb]
   ·simp [bG,hcb]
  |tuple xs=>simp only [gd];simp only [Rn,gw,cn,jX,St.want,hg]
  |_=>simp only [gd];simp only [Rn,gw,cn,jX,St.want,hg]
 |_=>simp only [gd];simp only [Rn,gw,cn,jX,St.want,hg]
theorem Jr (t:Nat) (op:AOp) (c:Bool):gd T ow k t true d op n ss live K st (.lit (.bool c))=
 br c (Rn T ow k (.steps n (⟨d,op,none⟩::ss) live::K) { st with e:=ci t (.lit (.bool true)) st.e })
  (Rn T ow k (.steps (n+1) ss live::K) ({ st with e:=ci t (.lit (.bool false)) st.e }.put d (.lit (.tuple #[])))):=by cases c<;>rfl
theorem IU (t:Nat) (op:AOp) (c:Bool):gd T ow k t false d op n ss live K st (.lit (.bool c))=
 br c (Rn T ow k (.steps (n+1) ss live::K) ({ st with e:=ci t (.lit (.bool true)) st.e }.put d (.lit (.tuple #[]))))
  (Rn T ow k (.steps n (⟨d,op,none⟩::ss) live::K) { st with e:=ci t (.lit (.bool false)) st.e }):=by cases c<;>rfl
theorem HI (t:Nat) (b:Bool) (op:AOp) (xs:Array Value):gd T ow k t b d op n ss live K st (.lit (.tuple xs))=Rn T ow k (.steps (n+1) ss live::K) (st.put d (.lit (.tuple #[]))):=rfl
variable {base i:Nat} {deps:List (List Nat)} {rs:List Rec} {fp:List Nat}
def DM (rs:List Rec) (i:Nat) (fp wr:List Nat):List Rec:=rs++[Rec.mk i fp wr].filter Rec.loud
theorem zm:Rn T ow k (.dr base i [] deps live rs::K) st=br (eP deps rs) (Rn T ow k K (trim live st)) none:=by
 simp only [Rn,gw,co,List.filter_nil,List.append_nil]
noncomputable def qz (T:Tab) (ow:be) (k:aH→St→Option R) (d:Option Nat) (base i:Nat) (ss:List aD) (deps:List (List Nat)) (live:List Nat) (rs:List Rec) (K:List Fr) (st:St) (fp:List Nat):Option (V×Upd)→Option R
 |some (v,u)=>br ((u.map (·.1)).all (fun b=>decide (b∈fp)||(st.heap b).isNone))
  (Rn T ow k (.dr base (i+1) ss deps live (DM rs i fp (u.map (·.1)))::K) ((st.upd u).put d v)) none
 |none=>none
theorem Qc (op:AOp):Rn T ow k (.dr base i (⟨d,op,none⟩::ss) deps live rs::K) st=
 qz T ow k d base i ss deps live rs K st (bT ow op st.ev st.heap) (ae (Call T ow) ow op st.ev (fF st.heap (bT ow op st.ev st.heap)) (base+i)):=by
 unfold qz
 simp only [Rn,gw,co,iJ,St.want]
 cases ho:ae (Call T ow) ow op st.ev (fF st.heap (bT ow op st.ev st.heap)) (base+i) with
 |none=>rfl
 |some p=>
  obtain ⟨v,u⟩:=p
  dsimp only
  by_cases hc:(u.map (·.1)).all (fun b=>decide (b∈bT ow op st.ev st.heap)||(st.heap b).isNone)=true
  ·rw [hc,bG,if_pos rfl]
   dsimp only
   cases co (Call T ow) ow base ss (i+1) ((st.upd u).put d v) with
   |none=>rfl
   |some q=>
    obtain ⟨st2,rs2⟩:=q
    simp only [DM,List.filter_cons,List.filter_nil,List.append_assoc]
    cases Rec.loud ⟨i,bT ow op st.ev st.heap,u.map (·.1)⟩<;>rfl
  ·rw [Bool.not_eq_true] at hc
   rw [hc,b6,if_neg (by decide)]
theorem E0 (v:V) (u:Upd):qz T ow k d base i ss deps live rs K st fp (some (v,u))=br ((u.map (·.1)).all (fun b=>decide (b∈fp)||(st.heap b).isNone))
 (Rn T ow k (.dr base (i+1) ss deps live (DM rs i fp (u.map (·.1)))::K) ((st.upd u).put d v)) none:=rfl
theorem A4 (v:V):qz T ow k d base i ss deps live rs K st fp (some (v,[]))=Rn T ow k (.dr base (i+1) ss deps live (DM rs i fp [])::K) (st.put d v):=rfl
theorem DY:qz T ow k d base i ss deps live rs K st fp none=none:=rfl
theorem Jv (c:Bool) (x y:Option (V×Upd)):qz T ow k d base i ss deps live rs K st fp (br c x y)=br c (qz T ow k d base i ss deps live rs K st fp x) (qz T ow k d base i ss deps live rs K st fp y):=by cases c<;>rfl
theorem DW {α:Type} (x:Option α) (f:α→Option (V×Upd)):qz T ow k d base i ss deps live rs K st fp (x.bind f)=x.bind (fun a=>qz T ow k d base i ss deps live rs K st fp (f a)):=by cases x<;>rfl
noncomputable def gdD (T:Tab) (ow:be) (k:aH→St→Option R) (t:Nat) (b:Bool) (d:Option Nat) (op:AOp) (base i:Nat) (ss:List aD) (deps:List (List Nat)) (live:List Nat) (rs:List Rec) (K:List Fr) (st:St):V→Option R
 | .lit (.bool c)=>br (c==b) (Rn T ow k (.dr base i (⟨d,op,none⟩::ss) deps live rs::K) { st with e:=ci t (.lit (.bool c)) st.e })
  (Rn T ow k (.dr base (i+1) ss deps live rs::K) ({ st with e:=ci t (.lit (.bool c)) st.e }.put d (.lit (.tuple #[]))))
 | .lit (.tuple _)=>Rn T ow k (.dr base (i+1) ss deps live rs::K) (st.put d (.lit (.tuple #[])))
 |_=>none
theorem Bv (op:AOp) (g:Nat×Bool) (h:st.want (some g)=some false):Rn T ow k (.dr base i (⟨d,op,some g⟩::ss) deps live rs::K) st=Rn T ow k (.dr base (i+1) ss deps live rs::K) (st.put d (.lit (.tuple #[]))):=by
 simp only [Rn,gw,co,iJ,h]
 cases co (Call T ow) ow base ss (i+1) (st.put d (.lit (.tuple #[]))) with
 |none=>rfl
 |some q=>obtain ⟨st2,rs2⟩:=q;rfl
theorem QE (op:AOp) (g:Nat×Bool) (h:st.want (some g)=some true):Rn T ow k (.dr base i (⟨d,op,some g⟩::ss) deps live rs::K) st=Rn T ow k (.dr base i (⟨d,op,none⟩::ss) deps live rs::K) st:=by
 have h2:st.want none=some true:=rfl
 simp only [Rn,gw,co,iJ,h,h2]
theorem B9 (op:AOp) (g:Nat×Bool) (h:st.want (some g)=none):Rn T ow k (.dr base i (⟨d,op,some g⟩::ss) deps live rs::K) st=none:=by
 simp only [Rn,gw,co,iJ,h]
theorem vL (t:Nat) (b:Bool) (op:AOp):Rn T ow k (.dr base i (⟨d,op,some (t,b)⟩::ss) deps live rs::K) st=gdD T ow k t b d op base i ss deps live rs K st (st.get t):=by
 cases hg:st.get t with
 |lit v=>
  cases v with
  |bool c=>
   simp only [gdD]
   rw [xO hg (by simp)]
   cases hcb:(c==b)
   ·rw [b6];exact Bv op (t,b) (by simp [St.want,hg,hcb])
   ·rw [bG];exact QE op (t,b) (by simp [St.want,hg,hcb])
  |tuple xs=>exact Bv op (t,b) (by simp [St.want,hg])
  |_=>exact B9 op (t,b) (by simp [St.want,hg])
 |_=>exact B9 op (t,b) (by simp [St.want,hg])
theorem H5 (t:Nat) (op:AOp) (c:Bool):gdD T ow k t true d op base i ss deps live rs K st (.lit (.bool c))=
 br c (Rn T ow k (.dr base i (⟨d,op,none⟩::ss) deps live rs::K) { st with e:=ci t (.lit (.bool true)) st.e })
  (Rn T ow k (.dr base (i+1) ss deps live rs::K) ({ st with e:=ci t (.lit (.bool false)) st.e }.put d (.lit (.tuple #[])))):=by cases c<;>rfl
theorem Dv (t:Nat) (op:AOp) (c:Bool):gdD T ow k t false d op base i ss deps live rs K st (.lit (.bool c))=
 br c (Rn T ow k (.dr base (i+1) ss deps live rs::K) ({ st with e:=ci t (.lit (.bool true)) st.e }.put d (.lit (.tuple #[]))))
  (Rn T ow k (.dr base i (⟨d,op,none⟩::ss) deps live rs::K) { st with e:=ci t (.lit (.bool false)) st.e }):=by cases c<;>rfl
theorem Dy (t:Nat) (b:Bool) (op:AOp) (xs:Array Value):gdD T ow k t b d op base i ss deps live rs K st (.lit (.tuple xs))=Rn T ow k (.dr base (i+1) ss deps live rs::K) (st.put d (.lit (.tuple #[]))):=rfl
end
def zZ (af:aI) (m:Nat) (x:aH) (st:St):Option (V×List Blk):=xM af (cU af m (some (x,st)))
theorem aq {T:Tab} {ow:be} {f:FuncId} {af:aI} (hT:T f=some (.code af)) (a:List V) (b:List Blk):Call T ow f a b=Rn T ow (zZ af b.length) [.code af.body] (start a b):=by
 rw [Bh,hT]
 dsimp only
 rw [bf]
 cases bO T ow af.body (start a b) with
 |none=>rfl
 |some p=>obtain ⟨e,st⟩:=p;cases e<;>rfl
def oa {S E:Type} (step:S→Option (S⊕E)):Nat→S→Option E
 |0,_=>none
 |n+1,s=>match step s with
  |none=>none
  |some (.inl s')=>oa step n s'
  |some (.inr e)=>some e
theorem ub {S E:Type} {step:S→Option (S⊕E)}: ∀{n:Nat} {s:S} {e:E},oa step n s=some e→oa step (n+1) s=some e
 |0,_,_,h=>by cases h
 |n+1,s,e,h=>by
  simp only [oa] at h ⊢
  split at h
  ·cases h
  ·rename_i s' hs;exact ub h
  ·rename_i e' hs;exact h
theorem Jo {S E:Type} {step:S→Option (S⊕E)} {n m:Nat} (hnm:n≤m) {s:S} {e:E} (h:oa step n s=some e):oa step m s=some e:=by
 induction hnm with
 |refl=>exact h
 |step _ ih=>exact ub ih
noncomputable def Loop {S E:Type} (step:S→Option (S⊕E)) (s:S):Option E:=lim (fun n=>oa step n s)
theorem rf {S E:Type} {step:S→Option (S⊕E)} {s:S} {e:E} (h:Loop step s=some e): ∃n,oa step n s=some e:=zo h
theorem vP {S E:Type} {step:S→Option (S⊕E)} {n:Nat} {s:S} {e:E} (h:oa step n s=some e):Loop step s=some e:=
 Ak (g:=fun n=>oa step n s) (fun _ _ _ hnm h=>Jo hnm h) h
def Bq {S E:Type} (lp:S→Option E):Option (S⊕E)→Option E
 |none=>none
 |some (.inl s')=>lp s'
 |some (.inr e)=>some e
theorem n9 {S E:Type} (step:S→Option (S⊕E)) (s:S):Loop step s=Bq (Loop step) (step s):=by
 refine ip (fun r h=> ?_) (fun r h=> ?_)
 ·obtain ⟨n,hn⟩:=rf h
  cases n with
  |zero=>cases hn
  |succ n=>
   simp only [oa] at hn
   split at hn
   ·cases hn
   ·rename_i s' hs;rw [hs];exact vP hn
   ·rename_i e' hs;rw [hs];exact hn
 ·cases hs:step s with
  |none=>rw [hs] at h;cases h
  |some o=>
   rw [hs] at h
   cases o with
   |inl s'=>
    obtain ⟨n,hn⟩:=rf (show Loop step s'=some r from h)
    exact vP (n:=n+1) (by simp only [oa,hs];exact hn)
   |inr e=>exact vP (n:=1) (by simp only [oa,hs];exact h)
def RV (x:aH) (st:St):Option (aH×St):=some (x,st)
theorem IX {T:Tab} {ow:be} (c:aw) (st:St):bO T ow c st=Rn T ow RV [.code c] st:=by
 rw [bf]
 cases bO T ow c st with
 |none=>rfl
 |some p=>obtain ⟨e,st⟩:=p;cases e<;>rfl
theorem Rg {T:Tab} {ow:be} {S E:Type} {c:aw} {step:S→Option (S⊕E)} {eS:S→St} {eE:E→aH×St} (hne: ∀e,(eE e).1≠ .normal)
 (hb: ∀s o,step s=some o→Rn T ow RV [.code c] (eS s)=some (match o with
  | .inl s'=>(.normal,eS s')
  | .inr e=>eE e)) {s:S} {e:E} (h:Loop step s=some e):bO T ow (.loop c) (eS s)=some (eE e):=by
 obtain ⟨n,hn⟩:=rf h
 clear h
 induction n generalizing s with
 |zero=>cases hn
 |succ n ih=>
  simp only [oa] at hn
  rw [u9,IX]
  split at hn
  ·cases hn
  ·rename_i s' hs
   rw [hb s _ hs]
   exact ih hn
  ·rename_i e' hs
   rw [hb s _ hs]
   cases hn
   dsimp only
   have:=hne e
   revert this
   generalize eE e=p
   obtain ⟨x,st⟩:=p
   intro this
   cases x with
   |normal=>exact absurd rfl this
   |exit id=>rfl
   |ret=>rfl
def qt (g:bt):aw→aw
 | .seq a b=> .seq (qt g a) b
 | .block id a=> .block id (qt g a)
 |c=> .ghost g c
section
variable {R:Type} {T:Tab} {ow:be} {k:aH→St→Option R}
def ghE (T:Tab) (ow:be) (c:aw):Option St→Option (aH×St)→Option (aH×St)
 |some _,r=>r
 |none,_=>none
theorem pq (g:bt): ∀(c:aw) (st:St),bO T ow (qt g c) st=(match aL st g with
 |some st'=>bO T ow c st'
 |none=>none)
 | .seq a b,st=>by
   simp only [qt]
   rw [ol,pq g a st]
   cases aL st g with
   |none=>rfl
   |some st'=>dsimp only;rw [ol]
 | .block id a,st=>by
   simp only [qt]
   rw [nX,pq g a st]
   cases aL st g with
   |none=>rfl
   |some st'=>dsimp only;rw [nX]
 | .skip,st=>de _ _ _
 | .region _ _ _,st=>de _ _ _
 | .drawn _ _ _ _,st=>de _ _ _
 | .cond _ _ _,st=>de _ _ _
 | .loop _,st=>de _ _ _
 | .exit _,st=>de _ _ _
 | .ret,st=>de _ _ _
 | .ghost _ _,st=>de _ _ _
noncomputable def cw (T:Tab) (ow:be) (g:bt) (c:aw) (st:St):Option (aH×St):=match bO T ow c st with
 |some (.normal,st')=>bO T ow (.loop (qt g c)) st'
 |r=>r
noncomputable def goL (T:Tab) (ow:be) (k:aH→St→Option R) (K:List Fr) (g:bt) (c:aw):Option St→Option R
 |some st'=>goR T ow k K (cw T ow g c st')
 |none=>none
theorem th (g:bt) (c:aw) (st:St):bO T ow (.loop (qt g c)) st=(match aL st g with
 |some st'=>cw T ow g c st'
 |none=>none):=by
 rw [u9,pq]
 cases aL st g<;>rfl
theorem C7 (g:bt) (c:aw) (K:List Fr) (st:St):Rn T ow k (.code (.loop (qt g c))::K) st=goL T ow k K g c (aL st g):=by
 rw [bf,th]
 cases aL st g<;>rfl
theorem Gf (K:List Fr) (g:bt) (c:aw) (st':St):goL T ow k K g c (some st')=goR T ow k K (cw T ow g c st'):=rfl
def ogM:Option St→Option (aH×St)
 |some st=>some (.normal,st)
 |none=>none
def vf (g:bt):aH→St→Option (aH×St)
 | .normal,st=>ogM (aL st g)
 |x,st=>some (x,st)
theorem yA (g:bt) (st:St):vf g .normal st=ogM (aL st g):=rfl
theorem Ef (g:bt) (id:Nat) (st:St):vf g (.exit id) st=some (.exit id,st):=rfl
theorem G5 (g:bt) (st:St):vf g .ret st=some (.ret,st):=rfl
theorem FF (st:St):ogM (some st)=some (.normal,st):=rfl
theorem DS {S E:Type} {g:bt} {c:aw} {step:S→Option (S⊕E)} {eS:S→St} {eE:E→aH×St} (hne: ∀e,(eE e).1≠ .normal)
 (hb: ∀s o,step s=some o→Rn T ow (vf g) [.code c] (eS s)=some (match o with
  | .inl s'=>(.normal,eS s')
  | .inr e=>eE e)) {s:S} {e:E} (h:Loop step s=some e):cw T ow g c (eS s)=some (eE e):=by
 obtain ⟨n,hn⟩:=rf h
 clear h
 induction n generalizing s with
 |zero=>cases hn
 |succ n ih=>
  simp only [oa] at hn
  unfold cw
  split at hn
  ·cases hn
  ·rename_i s' hs
   have h1:=hb s _ hs
   rw [bf] at h1
   cases hx:bO T ow c (eS s) with
   |none=>rw [hx] at h1;cases h1
   |some p=>
    obtain ⟨x,st'⟩:=p
    rw [hx] at h1
    cases x with
    |normal=>
     dsimp only
     rw [th]
     simp only [goR,Rn,gw,vf,ogM] at h1
     cases hg:aL st' g with
     |none=>rw [hg] at h1;cases h1
     |some st2=>rw [hg] at h1;cases h1;exact ih hn
    |exit id=>simp [goR,Unw,gw,vf] at h1
    |ret=>simp [goR,vf] at h1
  ·rename_i e' hs
   have h1:=hb s _ hs
   cases hn
   have hn2:=hne e
   rw [bf] at h1
   dsimp only at h1
   revert h1 hn2
   generalize eE e=q
   intro h1 hn2
   cases hx:bO T ow c (eS s) with
   |none=>rw [hx] at h1;cases h1
   |some p=>
    obtain ⟨x,st'⟩:=p
    rw [hx] at h1
    cases x with
    |normal=>
     simp only [goR,Rn,gw,vf,ogM] at h1
     cases hg:aL st' g with
     |none=>rw [hg] at h1;cases h1
     |some st2=>rw [hg] at h1;cases h1;exact absurd rfl hn2
    |exit id=>exact h1
    |ret=>exact h1
variable {d:Option Nat} {n:Nat} {ss:List aD} {live:List Nat} {K:List Fr} {st:St} {base i:Nat} {deps:List (List Nat)} {rs:List Rec} {fp:List Nat} {r:R}
theorem Py {x:Option (aH×St)} {p:aH×St} (h:x=some p) (hr:goR T ow k K (some p)=some r):goR T ow k K x=some r:=by rw [h];exact hr
theorem Db (g:bt) (c:aw):goR T ow k K (cw T ow g c st)=Rn T ow k (.code c:: .code (.loop (qt g c))::K) st:=by
 rw [bf]
 unfold cw
 cases hx:bO T ow c st with
 |none=>rfl
 |some p=>
  obtain ⟨x,st'⟩:=p
  cases x with
  |normal=>dsimp only;simp only [goR];rw [bf];rfl
  |exit id=>rfl
  |ret=>rfl
theorem Qx {g:bt} {c:aw} (h:Rn T ow k (.code c:: .code (.loop (qt g c))::K) st=some r):goR T ow k K (cw T ow g c st)=some r:=by rw [Db];exact h
theorem bind_some {α β:Type} {x:Option α} {a:α} {F:α→Option β} {r:β} (h:x=some a) (hr:F a=some r):x.bind F=some r:=by rw [h];exact hr
end
end Go.AI
set_option linter.unusedVariables false
set_option linter.unusedSimpArgs false
namespace Go.AI
abbrev I (n:Int):V:= .lit (.int .i64 n)
abbrev B (b:Bool):V:= .lit (.bool b)
abbrev S (s:List UInt8):V:= .lit (.string ⟨⟨s⟩⟩)
structure En (α:Type) where
 esz:Nat
 enc:α→List V
def rws {α:Type} (e:En α) (l:List α):List (List V):=l.map e.enc
def sl {α:Type} (e:En α) (l:List α):V:=(V.imm e.esz (rws e l)).cz
theorem On {α:Type} (e:En α):sl e []= .imm 1 []:=rfl
theorem Sr {α:Type} (e:En α) (x:α) (l:List α):sl e (x::l)= .imm e.esz (rws e (x::l)):=rfl
def eI:En Int:=⟨1,fun n=>[I n]⟩
def eU8:En UInt8:=⟨1,fun b=>[.lit (.int .u8 b.toNat)]⟩
def yl:En Int:=⟨1,fun n=>[.lit (.int .u64 n)]⟩
def eB:En Bool:=⟨1,fun b=>[B b]⟩
def eS:En (List UInt8):=⟨1,fun s=>[S s]⟩
def eL {α:Type} (e:En α):En (List α):=⟨1,fun l=>[sl e l]⟩
theorem O1:eI.esz=1:=by decide
theorem Qn (n:Int):eI.enc n=[I n]:=rfl
theorem Ld:eU8.esz=1:=by decide
theorem KJ (n:UInt8):eU8.enc n=[.lit (.int .u8 n.toNat)]:=rfl
theorem F8:yl.esz=1:=by decide
theorem HF (n:Int):yl.enc n=[.lit (.int .u64 n)]:=rfl
theorem Nq:eB.esz=1:=by decide
theorem Nn (n:Bool):eB.enc n=[B n]:=rfl
theorem PX:eS.esz=1:=by decide
theorem OB (n:List UInt8):eS.enc n=[S n]:=rfl
theorem Ql {α:Type} (e:En α):(eL e).esz=1:=of_decide_eq_true rfl
theorem Qg {α:Type} (e:En α) (l:List α):(eL e).enc l=[sl e l]:=rfl
def atL {α:Type} (l:List α) (i:Int):Option α:=if 0≤i then l[i.toNat]? else none
def fT {α:Type} (l:List α) (a b:Int):Option (List α):=if 0≤a∧a≤b∧b≤l.length then some ((l.take b.toNat).drop a.toNat) else none
def inb (i:Int) (n:Nat):Bool:=decide (0≤i)&&decide (i.toNat<n)
def dM (n bytes:Nat):Bool:=decide (n*bytes≤aK)
def zw (l c:Int) (bytes:Nat):Bool:=decide (0≤l)&&decide (l≤c)&&decide (c*bytes≤aK)
def mx (a b:Int):Int:=if b>a then b else a
def mn (a b:Int):Int:=if b<a then b else a
def Bs (r:List (List V)):Nat:=r.length
def app (r q:List (List V)):List (List V):=r++q
def mkR (n:Nat) (r:List (List V)):List (List V):=r
def bD (row:List V) (r:List (List V)):List (List V):=row::r
def xb (n k:Nat) (row:List V):List (List V):=List.replicate k row
def cG (r:List (List V)) (i:Nat) (row:List V):List (List V):=r.set i row
section
variable {α:Type} {e:En α} {l l2:List α}
theorem CA:Bs (rws e l)=l.length:=by simp [Bs,rws]
theorem LX:app (rws e l) (rws e l2)=rws e (l++l2):=by simp [app,rws]
theorem mk0 (e:En α) (n:Nat):mkR n []=rws e []:=rfl
theorem GT (n:Nat) (row:List V) (r:List (List V)):mkR n (row::r)=bD row (mkR n r):=rfl
theorem RW (a:Int) (l:List Int):bD [I a] (rws eI l)=rws eI (a::l):=rfl
theorem QS (a:List UInt8) (l:List (List UInt8)):bD [S a] (rws eS l)=rws eS (a::l):=rfl
theorem Ru (a:List α) (l:List (List α)):bD [sl e a] (rws (eL e) l)=rws (eL e) (a::l):=rfl
theorem NV (l:List (List α)):bD [.imm 1 []] (rws (eL e) l)=rws (eL e) ([]::l):=rfl
theorem Rc (b:Bool) (l:List Bool):bD [B b] (rws eB l)=rws eB (b::l):=rfl
theorem L6 (a:Int) (l:List Int):bD [.lit (.int .u64 a)] (rws yl l)=rws yl (a::l):=rfl
theorem AR (b:UInt8) (l:List UInt8):bD [.lit (.int .u8 b.toNat)] (rws eU8 l)=rws eU8 (b::l):=rfl
theorem gB (x:Int):((UInt8.ofInt x).toNat:Int)=IntKind.u8.wrap x:=by
 simp [UInt8.ofInt,IntKind.wrap,IntKind.bits,IntKind.signed]
 omega
theorem pe (x:Int) (l:List UInt8):bD [.lit (.int .u8 (IntKind.u8.wrap x))] (rws eU8 l)=rws eU8 (UInt8.ofInt x::l):=by
 rw [←gB];rfl
theorem Ss (n:Nat) (h:n<256) (l:List UInt8):bD [.lit (.int .u8 (n:Int))] (rws eU8 l)=rws eU8 (UInt8.ofNat n::l):=by
 have:(UInt8.ofNat n).toNat=n:=by simp;omega
 rw [←AR,this]
theorem JE (n:Nat) (h:Nat.ble n 255=true) (l:List UInt8):bD [.lit (.int .u8 (no_index (OfNat.ofNat n:Int)))] (rws eU8 l)=rws eU8 ((OfNat.ofNat n:UInt8)::l):=by
 have h':=Nat.le_of_ble_eq_true h
 have:((OfNat.ofNat n:UInt8).toNat:Int)=(OfNat.ofNat n:Int):=by
  show ((UInt8.ofNat n).toNat:Int)=(n:Int)
  simp;omega
 rw [←AR,this]
theorem SF (l:List Int) (i:Nat) (a:Int):cG (rws eI l) i [I a]=rws eI (l.set i a):=by simp [cG,rws,eI]
theorem OE (l:List Int) (i:Nat) (a:Int):cG (rws yl l) i [.lit (.int .u64 a)]=rws yl (l.set i a):=by simp [cG,rws,yl]
theorem setB (l:List Bool) (i:Nat) (a:Bool):cG (rws eB l) i [B a]=rws eB (l.set i a):=by simp [cG,rws,eB]
theorem Og (l:List (List UInt8)) (i:Nat) (a:List UInt8):cG (rws eS l) i [S a]=rws eS (l.set i a):=by simp [cG,rws,eS]
theorem Sv (l:List (List α)) (i:Nat) (a:List α):cG (rws (eL e) l) i [sl e a]=rws (eL e) (l.set i a):=by simp [cG,rws,eL]
theorem MS (l:List UInt8) (i:Nat) (a:UInt8):cG (rws eU8 l) i [.lit (.int .u8 a.toNat)]=rws eU8 (l.set i a):=by simp [cG,rws,eU8]
theorem sX (l:List UInt8) (i:Nat) (x:Int):cG (rws eU8 l) i [.lit (.int .u8 (IntKind.u8.wrap x))]=rws eU8 (l.set i (UInt8.ofInt x)):=by
 rw [←gB,MS]
theorem SP (e:En α) (x:α) (n k:Nat):xb n k (e.enc x)=rws e (List.replicate k x):=by simp [xb,rws]
theorem N7 (m:Nat) (h:e.esz=m):V.cz (.imm m (rws e l))=sl e l:=by subst h;rfl
theorem RZ (r:List (List V)):r.drop 0=r:=rfl
theorem RK (k:Nat):(rws e l).drop k=rws e (l.drop k):=by simp [rws]
theorem cW (e:En α) (l:List α):(l=[]∧sl e l= .imm 1 [])∨(l≠[]∧sl e l= .imm e.esz (rws e l)):=by
 cases l with
 |nil=>exact .inl ⟨rfl,rfl⟩
 |cons x l=>exact .inr ⟨by simp,rfl⟩
theorem Rs:(sl e l).cz=sl e l:=by
 cases l with
 |nil=>rfl
 |cons x l=>rfl
theorem Pd:(sl e l).czA=sl e l:=by
 cases l with
 |nil=>rfl
 |cons x l=>rfl
theorem Pw:(sl e l).czR=sl e l:=by
 cases l with
 |nil=>rfl
 |cons x l=>rfl
theorem Kp:(sl e l).cell=true:=by
 rcases cW e l with ⟨_,h⟩|⟨_,h⟩<;>rw [h]<;>rfl
theorem QX:(sl e l).cl=true:=by
 rcases cW e l with ⟨_,h⟩|⟨_,h⟩<;>rw [h]<;>rfl
theorem EQ:(sl e l).cells=[sl e l]:=by
 rcases cW e l with ⟨_,h⟩|⟨_,h⟩<;>rw [h]<;>rfl
theorem Kt:bK (sl e l)=[]:=by
 rcases cW e l with ⟨_,h⟩|⟨_,h⟩<;>rw [h]<;>rfl
theorem Kv:ft (sl e l)=[]:=by
 rcases cW e l with ⟨_,h⟩|⟨_,h⟩<;>rw [h]<;>rfl
theorem BF {h:ah}:ei h (sl e l)=some (sl e l,[]):=by
 rcases cW e l with ⟨_,h⟩|⟨_,h⟩<;>rw [h]<;>rfl
theorem zr {h:ah} {own:Bool} {ids:List Nat}:aU h own ids (sl e l)=some (sl e l,ids,[]):=by
 rcases cW e l with ⟨_,h⟩|⟨_,h⟩<;>rw [h]<;>rfl
theorem Do {h:ah} {own:Bool} {ids:List Nat}:bp h own ids (sl e l)=some (sl e l,ids,[]):=by
 rcases cW e l with ⟨_,h⟩|⟨_,h⟩<;>rw [h]<;>rfl
theorem O0 {ids:List Nat}:unV ids (sl e l)=sl e l:=by
 rcases cW e l with ⟨_,h⟩|⟨_,h⟩<;>rw [h]<;>rfl
theorem FA {ids:List Nat}:dn ids (sl e l)=sl e l:=by
 rcases cW e l with ⟨_,h⟩|⟨_,h⟩<;>rw [h]<;>rfl
theorem GQ {ids:List Nat}:jY ids (sl e l)=sl e l:=by
 rcases cW e l with ⟨_,h⟩|⟨_,h⟩<;>rw [h]<;>rfl
theorem Hn:eH (sl e l)=false:=by
 rcases cW e l with ⟨_,h⟩|⟨_,h⟩<;>rw [h]<;>rfl
theorem Gj:kW (sl e l)=false:=by
 rcases cW e l with ⟨_,h⟩|⟨_,h⟩<;>rw [h]<;>rfl
theorem Iq:fY (sl e l)=false:=by
 rcases cW e l with ⟨_,h⟩|⟨_,h⟩<;>rw [h]<;>rfl
theorem Nb {h:ah} {bs:List Nat}:fzC h bs (sl e l)=sl e l:=by
 rcases cW e l with ⟨_,h⟩|⟨_,h⟩<;>rw [h]<;>rfl
theorem P8 {h:ah} {bs:List Nat}:fzA h bs (sl e l)=sl e l:=by
 rcases cW e l with ⟨_,h⟩|⟨_,h⟩<;>rw [h]<;>rfl
theorem KV {h:ah} {m:Nat} {kp:List Nat}:ew h m kp (sl e l)=some (sl e l):=by
 rcases cW e l with ⟨_,h⟩|⟨_,h⟩<;>rw [h]<;>rfl
theorem Lj {h:ah} {m:Nat} {kp:List Nat}:lL h m kp (sl e l)=some (sl e l):=by
 rcases cW e l with ⟨_,h⟩|⟨_,h⟩<;>rw [h]<;>rfl
theorem Jn {h:ah} {m:Nat} {kp:List Nat}:nl h m kp (sl e l)=some (sl e l):=by
 rcases cW e l with ⟨_,h⟩|⟨_,h⟩<;>rw [h]<;>rfl
theorem PV:okC (sl e l)=true:=by
 rcases cW e l with ⟨_,h⟩|⟨_,h⟩<;>rw [h]<;>rfl
theorem uD {h:ah} (m:Nat) (hm:e.esz=m):bg h m (sl e l)=some (rws e l):=by
 subst hm
 rcases cW e l with ⟨rfl,h⟩|⟨hl,h⟩
 ·rw [h];simp [bg,rws]
 ·rw [h];simp [bg]
theorem xl:BD (sl e l)=false:=by
 rcases cW e l with ⟨_,h⟩|⟨_,h⟩<;>rw [h]<;>rfl
end
end Go.AI
