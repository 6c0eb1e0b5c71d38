/- The limit of the abstract machine's runs: more rounds tell the same; the equations of the limit. -/
import Derived.Test.YtgjlndaebhaciaaAiDefs
namespace Go.AI
theorem pL {C C':aB} (hC: ∀f a b r,C f a b=some r→C' f a b=some r) {ow:be} {h:ah} {new:Nat} {f:FuncId} {args:List V} {r:V×Upd}
 (hr:dR C ow h new f args=some r):dR C' ow h new f args=some r:=by
 unfold dR at hr ⊢
 cases hp:bo ow h f args with
 |none=>rw [hp] at hr;cases hr
 |some p=>
  obtain ⟨args',blks,ids,bor⟩:=p
  rw [hp] at hr
  dsimp only at hr ⊢
  cases hc:C f (gX (ow f) args') (gK (ow f) blks) with
  |none=>rw [hc] at hr;cases hr
  |some q=>rw [hC _ _ _ _ hc];rw [hc] at hr;exact hr
theorem sQ {C C':aB} (hC: ∀f a b r,C f a b=some r→C' f a b=some r) {ow:be} {o:AOp} {ev:Opd→V} {h:ah} {new:Nat} {r:V×Upd}
 (hr:ae C ow o ev h new=some r):ae C' ow o ev h new=some r:=by
 cases o
 case call f args=>simp only [ae] at hr ⊢;exact pL hC hr
 case dyn f args=>
  simp only [ae] at hr ⊢
  split at hr
  ·exact pL hC hr
  ·cases hr
 all_goals exact hr
theorem u4 {C:Nat→aB} {D:aB} (hD: ∀f a b r,D f a b=some r→ ∃n,C n f a b=some r) (n0:Nat) {ow:be} {o:AOp} {ev:Opd→V} {h:ah} {new:Nat} {r:V×Upd}
 (hr:ae D ow o ev h new=some r): ∃n,ae (C n) ow o ev h new=some r:=by
 have key: ∀f args,dR D ow h new f args=some r→ ∃n,dR (C n) ow h new f args=some r:=by
  intro f args hr
  unfold dR at hr
  cases hp:bo ow h f args with
  |none=>rw [hp] at hr;cases hr
  |some p=>
   obtain ⟨args',blks,ids,bor⟩:=p
   rw [hp] at hr
   dsimp only at hr
   cases hc:D f (gX (ow f) args') (gK (ow f) blks) with
   |none=>rw [hc] at hr;cases hr
   |some q=>
    rw [hc] at hr
    obtain ⟨n,hn⟩:=hD _ _ _ _ hc
    refine ⟨n, ?_⟩
    unfold dR
    rw [hp]
    dsimp only
    rw [hn]
    exact hr
 cases o
 case call f args=>simp only [ae] at hr ⊢;exact key _ _ hr
 case dyn f args=>
  simp only [ae] at hr ⊢
  split at hr
  ·exact key _ _ hr
  ·cases hr
 all_goals exact ⟨n0,hr⟩
theorem rh {C C':aB} (hC: ∀f a b r,C f a b=some r→C' f a b=some r) {ow:be} {st:St} {s:aD} {n:Nat} {r:St}
 (hr:jO C ow st s n=some r):jO C' ow st s n=some r:=by
 unfold jO at hr ⊢
 split at hr
 ·cases hr
 ·exact hr
 ·split at hr
  ·rename_i v u ho;rw [sQ hC ho];exact hr
  ·cases hr
theorem i4 {C C':aB} (hC: ∀f a b r,C f a b=some r→C' f a b=some r) {ow:be}: ∀{l:List aD} {n:Nat} {st:St} {r:St},
 cq C ow l n st=some r→cq C' ow l n st=some r
 |[],_,_,_,hr=>hr
 |s::l,n,st,r,hr=>by
  simp only [cq] at hr ⊢
  split at hr
  ·rename_i st' h;rw [rh hC h];exact i4 hC hr
  ·cases hr
theorem sR {C C':aB} (hC: ∀f a b r,C f a b=some r→C' f a b=some r) {ow:be} {st:St} {s:aD} {i n:Nat} {r:St×Rec}
 (hr:iM C ow st s i n=some r):iM C' ow st s i n=some r:=by
 unfold iM at hr ⊢
 split at hr
 ·cases hr
 ·exact hr
 ·split at hr
  ·rename_i v u ho;rw [sQ hC ho];exact hr
  ·cases hr
theorem hJ {C C':aB} (hC: ∀f a b r,C f a b=some r→C' f a b=some r) {ow:be} {base:Nat}: ∀{l:List aD} {n:Nat} {st:St} {r:St×List Rec},
 co C ow base l n st=some r→co C' ow base l n st=some r
 |[],_,_,_,hr=>hr
 |s::l,n,st,r,hr=>by
  simp only [co] at hr ⊢
  split at hr
  ·rename_i st' rc h
   rw [sR hC h]
   dsimp only
   split at hr
   ·rename_i st2 rs h2;rw [hJ hC h2];exact hr
   ·cases hr
  ·cases hr
theorem aV {C C':aB} (hC: ∀f a b r,C f a b=some r→C' f a b=some r) {ow:be}: ∀(n m:Nat),n≤m→ ∀{c:aw} {st:St} {r:aH×St},
 aN C ow n c st=some r→aN C' ow m c st=some r
 |0,_,_,_,_,_,hr=>by simp [aN] at hr
 |n+1,0,h,_,_,_,_=>absurd h (by omega)
 |n+1,m+1,h,c,st,r,hr=>by
  have ih:=fun {c st r}=>aV hC (ow:=ow) n m (by omega) (c:=c) (st:=st) (r:=r)
  cases c with
  |skip=>exact hr
  |region base steps live=>
   simp only [aN,fM] at hr ⊢
   split at hr
   ·rename_i st' h;rw [i4 hC h];exact hr
   ·cases hr
  |drawn base steps deps live=>
   simp only [aN,jI] at hr ⊢
   split at hr
   ·rename_i st' rs h;rw [hJ hC h];exact hr
   ·cases hr
  |seq a b=>
   simp only [aN] at hr ⊢
   cases ha:aN C ow n a st with
   |none=>rw [ha] at hr;cases hr
   |some p=>
    obtain ⟨e,st'⟩:=p
    rw [ih ha]
    rw [ha] at hr
    cases e with
    |normal=>exact ih hr
    |exit id=>exact hr
    |ret=>exact hr
  |cond c a b=>
   simp only [aN] at hr ⊢
   split at hr
   ·exact ih hr
   ·exact ih hr
   ·cases hr
  |block id c=>
   simp only [aN] at hr ⊢
   cases ha:aN C ow n c st with
   |none=>rw [ha] at hr;cases hr
   |some p=>rw [ih ha];rw [ha] at hr;exact hr
  |loop c=>
   simp only [aN] at hr ⊢
   cases ha:aN C ow n c st with
   |none=>rw [ha] at hr;cases hr
   |some p=>
    obtain ⟨e,st'⟩:=p
    rw [ih ha]
    rw [ha] at hr
    cases e with
    |normal=>exact ih hr
    |exit id=>exact hr
    |ret=>exact hr
  |exit id=>exact hr
  |ret=>exact hr
  |ghost g c=>
   simp only [aN] at hr ⊢
   split at hr
   ·exact ih hr
   ·cases hr
theorem th (T:Tab) (ow:be): ∀(n:Nat) f a b r,bt T ow n f a b=some r→bt T ow (n+1) f a b=some r
 |0,_,_,_,_,h=>by simp [bt] at h
 |n+1,f,a,b,r,h=>by
  simp only [bt] at h ⊢
  split at h
  ·cases h
  rotate_left
  ·exact h
  ·rename_i af haf
   cases he:aN (bt T ow n) ow n af.body (start a b) with
   |none=>rw [he] at h;simp [cP,wI] at h
   |some p=>
    have:=aV (th T ow n) (ow:=ow) n (n+1) (by omega) he
    simp only [bt] at this
    rw [this]
    rw [he] at h
    exact h
theorem aW (T:Tab) (ow:be) {n m:Nat} (h:n≤m): ∀f a b r,bt T ow n f a b=some r→bt T ow m f a b=some r:=by
 induction h with
 |refl=>exact fun _ _ _ _ h=>h
 |step _ ih=>exact fun f a b r h=>th T ow _ f a b r (ih f a b r h)
open Classical in
noncomputable def lim {α:Type} (g:Nat→Option α):Option α:=if h: ∃n r,g n=some r then g h.choose else none
theorem AA {α:Type} {g:Nat→Option α} (hm: ∀n m r,n≤m→g n=some r→g m=some r) {n:Nat} {r:α} (h:g n=some r):lim g=some r:=by
 have hx: ∃n r,g n=some r:=⟨n,r,h⟩
 unfold lim
 rw [dif_pos hx]
 obtain ⟨r',hr'⟩:=hx.choose_spec
 have h1:=hm _ (max n hx.choose) _ (Nat.le_max_left _ _) h
 have h2:=hm _ (max n hx.choose) _ (Nat.le_max_right _ _) hr'
 rw [h1] at h2
 rw [hr', ←h2]
theorem A4 {α:Type} {g:Nat→Option α} {r:α} (h:lim g=some r): ∃n,g n=some r:=by
 unfold lim at h
 split at h
 ·exact ⟨_,h⟩
 ·cases h
noncomputable def Call (T:Tab) (ow:be):aB:=fun f a b=>lim fun n=>bt T ow n f a b
noncomputable def bO (T:Tab) (ow:be) (c:aw) (st:St):Option (aH×St):=lim fun n=>aN (bt T ow n) ow n c st
section
variable {T:Tab} {ow:be}
theorem Kp {n m:Nat} (h:n≤m) {c:aw} {st:St} {r:aH×St} (hr:aN (bt T ow n) ow n c st=some r):aN (bt T ow m) ow m c st=some r:=
 aV (aW T ow h) n m h hr
theorem bG {n:Nat} {c:aw} {st:St} {r:aH×St} (h:aN (bt T ow n) ow n c st=some r):bO T ow c st=some r:=
 AA (g:=fun n=>aN (bt T ow n) ow n c st) (fun _ _ _ hnm h=>Kp hnm h) h
theorem cJ {c:aw} {st:St} {r:aH×St} (h:bO T ow c st=some r): ∃n,aN (bt T ow n) ow n c st=some r:=A4 h
theorem uZ {n:Nat} {f:FuncId} {a:List V} {b:List Blk} {r:V×List Blk} (h:bt T ow n f a b=some r):Call T ow f a b=some r:=
 AA (g:=fun n=>bt T ow n f a b) (fun _ _ _ hnm h=>aW T ow hnm _ _ _ _ h) h
theorem rb {f:FuncId} {a:List V} {b:List Blk} {r:V×List Blk} (h:Call T ow f a b=some r): ∃n,bt T ow n f a b=some r:=A4 h
theorem ix {α:Type} {a b:Option α} (h1: ∀r,a=some r→b=some r) (h2: ∀r,b=some r→a=some r):a=b:=by
 cases a with
 |none=>cases b with
  |none=>rfl
  |some r=>exact absurd (h2 r rfl) (by simp)
 |some r=>exact (h1 r rfl).symm
theorem rj: ∀{l:List aD} {n:Nat} {st:St} {r:St},cq (Call T ow) ow l n st=some r→ ∃k,cq (bt T ow k) ow l n st=some r
 |[],_,_,_,h=>⟨0,h⟩
 |s::l,n,st,r,h=>by
  simp only [cq] at h
  cases h1:jO (Call T ow) ow st s n with
  |none=>rw [h1] at h;cases h
  |some st'=>
   rw [h1] at h
   obtain ⟨k2,hk2⟩:=rj h
   have: ∃k,jO (bt T ow k) ow st s n=some st':=by
    unfold jO at h1 ⊢
    split at h1
    ·cases h1
    ·exact ⟨0,h1⟩
    ·split at h1
     ·rename_i v u ho
      obtain ⟨k,hk⟩:=u4 (C:=bt T ow) (D:=Call T ow) (fun _ _ _ _ h=>rb h) 0 ho
      exact ⟨k,by rw [hk];exact h1⟩
     ·cases h1
   obtain ⟨k1,hk1⟩:=this
   refine ⟨max k1 k2, ?_⟩
   simp only [cq]
   rw [rh (aW T ow (Nat.le_max_left k1 k2)) hk1]
   exact i4 (aW T ow (Nat.le_max_right k1 k2)) hk2
theorem rv {base:Nat}: ∀{l:List aD} {n:Nat} {st:St} {r:St×List Rec},co (Call T ow) ow base l n st=some r→ ∃k,co (bt T ow k) ow base l n st=some r
 |[],_,_,_,h=>⟨0,h⟩
 |s::l,n,st,r,h=>by
  simp only [co] at h
  cases h1:iM (Call T ow) ow st s n (base+n) with
  |none=>rw [h1] at h;cases h
  |some p=>
   obtain ⟨st',rc⟩:=p
   rw [h1] at h
   dsimp only at h
   cases h2:co (Call T ow) ow base l (n+1) st' with
   |none=>rw [h2] at h;cases h
   |some q=>
    obtain ⟨st2,rs⟩:=q
    rw [h2] at h
    obtain ⟨k2,hk2⟩:=rv h2
    have: ∃k,iM (bt T ow k) ow st s n (base+n)=some (st',rc):=by
     unfold iM at h1 ⊢
     split at h1
     ·cases h1
     ·exact ⟨0,h1⟩
     ·split at h1
      ·rename_i v u ho
       obtain ⟨k,hk⟩:=u4 (C:=bt T ow) (D:=Call T ow) (fun _ _ _ _ h=>rb h) 0 ho
       exact ⟨k,by rw [hk];exact h1⟩
      ·cases h1
    obtain ⟨k1,hk1⟩:=this
    refine ⟨max k1 k2, ?_⟩
    simp only [co]
    rw [sR (aW T ow (Nat.le_max_left k1 k2)) hk1]
    dsimp only
    rw [hJ (aW T ow (Nat.le_max_right k1 k2)) hk2]
    exact h
theorem sI (k:Nat): ∀f a b r,bt T ow k f a b=some r→Call T ow f a b=some r:=fun _ _ _ _ h=>uZ h
theorem Cz (st:St):bO T ow .skip st=some (.normal,st):=bG (n:=1) rfl
theorem Ch (id:Nat) (st:St):bO T ow (.exit id) st=some (.exit id,st):=bG (n:=1) rfl
theorem Fj (st:St):bO T ow .ret st=some (.ret,st):=bG (n:=1) rfl
theorem pZ (base:Nat) (steps:List aD) (live:List Nat) (st:St):bO T ow (.region base steps live) st=fM (Call T ow) ow base steps live st:=by
 refine ix (fun r h=> ?_) (fun r h=> ?_)
 ·obtain ⟨n,hn⟩:=cJ h
  cases n with
  |zero=>simp [aN] at hn
  |succ n=>
   simp only [aN,fM] at hn ⊢
   split at hn
   ·rename_i st' h';rw [i4 (sI (n+1)) h'];exact hn
   ·cases hn
 ·unfold fM at h
  split at h
  ·rename_i st' h'
   obtain ⟨k,hk⟩:=rj h'
   refine bG (n:=k+1) ?_
   simp only [aN,fM]
   rw [i4 (aW T ow (Nat.le_succ k)) hk]
   exact h
  ·cases h
theorem AY (base:Nat) (steps:List aD) (deps:List (List Nat)) (live:List Nat) (st:St):
 bO T ow (.drawn base steps deps live) st=jI (Call T ow) ow base steps deps live st:=by
 refine ix (fun r h=> ?_) (fun r h=> ?_)
 ·obtain ⟨n,hn⟩:=cJ h
  cases n with
  |zero=>simp [aN] at hn
  |succ n=>
   simp only [aN,jI] at hn ⊢
   split at hn
   ·rename_i st' rs h';rw [hJ (sI (n+1)) h'];exact hn
   ·cases hn
 ·unfold jI at h
  split at h
  ·rename_i st' rs h'
   obtain ⟨k,hk⟩:=rv h'
   refine bG (n:=k+1) ?_
   simp only [aN,jI]
   rw [hJ (aW T ow (Nat.le_succ k)) hk]
   exact h
  ·cases h
theorem pg (a b:aw) (st:St):bO T ow (.seq a b) st=(match bO T ow a st with
 |some (.normal,st')=>bO T ow b st'
 |r=>r):=by
 refine ix (fun r h=> ?_) (fun r h=> ?_)
 ·obtain ⟨n,hn⟩:=cJ h
  cases n with
  |zero=>simp [aN] at hn
  |succ n=>
   simp only [aN] at hn
   cases ha:aN (bt T ow (n+1)) ow n a st with
   |none=>rw [ha] at hn;cases hn
   |some p=>
    obtain ⟨e,st'⟩:=p
    rw [bG (aV (fun _ _ _ _ h=>h) n (n+1) (by omega) ha)]
    rw [ha] at hn
    cases e with
    |normal=>exact bG (aV (fun _ _ _ _ h=>h) n (n+1) (by omega) hn)
    |exit id=>exact hn
    |ret=>exact hn
 ·cases ha:bO T ow a st with
  |none=>rw [ha] at h;cases h
  |some p=>
   obtain ⟨e,st'⟩:=p
   rw [ha] at h
   obtain ⟨n,hn⟩:=cJ ha
   cases e with
   |normal=>
    obtain ⟨m,hm⟩:=cJ (show bO T ow b st'=some r from h)
    refine bG (n:=max n m+1) ?_
    simp only [aN]
    rw [aV (aW T ow (by omega)) n (max n m) (by omega) hn]
    exact aV (aW T ow (by omega)) m (max n m) (by omega) hm
   |exit id=>
    refine bG (n:=n+1) ?_
    simp only [aN]
    rw [aV (aW T ow (by omega)) n n (by omega) hn]
    exact h
   |ret=>
    refine bG (n:=n+1) ?_
    simp only [aN]
    rw [aV (aW T ow (by omega)) n n (by omega) hn]
    exact h
theorem BS (c:Opd) (a b:aw) (st:St):bO T ow (.cond c a b) st=(match st.ev c with
 | .lit (.bool true)=>bO T ow a st
 | .lit (.bool false)=>bO T ow b st
 |_=>none):=by
 refine ix (fun r h=> ?_) (fun r h=> ?_)
 ·obtain ⟨n,hn⟩:=cJ h
  cases n with
  |zero=>simp [aN] at hn
  |succ n=>
   simp only [aN] at hn
   split at hn
   ·rename_i hc;simp only [hc];exact bG (aV (fun _ _ _ _ h=>h) n (n+1) (by omega) hn)
   ·rename_i hc;simp only [hc];exact bG (aV (fun _ _ _ _ h=>h) n (n+1) (by omega) hn)
   ·cases hn
 ·split at h
  ·rename_i hc
   obtain ⟨n,hn⟩:=cJ h
   refine bG (n:=n+1) ?_
   simp only [aN,hc]
   exact aV (aW T ow (by omega)) n n (by omega) hn
  ·rename_i hc
   obtain ⟨n,hn⟩:=cJ h
   refine bG (n:=n+1) ?_
   simp only [aN,hc]
   exact aV (aW T ow (by omega)) n n (by omega) hn
  ·cases h
theorem o0 (id:Nat) (c:aw) (st:St):bO T ow (.block id c) st=(match bO T ow c st with
 |some (.exit id',st')=>if id'=id then some (.normal,st') else some (.exit id',st')
 |r=>r):=by
 refine ix (fun r h=> ?_) (fun r h=> ?_)
 ·obtain ⟨n,hn⟩:=cJ h
  cases n with
  |zero=>simp [aN] at hn
  |succ n=>
   simp only [aN] at hn
   cases ha:aN (bt T ow (n+1)) ow n c st with
   |none=>rw [ha] at hn;cases hn
   |some p=>
    rw [bG (aV (fun _ _ _ _ h=>h) n (n+1) (by omega) ha)]
    rw [ha] at hn
    exact hn
 ·cases ha:bO T ow c st with
  |none=>rw [ha] at h;cases h
  |some p=>
   obtain ⟨n,hn⟩:=cJ ha
   refine bG (n:=n+1) ?_
   simp only [aN]
   rw [aV (aW T ow (by omega)) n n (by omega) hn]
   rw [ha] at h
   exact h
theorem uz (c:aw) (st:St):bO T ow (.loop c) st=(match bO T ow c st with
 |some (.normal,st')=>bO T ow (.loop c) st'
 |r=>r):=by
 refine ix (fun r h=> ?_) (fun r h=> ?_)
 ·obtain ⟨n,hn⟩:=cJ h
  cases n with
  |zero=>simp [aN] at hn
  |succ n=>
   simp only [aN] at hn
   cases ha:aN (bt T ow (n+1)) ow n c st with
   |none=>rw [ha] at hn;cases hn
   |some p=>
    obtain ⟨e,st'⟩:=p
    rw [bG (aV (fun _ _ _ _ h=>h) n (n+1) (by omega) ha)]
    rw [ha] at hn
    cases e with
    |normal=>exact bG (aV (fun _ _ _ _ h=>h) n (n+1) (by omega) hn)
    |exit id=>exact hn
    |ret=>exact hn
 ·cases ha:bO T ow c st with
  |none=>rw [ha] at h;cases h
  |some p=>
   obtain ⟨e,st'⟩:=p
   rw [ha] at h
   obtain ⟨n,hn⟩:=cJ ha
   cases e with
   |normal=>
    obtain ⟨m,hm⟩:=cJ (show bO T ow (.loop c) st'=some r from h)
    refine bG (n:=max n m+1) ?_
    simp only [aN]
    rw [aV (aW T ow (by omega)) n (max n m) (by omega) hn]
    exact aV (aW T ow (by omega)) m (max n m) (by omega) hm
   |exit id=>
    refine bG (n:=n+1) ?_
    simp only [aN]
    rw [aV (aW T ow (by omega)) n n (by omega) hn]
    exact h
   |ret=>
    refine bG (n:=n+1) ?_
    simp only [aN]
    rw [aV (aW T ow (by omega)) n n (by omega) hn]
    exact h
theorem dg (g:bq) (c:aw) (st:St):bO T ow (.ghost g c) st=(match aL st g with
 |some st'=>bO T ow c st'
 |none=>none):=by
 refine ix (fun r h=> ?_) (fun r h=> ?_)
 ·obtain ⟨n,hn⟩:=cJ h
  cases n with
  |zero=>simp [aN] at hn
  |succ n=>
   simp only [aN] at hn
   split at hn
   ·rename_i st' hg;simp only [hg];exact bG (aV (fun _ _ _ _ h=>h) n (n+1) (by omega) hn)
   ·cases hn
 ·split at h
  ·rename_i st' hg
   obtain ⟨n,hn⟩:=cJ h
   refine bG (n:=n+1) ?_
   simp only [aN,hg]
   exact aV (aW T ow (by omega)) n n (by omega) hn
  ·cases h
theorem Bd (f:FuncId) (a:List V) (b:List Blk):Call T ow f a b=(match T f with
 |none=>none
 |some (.code af)=>wI af (cP af b.length (bO T ow af.body (start a b)))
 |some (.ext g)=>g a b):=by
 refine ix (fun r h=> ?_) (fun r h=> ?_)
 ·obtain ⟨n,hn⟩:=rb h
  cases n with
  |zero=>simp [bt] at hn
  |succ n=>
   simp only [bt] at hn
   split at hn
   ·cases hn
   rotate_left
   ·rename_i g hg;simp only [hg];exact hn
   ·rename_i af haf
    cases he:aN (bt T ow n) ow n af.body (start a b) with
    |none=>rw [he] at hn;simp [cP,wI] at hn
    |some p=>simp only [haf];rw [bG he];rw [he] at hn;exact hn
 ·split at h
  ·cases h
  rotate_left
  ·rename_i g hg
   refine uZ (n:=1) ?_
   simp only [bt,hg]
   exact h
  ·rename_i af haf
   cases he:bO T ow af.body (start a b) with
   |none=>rw [he] at h;simp [cP,wI] at h
   |some p=>
    obtain ⟨n,hn⟩:=cJ he
    refine uZ (n:=n+1) ?_
    simp only [bt,haf]
    rw [hn]
    rw [he] at h
    exact h
end
end Go.AI
set_option linter.unusedVariables false
set_option linter.unusedSimpArgs false
namespace Go.AI
def br {α:Type} (c:Bool) (x y:α):α:=match c with
 |true=>x
 |false=>y
theorem bH {α:Type} (x y:α):br true x y=x:=rfl
theorem aX {α:Type} (x y:α):br false x y=y:=rfl
theorem T3 {α:Type} (c:Bool) (x y:α):br (!c) x y=br c y x:=by cases c<;>rfl
theorem Tc {α:Type} {c:Bool} {x y r:α} (h:c=true) (hx:x=r):br c x y=r:=by subst h;exact hx
theorem Tf {α:Type} {c:Bool} {x y r:α} (h:c=false) (hy:y=r):br c x y=r:=by subst h;exact hy
theorem brc {α:Type} {c:Bool} {x y r:α} (h:br c x y=r):(c=true∧x=r)∨(c=false∧y=r):=by
 cases c
 ·exact .inr ⟨rfl,h⟩
 ·exact .inl ⟨rfl,h⟩
theorem brg {α:Type} {c:Bool} {x:Option α} {r:α} (h:br c x none=some r):c=true∧x=some r:=by
 cases c
 ·cases h
 ·exact ⟨rfl,h⟩
theorem bd {α β:Type} {x:Option α} {g:α→Option β} {r:β} (h:x.bind g=some r): ∃a,x=some a∧g a=some r:=by
 cases x with
 |none=>cases h
 |some a=>exact ⟨a,rfl,h⟩
inductive Fr where
 |code (c:aw)
 |steps (n:Nat) (ss:List aD) (live:List Nat)
 |dr (base i:Nat) (ss:List aD) (deps:List (List Nat)) (live:List Nat) (rs:List Rec)
 |blk (id:Nat)
section
variable {R:Type}
noncomputable def gx (T:Tab) (ow:be) (k:aH→St→Option R):List Fr→Option Nat→St→Option R
 |[],none,st=>k .normal st
 |[],some id,st=>k (.exit id) st
 | .blk id'::K,some id,st=>if id'=id then gx T ow k K none st else gx T ow k K (some id) st
 |_::K,some id,st=>gx T ow k K (some id) st
 | .blk _::K,none,st=>gx T ow k K none st
 | .code c::K,none,st=>match bO T ow c st with
   |some (.normal,st')=>gx T ow k K none st'
   |some (.exit id,st')=>gx T ow k K (some id) st'
   |some (.ret,st')=>k .ret st'
   |none=>none
 | .steps n ss live::K,none,st=>match cq (Call T ow) ow ss n st with
   |some st'=>gx T ow k K none (trim live st')
   |none=>none
 | .dr base i ss deps live rs::K,none,st=>match co (Call T ow) ow base ss i st with
   |some (st',rs')=>br (eW deps (rs++rs'.filter Rec.loud)) (gx T ow k K none (trim live st')) none
   |none=>none
noncomputable def Rn (T:Tab) (ow:be) (k:aH→St→Option R) (K:List Fr) (st:St):Option R:=gx T ow k K none st
noncomputable def Unw (T:Tab) (ow:be) (k:aH→St→Option R) (id:Nat) (K:List Fr) (st:St):Option R:=gx T ow k K (some id) st
noncomputable def goR (T:Tab) (ow:be) (k:aH→St→Option R) (K:List Fr):Option (aH×St)→Option R
 |some (.normal,st')=>Rn T ow k K st'
 |some (.exit id,st')=>Unw T ow k id K st'
 |some (.ret,st')=>k .ret st'
 |none=>none
variable {T:Tab} {ow:be} {k:aH→St→Option R}
theorem bf (c:aw) (K:List Fr) (st:St):Rn T ow k (.code c::K) st=goR T ow k K (bO T ow c st):=by
 unfold Rn gx goR
 cases bO T ow c st with
 |none=>rfl
 |some p=>obtain ⟨e,st'⟩:=p;cases e<;>rfl
theorem Mb (st:St):Rn T ow k [] st=k .normal st:=rfl
theorem M9 (id:Nat) (K:List Fr) (st:St):Rn T ow k (.blk id::K) st=Rn T ow k K st:=rfl
theorem Fw (K:List Fr) (st:St):Rn T ow k (.code .skip::K) st=Rn T ow k K st:=by rw [bf,Cz];rfl
theorem EV (id:Nat) (K:List Fr) (st:St):Rn T ow k (.code (.exit id)::K) st=Unw T ow k id K st:=by rw [bf,Ch];rfl
theorem Jr (K:List Fr) (st:St):Rn T ow k (.code .ret::K) st=k .ret st:=by rw [bf,Fj];rfl
theorem JS (a b:aw) (K:List Fr) (st:St):Rn T ow k (.code (.seq a b)::K) st=Rn T ow k (.code a:: .code b::K) st:=by
 rw [bf,pg,bf]
 cases bO T ow a st with
 |none=>rfl
 |some p=>
  obtain ⟨e,st'⟩:=p
  cases e with
  |normal=>simp only [goR];rw [bf];rfl
  |exit id=>rfl
  |ret=>rfl
theorem Du (id:Nat) (c:aw) (K:List Fr) (st:St):Rn T ow k (.code (.block id c)::K) st=Rn T ow k (.code c:: .blk id::K) st:=by
 rw [bf,o0,bf]
 cases bO T ow c st with
 |none=>rfl
 |some p=>
  obtain ⟨e,st'⟩:=p
  cases e with
  |normal=>rfl
  |exit id'=>
   simp only [goR,Unw,Rn,gx]
   by_cases h:id'=id
   ·subst h;simp
   ·rw [if_neg h,if_neg (fun e=>h e.symm)]
  |ret=>rfl
noncomputable def IF (T:Tab) (ow:be) (k:aH→St→Option R) (a b:aw) (K:List Fr) (st:St):V→Option R
 | .lit (.bool c)=>br c (Rn T ow k (.code a::K) st) (Rn T ow k (.code b::K) st)
 |_=>none
theorem HR (c:Opd) (a b:aw) (K:List Fr) (st:St):Rn T ow k (.code (.cond c a b)::K) st=IF T ow k a b K st (st.ev c):=by
 rw [bf,BS]
 unfold IF
 split
 ·rename_i h;rw [h];exact (bf _ _ _).symm
 ·rename_i h;rw [h];exact (bf _ _ _).symm
 ·rename_i h1 h2
  split
  ·rename_i c' h;cases c'
   ·exact absurd h h2
   ·exact absurd h h1
  ·rfl
theorem zj (a b:aw) (K:List Fr) (st:St) (c:Bool):IF T ow k a b K st (.lit (.bool c))=br c (Rn T ow k (.code a::K) st) (Rn T ow k (.code b::K) st):=rfl
noncomputable def ghR (T:Tab) (ow:be) (k:aH→St→Option R) (c:aw) (K:List Fr):Option St→Option R
 |some st'=>Rn T ow k (.code c::K) st'
 |none=>none
theorem Df (g:bq) (c:aw) (K:List Fr) (st:St):Rn T ow k (.code (.ghost g c)::K) st=ghR T ow k c K (aL st g):=by
 rw [bf,dg]
 cases aL st g with
 |none=>rfl
 |some st'=>simp only [ghR];rw [bf]
theorem ED (c:aw) (K:List Fr) (st:St):ghR T ow k c K (some st)=Rn T ow k (.code c::K) st:=rfl
theorem QZ (c:aw) (K:List Fr) (st:St):Rn T ow k (.code (.loop c)::K) st=goR T ow k K (bO T ow (.loop c) st):=bf _ _ _
theorem zu (K:List Fr) (st:St):goR T ow k K (some (.normal,st))=Rn T ow k K st:=rfl
theorem ID (id:Nat) (K:List Fr) (st:St):goR T ow k K (some (.exit id,st))=Unw T ow k id K st:=rfl
theorem LD (K:List Fr) (st:St):goR T ow k K (some (.ret,st))=k .ret st:=rfl
theorem M0 (id:Nat) (st:St):Unw T ow k id [] st=k (.exit id) st:=rfl
theorem Ht (id:Nat) (c:aw) (K:List Fr) (st:St):Unw T ow k id (.code c::K) st=Unw T ow k id K st:=rfl
theorem Ja (id id':Nat) (K:List Fr) (st:St):Unw T ow k id (.blk id'::K) st=if id'=id then Rn T ow k K st else Unw T ow k id K st:=rfl
theorem zy (n:Nat) (ss:List aD) (live:List Nat) (K:List Fr) (st:St):Rn T ow k (.code (.region n ss live)::K) st=Rn T ow k (.steps n ss live::K) st:=by
 rw [bf,pZ]
 unfold fM
 simp only [Rn,gx]
 cases cq (Call T ow) ow ss n st<;>rfl
theorem Dn (n:Nat) (ss:List aD) (deps:List (List Nat)) (live:List Nat) (K:List Fr) (st:St):Rn T ow k (.code (.drawn n ss deps live)::K) st=Rn T ow k (.dr n 0 ss deps live []::K) st:=by
 rw [bf,AY]
 unfold jI
 simp only [Rn,gx]
 cases co (Call T ow) ow n ss 0 st with
 |none=>rfl
 |some p=>
  obtain ⟨st',rs⟩:=p
  simp only [List.nil_append]
  cases eW deps (rs.filter Rec.loud)<;>rfl
theorem tJ (n:Nat) (live:List Nat) (K:List Fr) (st:St):Rn T ow k (.steps n [] live::K) st=Rn T ow k K (trim live st):=rfl
noncomputable def aft (T:Tab) (ow:be) (k:aH→St→Option R) (d:Option Nat) (n:Nat) (ss:List aD) (live:List Nat) (K:List Fr) (st:St):Option (V×Upd)→Option R
 |some (v,u)=>Rn T ow k (.steps (n+1) ss live::K) ((st.upd u).put d v)
 |none=>none
variable {d:Option Nat} {n:Nat} {ss:List aD} {live:List Nat} {K:List Fr} {st:St}
theorem BZ (op:AOp):Rn T ow k (.steps n (⟨d,op,none⟩::ss) live::K) st=aft T ow k d n ss live K st (ae (Call T ow) ow op st.ev st.heap n):=by
 unfold aft
 simp only [Rn,gx,cq,jO,St.want]
 cases ae (Call T ow) ow op st.ev st.heap n with
 |none=>rfl
 |some p=>obtain ⟨v,u⟩:=p;rfl
theorem IX (v:V) (u:Upd):aft T ow k d n ss live K st (some (v,u))=Rn T ow k (.steps (n+1) ss live::K) ((st.upd u).put d v):=rfl
theorem Ez:aft T ow k d n ss live K st none=none:=rfl
theorem Q1 (c:Bool) (x y:Option (V×Upd)):aft T ow k d n ss live K st (br c x y)=br c (aft T ow k d n ss live K st x) (aft T ow k d n ss live K st y):=by cases c<;>rfl
theorem GV {α:Type} (x:Option α) (f:α→Option (V×Upd)):aft T ow k d n ss live K st (x.bind f)=x.bind (fun a=>aft T ow k d n ss live K st (f a)):=by cases x<;>rfl
noncomputable def gd (T:Tab) (ow:be) (k:aH→St→Option R) (t:Nat) (b:Bool) (d:Option Nat) (op:AOp) (n:Nat) (ss:List aD) (live:List Nat) (K:List Fr) (st:St):V→Option R
 | .lit (.bool c)=>br (c==b) (Rn T ow k (.steps n (⟨d,op,none⟩::ss) live::K) { st with e:=ci t (.lit (.bool c)) st.e })
  (Rn T ow k (.steps (n+1) ss live::K) ({ st with e:=ci t (.lit (.bool c)) st.e }.put d (.lit (.tuple #[]))))
 | .lit (.tuple _)=>Rn T ow k (.steps (n+1) ss live::K) (st.put d (.lit (.tuple #[])))
 |_=>none
theorem ul {α:Type}: ∀{l:List (Nat×α)} {t:Nat} {v:α},b7 l t=some v→ci t v l=l
 |[],_,_,h=>by simp [b7] at h
 | (j,u)::r,t,v,h=>by
   simp only [b7] at h
   simp only [ci]
   split at h
   ·rename_i e;cases h;subst e;simp
   ·rename_i e;rw [if_neg e,ul h]
theorem xh {v:V} {t:Nat} (h:st.get t=v) (hv:v≠ .undef):({ st with e:=ci t v st.e }:St)=st:=by
 unfold St.get at h
 cases ha:b7 st.e t with
 |none=>rw [ha] at h;exact absurd h.symm hv
 |some u=>
  rw [ha] at h;cases h
  show ({ st with e:=ci t u st.e }:St)=st
  rw [ul ha]
theorem BM (t:Nat) (b:Bool) (op:AOp):Rn T ow k (.steps n (⟨d,op,some (t,b)⟩::ss) live::K) st=gd T ow k t b d op n ss live K st (st.get t):=by
 cases hg:st.get t with
 |lit v=>
  cases v with
  |bool c=>
   simp only [gd]
   rw [xh hg (by simp)]
   simp only [Rn,gx,cq,jO,St.want,hg]
   cases hcb:(c==b)
   ·simp [aX,hcb]
   ·simp [bH,hcb]
  |tuple xs=>simp only [gd];simp only [Rn,gx,cq,jO,St.want,hg]
  |_=>simp only [gd];simp only [Rn,gx,cq,jO,St.want,hg]
 |_=>simp only [gd];simp only [Rn,gx,cq,jO,St.want,hg]
theorem MM (t:Nat) (op:AOp) (c:Bool):gd T ow k t true d op n ss live K st (.lit (.bool c))=
 br c (Rn T ow k (.steps n (⟨d,op,none⟩::ss) live::K) { st with e:=ci t (.lit (.bool true)) st.e })
  (Rn T ow k (.steps (n+1) ss live::K) ({ st with e:=ci t (.lit (.bool false)) st.e }.put d (.lit (.tuple #[])))):=by cases c<;>rfl
theorem FK (t:Nat) (op:AOp) (c:Bool):gd T ow k t false d op n ss live K st (.lit (.bool c))=
 br c (Rn T ow k (.steps (n+1) ss live::K) ({ st with e:=ci t (.lit (.bool true)) st.e }.put d (.lit (.tuple #[]))))
  (Rn T ow k (.steps n (⟨d,op,none⟩::ss) live::K) { st with e:=ci t (.lit (.bool false)) st.e }):=by cases c<;>rfl
theorem J0 (t:Nat) (b:Bool) (op:AOp) (xs:Array Value):gd T ow k t b d op n ss live K st (.lit (.tuple xs))=Rn T ow k (.steps (n+1) ss live::K) (st.put d (.lit (.tuple #[]))):=rfl
variable {base i:Nat} {deps:List (List Nat)} {rs:List Rec} {fp:List Nat}
def CB (rs:List Rec) (i:Nat) (fp wr:List Nat):List Rec:=rs++[Rec.mk i fp wr].filter Rec.loud
theorem AN:Rn T ow k (.dr base i [] deps live rs::K) st=br (eW deps rs) (Rn T ow k K (trim live st)) none:=by
 simp only [Rn,gx,co,List.filter_nil,List.append_nil]
noncomputable def qK (T:Tab) (ow:be) (k:aH→St→Option R) (d:Option Nat) (base i:Nat) (ss:List aD) (deps:List (List Nat)) (live:List Nat) (rs:List Rec) (K:List Fr) (st:St) (fp:List Nat):Option (V×Upd)→Option R
 |some (v,u)=>br ((u.map (·.1)).all (fun b=>decide (b∈fp)||(st.heap b).isNone))
  (Rn T ow k (.dr base (i+1) ss deps live (CB rs i fp (u.map (·.1)))::K) ((st.upd u).put d v)) none
 |none=>none
theorem On (op:AOp):Rn T ow k (.dr base i (⟨d,op,none⟩::ss) deps live rs::K) st=
 qK T ow k d base i ss deps live rs K st (bS ow op st.ev st.heap) (ae (Call T ow) ow op st.ev (fu st.heap (bS ow op st.ev st.heap)) (base+i)):=by
 unfold qK
 simp only [Rn,gx,co,iM,St.want]
 cases ho:ae (Call T ow) ow op st.ev (fu st.heap (bS ow op st.ev st.heap)) (base+i) with
 |none=>rfl
 |some p=>
  obtain ⟨v,u⟩:=p
  dsimp only
  by_cases hc:(u.map (·.1)).all (fun b=>decide (b∈bS ow op st.ev st.heap)||(st.heap b).isNone)=true
  ·rw [hc,bH,if_pos rfl]
   dsimp only
   cases co (Call T ow) ow base ss (i+1) ((st.upd u).put d v) with
   |none=>rfl
   |some q=>
    obtain ⟨st2,rs2⟩:=q
    simp only [CB,List.filter_cons,List.filter_nil,List.append_assoc]
    cases Rec.loud ⟨i,bS ow op st.ev st.heap,u.map (·.1)⟩<;>rfl
  ·rw [Bool.not_eq_true] at hc
   rw [hc,aX,if_neg (by decide)]
theorem Ea (v:V) (u:Upd):qK T ow k d base i ss deps live rs K st fp (some (v,u))=br ((u.map (·.1)).all (fun b=>decide (b∈fp)||(st.heap b).isNone))
 (Rn T ow k (.dr base (i+1) ss deps live (CB rs i fp (u.map (·.1)))::K) ((st.upd u).put d v)) none:=rfl
theorem Aq (v:V):qK T ow k d base i ss deps live rs K st fp (some (v,[]))=Rn T ow k (.dr base (i+1) ss deps live (CB rs i fp [])::K) (st.put d v):=rfl
theorem DK:qK T ow k d base i ss deps live rs K st fp none=none:=rfl
theorem Ln (c:Bool) (x y:Option (V×Upd)):qK T ow k d base i ss deps live rs K st fp (br c x y)=br c (qK T ow k d base i ss deps live rs K st fp x) (qK T ow k d base i ss deps live rs K st fp y):=by cases c<;>rfl
theorem DF {α:Type} (x:Option α) (f:α→Option (V×Upd)):qK T ow k d base i ss deps live rs K st fp (x.bind f)=x.bind (fun a=>qK T ow k d base i ss deps live rs K st fp (f a)):=by cases x<;>rfl
noncomputable def gdD (T:Tab) (ow:be) (k:aH→St→Option R) (t:Nat) (b:Bool) (d:Option Nat) (op:AOp) (base i:Nat) (ss:List aD) (deps:List (List Nat)) (live:List Nat) (rs:List Rec) (K:List Fr) (st:St):V→Option R
 | .lit (.bool c)=>br (c==b) (Rn T ow k (.dr base i (⟨d,op,none⟩::ss) deps live rs::K) { st with e:=ci t (.lit (.bool c)) st.e })
  (Rn T ow k (.dr base (i+1) ss deps live rs::K) ({ st with e:=ci t (.lit (.bool c)) st.e }.put d (.lit (.tuple #[]))))
 | .lit (.tuple _)=>Rn T ow k (.dr base (i+1) ss deps live rs::K) (st.put d (.lit (.tuple #[])))
 |_=>none
theorem BG (op:AOp) (g:Nat×Bool) (h:st.want (some g)=some false):Rn T ow k (.dr base i (⟨d,op,some g⟩::ss) deps live rs::K) st=Rn T ow k (.dr base (i+1) ss deps live rs::K) (st.put d (.lit (.tuple #[]))):=by
 simp only [Rn,gx,co,iM,h]
 cases co (Call T ow) ow base ss (i+1) (st.put d (.lit (.tuple #[]))) with
 |none=>rfl
 |some q=>obtain ⟨st2,rs2⟩:=q;rfl
theorem QY (op:AOp) (g:Nat×Bool) (h:st.want (some g)=some true):Rn T ow k (.dr base i (⟨d,op,some g⟩::ss) deps live rs::K) st=Rn T ow k (.dr base i (⟨d,op,none⟩::ss) deps live rs::K) st:=by
 have h2:st.want none=some true:=rfl
 simp only [Rn,gx,co,iM,h,h2]
theorem B9 (op:AOp) (g:Nat×Bool) (h:st.want (some g)=none):Rn T ow k (.dr base i (⟨d,op,some g⟩::ss) deps live rs::K) st=none:=by
 simp only [Rn,gx,co,iM,h]
theorem uX (t:Nat) (b:Bool) (op:AOp):Rn T ow k (.dr base i (⟨d,op,some (t,b)⟩::ss) deps live rs::K) st=gdD T ow k t b d op base i ss deps live rs K st (st.get t):=by
 cases hg:st.get t with
 |lit v=>
  cases v with
  |bool c=>
   simp only [gdD]
   rw [xh hg (by simp)]
   cases hcb:(c==b)
   ·rw [aX];exact BG op (t,b) (by simp [St.want,hg,hcb])
   ·rw [bH];exact QY op (t,b) (by simp [St.want,hg,hcb])
  |tuple xs=>exact BG op (t,b) (by simp [St.want,hg])
  |_=>exact B9 op (t,b) (by simp [St.want,hg])
 |_=>exact B9 op (t,b) (by simp [St.want,hg])
theorem EJ (t:Nat) (op:AOp) (c:Bool):gdD T ow k t true d op base i ss deps live rs K st (.lit (.bool c))=
 br c (Rn T ow k (.dr base i (⟨d,op,none⟩::ss) deps live rs::K) { st with e:=ci t (.lit (.bool true)) st.e })
  (Rn T ow k (.dr base (i+1) ss deps live rs::K) ({ st with e:=ci t (.lit (.bool false)) st.e }.put d (.lit (.tuple #[])))):=by cases c<;>rfl
theorem Dx (t:Nat) (op:AOp) (c:Bool):gdD T ow k t false d op base i ss deps live rs K st (.lit (.bool c))=
 br c (Rn T ow k (.dr base (i+1) ss deps live rs::K) ({ st with e:=ci t (.lit (.bool true)) st.e }.put d (.lit (.tuple #[]))))
  (Rn T ow k (.dr base i (⟨d,op,none⟩::ss) deps live rs::K) { st with e:=ci t (.lit (.bool false)) st.e }):=by cases c<;>rfl
theorem CP (t:Nat) (b:Bool) (op:AOp) (xs:Array Value):gdD T ow k t b d op base i ss deps live rs K st (.lit (.tuple xs))=Rn T ow k (.dr base (i+1) ss deps live rs::K) (st.put d (.lit (.tuple #[]))):=rfl
end
def AT (af:aI) (m:Nat) (x:aH) (st:St):Option (V×List Blk):=wI af (cP af m (some (x,st)))
theorem au {T:Tab} {ow:be} {f:FuncId} {af:aI} (hT:T f=some (.code af)) (a:List V) (b:List Blk):Call T ow f a b=Rn T ow (AT af b.length) [.code af.body] (start a b):=by
 rw [Bd,hT]
 dsimp only
 rw [bf]
 cases bO T ow af.body (start a b) with
 |none=>rfl
 |some p=>obtain ⟨e,st⟩:=p;cases e<;>rfl
def oe {S E:Type} (step:S→Option (S⊕E)):Nat→S→Option E
 |0,_=>none
 |n+1,s=>match step s with
  |none=>none
  |some (.inl s')=>oe step n s'
  |some (.inr e)=>some e
theorem ui {S E:Type} {step:S→Option (S⊕E)}: ∀{n:Nat} {s:S} {e:E},oe step n s=some e→oe step (n+1) s=some e
 |0,_,_,h=>by cases h
 |n+1,s,e,h=>by
  simp only [oe] at h ⊢
  split at h
  ·cases h
  ·rename_i s' hs;exact ui h
  ·rename_i e' hs;exact h
theorem KN {S E:Type} {step:S→Option (S⊕E)} {n m:Nat} (hnm:n≤m) {s:S} {e:E} (h:oe step n s=some e):oe step m s=some e:=by
 induction hnm with
 |refl=>exact h
 |step _ ih=>exact ui ih
noncomputable def Loop {S E:Type} (step:S→Option (S⊕E)) (s:S):Option E:=lim (fun n=>oe step n s)
theorem re {S E:Type} {step:S→Option (S⊕E)} {s:S} {e:E} (h:Loop step s=some e): ∃n,oe step n s=some e:=A4 h
theorem uJ {S E:Type} {step:S→Option (S⊕E)} {n:Nat} {s:S} {e:E} (h:oe step n s=some e):Loop step s=some e:=
 AA (g:=fun n=>oe step n s) (fun _ _ _ hnm h=>KN hnm h) h
def Bk {S E:Type} (lp:S→Option E):Option (S⊕E)→Option E
 |none=>none
 |some (.inl s')=>lp s'
 |some (.inr e)=>some e
theorem ng {S E:Type} (step:S→Option (S⊕E)) (s:S):Loop step s=Bk (Loop step) (step s):=by
 refine ix (fun r h=> ?_) (fun r h=> ?_)
 ·obtain ⟨n,hn⟩:=re h
  cases n with
  |zero=>cases hn
  |succ n=>
   simp only [oe] at hn
   split at hn
   ·cases hn
   ·rename_i s' hs;rw [hs];exact uJ hn
   ·rename_i e' hs;rw [hs];exact hn
 ·cases hs:step s with
  |none=>rw [hs] at h;cases h
  |some o=>
   rw [hs] at h
   cases o with
   |inl s'=>
    obtain ⟨n,hn⟩:=re (show Loop step s'=some r from h)
    exact uJ (n:=n+1) (by simp only [oe,hs];exact hn)
   |inr e=>exact uJ (n:=1) (by simp only [oe,hs];exact h)
def RB (x:aH) (st:St):Option (aH×St):=some (x,st)
theorem Ig {T:Tab} {ow:be} (c:aw) (st:St):bO T ow c st=Rn T ow RB [.code c] st:=by
 rw [bf]
 cases bO T ow c st with
 |none=>rfl
 |some p=>obtain ⟨e,st⟩:=p;cases e<;>rfl
theorem RU {T:Tab} {ow:be} {S E:Type} {c:aw} {step:S→Option (S⊕E)} {eS:S→St} {eE:E→aH×St} (hne: ∀e,(eE e).1≠ .normal)
 (hb: ∀s o,step s=some o→Rn T ow RB [.code c] (eS s)=some (match o with
  | .inl s'=>(.normal,eS s')
  | .inr e=>eE e)) {s:S} {e:E} (h:Loop step s=some e):bO T ow (.loop c) (eS s)=some (eE e):=by
 obtain ⟨n,hn⟩:=re h
 clear h
 induction n generalizing s with
 |zero=>cases hn
 |succ n ih=>
  simp only [oe] at hn
  rw [uz,Ig]
  split at hn
  ·cases hn
  ·rename_i s' hs
   rw [hb s _ hs]
   exact ih hn
  ·rename_i e' hs
   rw [hb s _ hs]
   cases hn
   dsimp only
   have:=hne e
   revert this
   generalize eE e=p
   obtain ⟨x,st⟩:=p
   intro this
   cases x with
   |normal=>exact absurd rfl this
   |exit id=>rfl
   |ret=>rfl
def qw (g:bq):aw→aw
 | .seq a b=> .seq (qw g a) b
 | .block id a=> .block id (qw g a)
 |c=> .ghost g c
section
variable {R:Type} {T:Tab} {ow:be} {k:aH→St→Option R}
def ghE (T:Tab) (ow:be) (c:aw):Option St→Option (aH×St)→Option (aH×St)
 |some _,r=>r
 |none,_=>none
theorem pu (g:bq): ∀(c:aw) (st:St),bO T ow (qw g c) st=(match aL st g with
 |some st'=>bO T ow c st'
 |none=>none)
 | .seq a b,st=>by
   simp only [qw]
   rw [pg,pu g a st]
   cases aL st g with
   |none=>rfl
   |some st'=>dsimp only;rw [pg]
 | .block id a,st=>by
   simp only [qw]
   rw [o0,pu g a st]
   cases aL st g with
   |none=>rfl
   |some st'=>dsimp only;rw [o0]
 | .skip,st=>dg _ _ _
 | .region _ _ _,st=>dg _ _ _
 | .drawn _ _ _ _,st=>dg _ _ _
 | .cond _ _ _,st=>dg _ _ _
 | .loop _,st=>dg _ _ _
 | .exit _,st=>dg _ _ _
 | .ret,st=>dg _ _ _
 | .ghost _ _,st=>dg _ _ _
noncomputable def cw (T:Tab) (ow:be) (g:bq) (c:aw) (st:St):Option (aH×St):=match bO T ow c st with
 |some (.normal,st')=>bO T ow (.loop (qw g c)) st'
 |r=>r
noncomputable def goL (T:Tab) (ow:be) (k:aH→St→Option R) (K:List Fr) (g:bq) (c:aw):Option St→Option R
 |some st'=>goR T ow k K (cw T ow g c st')
 |none=>none
theorem rM (g:bq) (c:aw) (st:St):bO T ow (.loop (qw g c)) st=(match aL st g with
 |some st'=>cw T ow g c st'
 |none=>none):=by
 rw [uz,pu]
 cases aL st g<;>rfl
theorem CY (g:bq) (c:aw) (K:List Fr) (st:St):Rn T ow k (.code (.loop (qw g c))::K) st=goL T ow k K g c (aL st g):=by
 rw [bf,rM]
 cases aL st g<;>rfl
theorem F9 (K:List Fr) (g:bq) (c:aw) (st':St):goL T ow k K g c (some st')=goR T ow k K (cw T ow g c st'):=rfl
def ogM:Option St→Option (aH×St)
 |some st=>some (.normal,st)
 |none=>none
def vQ (g:bq):aH→St→Option (aH×St)
 | .normal,st=>ogM (aL st g)
 |x,st=>some (x,st)
theorem xJ (g:bq) (st:St):vQ g .normal st=ogM (aL st g):=rfl
theorem Ck (g:bq) (id:Nat) (st:St):vQ g (.exit id) st=some (.exit id,st):=rfl
theorem Fy (g:bq) (st:St):vQ g .ret st=some (.ret,st):=rfl
theorem Es (st:St):ogM (some st)=some (.normal,st):=rfl
theorem D5 {S E:Type} {g:bq} {c:aw} {step:S→Option (S⊕E)} {eS:S→St} {eE:E→aH×St} (hne: ∀e,(eE e).1≠ .normal)
 (hb: ∀s o,step s=some o→Rn T ow (vQ g) [.code c] (eS s)=some (match o with
  | .inl s'=>(.normal,eS s')
  | .inr e=>eE e)) {s:S} {e:E} (h:Loop step s=some e):cw T ow g c (eS s)=some (eE e):=by
 obtain ⟨n,hn⟩:=re h
 clear h
 induction n generalizing s with
 |zero=>cases hn
 |succ n ih=>
  simp only [oe] at hn
  unfold cw
  split at hn
  ·cases hn
  ·rename_i s' hs
   have h1:=hb s _ hs
   rw [bf] at h1
   cases hx:bO T ow c (eS s) with
   |none=>rw [hx] at h1;cases h1
   |some p=>
    obtain ⟨x,st'⟩:=p
    rw [hx] at h1
    cases x with
    |normal=>
     dsimp only
     rw [rM]
     simp only [goR,Rn,gx,vQ,ogM] at h1
     cases hg:aL st' g with
     |none=>rw [hg] at h1;cases h1
     |some st2=>rw [hg] at h1;cases h1;exact ih hn
    |exit id=>simp [goR,Unw,gx,vQ] at h1
    |ret=>simp [goR,vQ] at h1
  ·rename_i e' hs
   have h1:=hb s _ hs
   cases hn
   have hn2:=hne e
   rw [bf] at h1
   dsimp only at h1
   revert h1 hn2
   generalize eE e=q
   intro h1 hn2
   cases hx:bO T ow c (eS s) with
   |none=>rw [hx] at h1;cases h1
   |some p=>
    obtain ⟨x,st'⟩:=p
    rw [hx] at h1
    cases x with
    |normal=>
     simp only [goR,Rn,gx,vQ,ogM] at h1
     cases hg:aL st' g with
     |none=>rw [hg] at h1;cases h1
     |some st2=>rw [hg] at h1;cases h1;exact absurd rfl hn2
    |exit id=>exact h1
    |ret=>exact h1
variable {d:Option Nat} {n:Nat} {ss:List aD} {live:List Nat} {K:List Fr} {st:St} {base i:Nat} {deps:List (List Nat)} {rs:List Rec} {fp:List Nat} {r:R}
theorem Ni {x:Option (aH×St)} {p:aH×St} (h:x=some p) (hr:goR T ow k K (some p)=some r):goR T ow k K x=some r:=by rw [h];exact hr
theorem Do (g:bq) (c:aw):goR T ow k K (cw T ow g c st)=Rn T ow k (.code c:: .code (.loop (qw g c))::K) st:=by
 rw [bf]
 unfold cw
 cases hx:bO T ow c st with
 |none=>rfl
 |some p=>
  obtain ⟨x,st'⟩:=p
  cases x with
  |normal=>dsimp only;simp only [goR];rw [bf];rfl
  |exit id=>rfl
  |ret=>rfl
theorem Qy {g:bq} {c:aw} (h:Rn T ow k (.code c:: .code (.loop (qw g c))::K) st=some r):goR T ow k K (cw T ow g c st)=some r:=by rw [Do];exact h
theorem bind_some {α β:Type} {x:Option α} {a:α} {F:α→Option β} {r:β} (h:x=some a) (hr:F a=some r):x.bind F=some r:=by rw [h];exact hr
end
end Go.AI
set_option linter.unusedVariables false
set_option linter.unusedSimpArgs false
namespace Go.AI
abbrev I (n:Int):V:= .lit (.int .i64 n)
abbrev B (b:Bool):V:= .lit (.bool b)
abbrev S (s:List UInt8):V:= .lit (.string ⟨⟨s⟩⟩)
structure En (α:Type) where
 esz:Nat
 enc:α→List V
def rws {α:Type} (e:En α) (l:List α):List (List V):=l.map e.enc
def sl {α:Type} (e:En α) (l:List α):V:=(V.imm e.esz (rws e l)).cz
theorem Qv {α:Type} (e:En α):sl e []= .imm 1 []:=rfl
theorem Su {α:Type} (e:En α) (x:α) (l:List α):sl e (x::l)= .imm e.esz (rws e (x::l)):=rfl
def eI:En Int:=⟨1,fun n=>[I n]⟩
def eU8:En UInt8:=⟨1,fun b=>[.lit (.int .u8 b.toNat)]⟩
def yN:En Int:=⟨1,fun n=>[.lit (.int .u64 n)]⟩
def eB:En Bool:=⟨1,fun b=>[B b]⟩
def eS:En (List UInt8):=⟨1,fun s=>[S s]⟩
def eL {α:Type} (e:En α):En (List α):=⟨1,fun l=>[sl e l]⟩
theorem Po:eI.esz=1:=by decide
theorem Od (n:Int):eI.enc n=[I n]:=rfl
theorem Jj:eU8.esz=1:=by decide
theorem Lk (n:UInt8):eU8.enc n=[.lit (.int .u8 n.toNat)]:=rfl
theorem Ib:yN.esz=1:=by decide
theorem HJ (n:Int):yN.enc n=[.lit (.int .u64 n)]:=rfl
theorem P9:eB.esz=1:=by decide
theorem NJ (n:Bool):eB.enc n=[B n]:=rfl
theorem Qf:eS.esz=1:=by decide
theorem No (n:List UInt8):eS.enc n=[S n]:=rfl
theorem Pm {α:Type} (e:En α):(eL e).esz=1:=of_decide_eq_true rfl
theorem PL {α:Type} (e:En α) (l:List α):(eL e).enc l=[sl e l]:=rfl
def atL {α:Type} (l:List α) (i:Int):Option α:=if 0≤i then l[i.toNat]? else none
def fT {α:Type} (l:List α) (a b:Int):Option (List α):=if 0≤a∧a≤b∧b≤l.length then some ((l.take b.toNat).drop a.toNat) else none
def inb (i:Int) (n:Nat):Bool:=decide (0≤i)&&decide (i.toNat<n)
def dP (n bytes:Nat):Bool:=decide (n*bytes≤aK)
def Ay (l c:Int) (bytes:Nat):Bool:=decide (0≤l)&&decide (l≤c)&&decide (c*bytes≤aK)
def mx (a b:Int):Int:=if b>a then b else a
def mn (a b:Int):Int:=if b<a then b else a
def BA (r:List (List V)):Nat:=r.length
def app (r q:List (List V)):List (List V):=r++q
def mkR (n:Nat) (r:List (List V)):List (List V):=r
def bD (row:List V) (r:List (List V)):List (List V):=row::r
def yF (n k:Nat) (row:List V):List (List V):=List.replicate k row
def cI (r:List (List V)) (i:Nat) (row:List V):List (List V):=r.set i row
section
variable {α:Type} {e:En α} {l l2:List α}
theorem C5:BA (rws e l)=l.length:=by simp [BA,rws]
theorem Lv:app (rws e l) (rws e l2)=rws e (l++l2):=by simp [app,rws]
theorem mk0 (e:En α) (n:Nat):mkR n []=rws e []:=rfl
theorem GO (n:Nat) (row:List V) (r:List (List V)):mkR n (row::r)=bD row (mkR n r):=rfl
theorem RD (a:Int) (l:List Int):bD [I a] (rws eI l)=rws eI (a::l):=rfl
theorem R7 (a:List UInt8) (l:List (List UInt8)):bD [S a] (rws eS l)=rws eS (a::l):=rfl
theorem Ra (a:List α) (l:List (List α)):bD [sl e a] (rws (eL e) l)=rws (eL e) (a::l):=rfl
theorem Qk (l:List (List α)):bD [.imm 1 []] (rws (eL e) l)=rws (eL e) ([]::l):=rfl
theorem RX (b:Bool) (l:List Bool):bD [B b] (rws eB l)=rws eB (b::l):=rfl
theorem Ms (a:Int) (l:List Int):bD [.lit (.int .u64 a)] (rws yN l)=rws yN (a::l):=rfl
theorem AP (b:UInt8) (l:List UInt8):bD [.lit (.int .u8 b.toNat)] (rws eU8 l)=rws eU8 (b::l):=rfl
theorem gI (x:Int):((UInt8.ofInt x).toNat:Int)=IntKind.u8.wrap x:=by
 simp [UInt8.ofInt,IntKind.wrap,IntKind.bits,IntKind.signed]
 omega
theorem oI (x:Int) (l:List UInt8):bD [.lit (.int .u8 (IntKind.u8.wrap x))] (rws eU8 l)=rws eU8 (UInt8.ofInt x::l):=by
 rw [←gI];rfl
theorem Sv (n:Nat) (h:n<256) (l:List UInt8):bD [.lit (.int .u8 (n:Int))] (rws eU8 l)=rws eU8 (UInt8.ofNat n::l):=by
 have:(UInt8.ofNat n).toNat=n:=by simp;omega
 rw [←AP,this]
theorem LN (n:Nat) (h:Nat.ble n 255=true) (l:List UInt8):bD [.lit (.int .u8 (no_index (OfNat.ofNat n:Int)))] (rws eU8 l)=rws eU8 ((OfNat.ofNat n:UInt8)::l):=by
 have h':=Nat.le_of_ble_eq_true h
 have:((OfNat.ofNat n:UInt8).toNat:Int)=(OfNat.ofNat n:Int):=by
  show ((UInt8.ofNat n).toNat:Int)=(n:Int)
  simp;omega
 rw [←AP,this]
theorem SL (l:List Int) (i:Nat) (a:Int):cI (rws eI l) i [I a]=rws eI (l.set i a):=by simp [cI,rws,eI]
theorem Pe (l:List Int) (i:Nat) (a:Int):cI (rws yN l) i [.lit (.int .u64 a)]=rws yN (l.set i a):=by simp [cI,rws,yN]
theorem setB (l:List Bool) (i:Nat) (a:Bool):cI (rws eB l) i [B a]=rws eB (l.set i a):=by simp [cI,rws,eB]
theorem OR (l:List (List UInt8)) (i:Nat) (a:List UInt8):cI (rws eS l) i [S a]=rws eS (l.set i a):=by simp [cI,rws,eS]
theorem SP (l:List (List α)) (i:Nat) (a:List α):cI (rws (eL e) l) i [sl e a]=rws (eL e) (l.set i a):=by simp [cI,rws,eL]
theorem MT (l:List UInt8) (i:Nat) (a:UInt8):cI (rws eU8 l) i [.lit (.int .u8 a.toNat)]=rws eU8 (l.set i a):=by simp [cI,rws,eU8]
theorem sH (l:List UInt8) (i:Nat) (x:Int):cI (rws eU8 l) i [.lit (.int .u8 (IntKind.u8.wrap x))]=rws eU8 (l.set i (UInt8.ofInt x)):=by
 rw [←gI,MT]
theorem SQ (e:En α) (x:α) (n k:Nat):yF n k (e.enc x)=rws e (List.replicate k x):=by simp [yF,rws]
theorem Oo (m:Nat) (h:e.esz=m):V.cz (.imm m (rws e l))=sl e l:=by subst h;rfl
theorem S8 (r:List (List V)):r.drop 0=r:=rfl
theorem RL (k:Nat):(rws e l).drop k=rws e (l.drop k):=by simp [rws]
theorem cX (e:En α) (l:List α):(l=[]∧sl e l= .imm 1 [])∨(l≠[]∧sl e l= .imm e.esz (rws e l)):=by
 cases l with
 |nil=>exact .inl ⟨rfl,rfl⟩
 |cons x l=>exact .inr ⟨by simp,rfl⟩
theorem Sg:(sl e l).cz=sl e l:=by
 cases l with
 |nil=>rfl
 |cons x l=>rfl
theorem O7:(sl e l).czA=sl e l:=by
 cases l with
 |nil=>rfl
 |cons x l=>rfl
theorem Nb:(sl e l).czR=sl e l:=by
 cases l with
 |nil=>rfl
 |cons x l=>rfl
theorem KM:(sl e l).cell=true:=by
 rcases cX e l with ⟨_,h⟩|⟨_,h⟩<;>rw [h]<;>rfl
theorem Rs:(sl e l).cl=true:=by
 rcases cX e l with ⟨_,h⟩|⟨_,h⟩<;>rw [h]<;>rfl
theorem Gi:(sl e l).cells=[sl e l]:=by
 rcases cX e l with ⟨_,h⟩|⟨_,h⟩<;>rw [h]<;>rfl
theorem Jw:bL (sl e l)=[]:=by
 rcases cX e l with ⟨_,h⟩|⟨_,h⟩<;>rw [h]<;>rfl
theorem M2:ft (sl e l)=[]:=by
 rcases cX e l with ⟨_,h⟩|⟨_,h⟩<;>rw [h]<;>rfl
theorem BB {h:ah}:ep h (sl e l)=some (sl e l,[]):=by
 rcases cX e l with ⟨_,h⟩|⟨_,h⟩<;>rw [h]<;>rfl
theorem zC {h:ah} {own:Bool} {ids:List Nat}:aU h own ids (sl e l)=some (sl e l,ids,[]):=by
 rcases cX e l with ⟨_,h⟩|⟨_,h⟩<;>rw [h]<;>rfl
theorem C9 {h:ah} {own:Bool} {ids:List Nat}:bp h own ids (sl e l)=some (sl e l,ids,[]):=by
 rcases cX e l with ⟨_,h⟩|⟨_,h⟩<;>rw [h]<;>rfl
theorem P8 {ids:List Nat}:unV ids (sl e l)=sl e l:=by
 rcases cX e l with ⟨_,h⟩|⟨_,h⟩<;>rw [h]<;>rfl
theorem HF {ids:List Nat}:du ids (sl e l)=sl e l:=by
 rcases cX e l with ⟨_,h⟩|⟨_,h⟩<;>rw [h]<;>rfl
theorem Gf {ids:List Nat}:jR ids (sl e l)=sl e l:=by
 rcases cX e l with ⟨_,h⟩|⟨_,h⟩<;>rw [h]<;>rfl
theorem J5:eK (sl e l)=false:=by
 rcases cX e l with ⟨_,h⟩|⟨_,h⟩<;>rw [h]<;>rfl
theorem Hl:lj (sl e l)=false:=by
 rcases cX e l with ⟨_,h⟩|⟨_,h⟩<;>rw [h]<;>rfl
theorem Hi:gj (sl e l)=false:=by
 rcases cX e l with ⟨_,h⟩|⟨_,h⟩<;>rw [h]<;>rfl
theorem Np {h:ah} {bs:List Nat}:fzC h bs (sl e l)=sl e l:=by
 rcases cX e l with ⟨_,h⟩|⟨_,h⟩<;>rw [h]<;>rfl
theorem NQ {h:ah} {bs:List Nat}:fzA h bs (sl e l)=sl e l:=by
 rcases cX e l with ⟨_,h⟩|⟨_,h⟩<;>rw [h]<;>rfl
theorem Ju {h:ah} {m:Nat} {kp:List Nat}:eO h m kp (sl e l)=some (sl e l):=by
 rcases cX e l with ⟨_,h⟩|⟨_,h⟩<;>rw [h]<;>rfl
theorem JZ {h:ah} {m:Nat} {kp:List Nat}:lK h m kp (sl e l)=some (sl e l):=by
 rcases cX e l with ⟨_,h⟩|⟨_,h⟩<;>rw [h]<;>rfl
theorem KR {h:ah} {m:Nat} {kp:List Nat}:nm h m kp (sl e l)=some (sl e l):=by
 rcases cX e l with ⟨_,h⟩|⟨_,h⟩<;>rw [h]<;>rfl
theorem NP:okC (sl e l)=true:=by
 rcases cX e l with ⟨_,h⟩|⟨_,h⟩<;>rw [h]<;>rfl
theorem uf {h:ah} (m:Nat) (hm:e.esz=m):bg h m (sl e l)=some (rws e l):=by
 subst hm
 rcases cX e l with ⟨rfl,h⟩|⟨hl,h⟩
 ·rw [h];simp [bg,rws]
 ·rw [h];simp [bg]
theorem xk:Bj (sl e l)=false:=by
 rcases cX e l with ⟨_,h⟩|⟨_,h⟩<;>rw [h]<;>rfl
end
end Go.AI
