/- The limit of the abstract machine's runs: more rounds tell the same; the equations of the limit. -/
import Derived.Test.YtdmhkkcihecndaaGreatAiExec
namespace Go.AI
theorem Hv {C C':aY} (hC: ∀f a b r,C f a b=some r→C' f a b=some r) {ow:cY} {h:au} {new:Nat} {f:FuncId} {args:List V} {r:V×Upd}
 (hr:jx C ow h new f args=some r):jx C' ow h new f args=some r:=by
 unfold jx at hr ⊢
 cases hp:cV ow h f args with
 |none=>rw [hp] at hr;cases hr
 |some p=>
  obtain ⟨args',blks,ids,bor⟩:=p
  rw [hp] at hr
  dsimp only at hr ⊢
  cases hc:C f (qj (ow f) args') (pN (ow f) blks) with
  |none=>rw [hc] at hr;cases hr
  |some q=>rw [hC _ _ _ _ hc];rw [hc] at hr;exact hr
theorem LN {C C':aY} (hC: ∀f a b r,C f a b=some r→C' f a b=some r) {ow:cY} {o:AOp} {ev:Opd→V} {h:au} {new:Nat} {r:V×Upd}
 (hr:an C ow o ev h new=some r):an C' ow o ev h new=some r:=by
 cases o
 case call f args=>simp only [an] at hr ⊢;exact Hv hC hr
 case dyn f args=>
  simp only [an] at hr ⊢
  split at hr
  ·exact Hv hC hr
  ·cases hr
 all_goals exact hr
theorem Om {C:Nat→aY} {D:aY} (hD: ∀f a b r,D f a b=some r→ ∃n,C n f a b=some r) (n0:Nat) {ow:cY} {o:AOp} {ev:Opd→V} {h:au} {new:Nat} {r:V×Upd}
 (hr:an D ow o ev h new=some r): ∃n,an (C n) ow o ev h new=some r:=by
 have key: ∀f args,jx D ow h new f args=some r→ ∃n,jx (C n) ow h new f args=some r:=by
  intro f args hr
  unfold jx at hr
  cases hp:cV ow h f args with
  |none=>rw [hp] at hr;cases hr
  |some p=>
   obtain ⟨args',blks,ids,bor⟩:=p
   rw [hp] at hr
   dsimp only at hr
   cases hc:D f (qj (ow f) args') (pN (ow f) blks) with
   |none=>rw [hc] at hr;cases hr
   |some q=>
    rw [hc] at hr
    obtain ⟨n,hn⟩:=hD _ _ _ _ hc
    refine ⟨n, ?_⟩
    unfold jx
    rw [hp]
    dsimp only
    rw [hn]
    exact hr
 cases o
 case call f args=>simp only [an] at hr ⊢;exact key _ _ hr
 case dyn f args=>
  simp only [an] at hr ⊢
  split at hr
  ·exact key _ _ hr
  ·cases hr
 all_goals exact ⟨n0,hr⟩
theorem K3 {C C':aY} (hC: ∀f a b r,C f a b=some r→C' f a b=some r) {ow:cY} {st:St} {s:bi} {n:Nat} {r:St}
 (hr:vp C ow st s n=some r):vp C' ow st s n=some r:=by
 unfold vp at hr ⊢
 split at hr
 ·cases hr
 ·exact hr
 ·split at hr
  ·rename_i v u ho;rw [LN hC ho];exact hr
  ·cases hr
theorem o7 {C C':aY} (hC: ∀f a b r,C f a b=some r→C' f a b=some r) {ow:cY}: ∀{l:List bi} {n:Nat} {st:St} {r:St},
 gZ C ow l n st=some r→gZ C' ow l n st=some r
 |[],_,_,_,hr=>hr
 |s::l,n,st,r,hr=>by
  simp only [gZ] at hr ⊢
  split at hr
  ·rename_i st' h;rw [K3 hC h];exact o7 hC hr
  ·cases hr
theorem Mp {C C':aY} (hC: ∀f a b r,C f a b=some r→C' f a b=some r) {ow:cY} {st:St} {s:bi} {i n:Nat} {r:St×Rec}
 (hr:xG C ow st s i n=some r):xG C' ow st s i n=some r:=by
 unfold xG at hr ⊢
 split at hr
 ·cases hr
 ·exact hr
 ·split at hr
  ·rename_i v u ho;rw [LN hC ho];exact hr
  ·cases hr
theorem oh {C C':aY} (hC: ∀f a b r,C f a b=some r→C' f a b=some r) {ow:cY} {base:Nat}: ∀{l:List bi} {n:Nat} {st:St} {r:St×List Rec},
 hJ C ow base l n st=some r→hJ C' ow base l n st=some r
 |[],_,_,_,hr=>hr
 |s::l,n,st,r,hr=>by
  simp only [hJ] at hr ⊢
  split at hr
  ·rename_i st' rc h
   rw [Mp hC h]
   dsimp only
   split at hr
   ·rename_i st2 rs h2;rw [oh hC h2];exact hr
   ·cases hr
  ·cases hr
theorem bS {C C':aY} (hC: ∀f a b r,C f a b=some r→C' f a b=some r) {ow:cY}: ∀(n m:Nat),n≤m→ ∀{c:ag} {st:St} {r:ai×St},
 bD C ow n c st=some r→bD C' ow m c st=some r
 |0,_,_,_,_,_,hr=>by simp [bD] at hr
 |n+1,0,h,_,_,_,_=>absurd h (by omega)
 |n+1,m+1,h,c,st,r,hr=>by
  have ih:=fun {c st r}=>bS hC (ow:=ow) n m (by omega) (c:=c) (st:=st) (r:=r)
  cases c with
  |skip=>exact hr
  |region base steps live=>
   simp only [bD,nG] at hr ⊢
   split at hr
   ·rename_i st' h;rw [o7 hC h];exact hr
   ·cases hr
  |drawn base steps deps live=>
   simp only [bD,uC] at hr ⊢
   split at hr
   ·rename_i st' rs h;rw [oh hC h];exact hr
   ·cases hr
  |seq a b=>
   simp only [bD] at hr ⊢
   cases ha:bD C ow n a st with
   |none=>rw [ha] at hr;cases hr
   |some p=>
    obtain ⟨e,st'⟩:=p
    rw [ih ha]
    rw [ha] at hr
    cases e with
    |normal=>exact ih hr
    |exit id=>exact hr
    |ret=>exact hr
  |cond c a b=>
   simp only [bD] at hr ⊢
   split at hr
   ·exact ih hr
   ·exact ih hr
   ·cases hr
  |block id c=>
   simp only [bD] at hr ⊢
   cases ha:bD C ow n c st with
   |none=>rw [ha] at hr;cases hr
   |some p=>rw [ih ha];rw [ha] at hr;exact hr
  |loop c=>
   simp only [bD] at hr ⊢
   cases ha:bD C ow n c st with
   |none=>rw [ha] at hr;cases hr
   |some p=>
    obtain ⟨e,st'⟩:=p
    rw [ih ha]
    rw [ha] at hr
    cases e with
    |normal=>exact ih hr
    |exit id=>exact hr
    |ret=>exact hr
  |exit id=>exact hr
  |ret=>exact hr
  |ghost g c=>
   simp only [bD] at hr ⊢
   split at hr
   ·exact ih hr
   ·cases hr
theorem Ls (T:Tab) (ow:cY): ∀(n:Nat) f a b r,cG T ow n f a b=some r→cG T ow (n+1) f a b=some r
 |0,_,_,_,_,h=>by simp [cG] at h
 |n+1,f,a,b,r,h=>by
  simp only [cG] at h ⊢
  split at h
  ·cases h
  rotate_left
  ·exact h
  ·rename_i af haf
   cases he:bD (cG T ow n) ow n af.body (start a b) with
   |none=>rw [he] at h;simp [kh,Su] at h
   |some p=>
    have:=bS (Ls T ow n) (ow:=ow) n (n+1) (by omega) he
    simp only [cG] at this
    rw [this]
    rw [he] at h
    exact h
theorem bR (T:Tab) (ow:cY) {n m:Nat} (h:n≤m): ∀f a b r,cG T ow n f a b=some r→cG T ow m f a b=some r:=by
 induction h with
 |refl=>exact fun _ _ _ _ h=>h
 |step _ ih=>exact fun f a b r h=>Ls T ow _ f a b r (ih f a b r h)
open Classical in
noncomputable def lim {α:Type} (g:Nat→Option α):Option α:=if h: ∃n r,g n=some r then g h.choose else none
theorem Uv {α:Type} {g:Nat→Option α} (hm: ∀n m r,n≤m→g n=some r→g m=some r) {n:Nat} {r:α} (h:g n=some r):lim g=some r:=by
 have hx: ∃n r,g n=some r:=⟨n,r,h⟩
 unfold lim
 rw [dif_pos hx]
 obtain ⟨r',hr'⟩:=hx.choose_spec
 have h1:=hm _ (max n hx.choose) _ (Nat.le_max_left _ _) h
 have h2:=hm _ (max n hx.choose) _ (Nat.le_max_right _ _) hr'
 rw [h1] at h2
 rw [hr', ←h2]
theorem Lw {α:Type} {g:Nat→Option α} {r:α} (h:lim g=some r): ∃n,g n=some r:=by
 unfold lim at h
 split at h
 ·exact ⟨_,h⟩
 ·cases h
noncomputable def Call (T:Tab) (ow:cY):aY:=fun f a b=>lim fun n=>cG T ow n f a b
noncomputable def gc (T:Tab) (ow:cY) (c:ag) (st:St):Option (ai×St):=lim fun n=>bD (cG T ow n) ow n c st
section
variable {T:Tab} {ow:cY}
theorem a1I {n m:Nat} (h:n≤m) {c:ag} {st:St} {r:ai×St} (hr:bD (cG T ow n) ow n c st=some r):bD (cG T ow m) ow m c st=some r:=
 bS (bR T ow h) n m h hr
theorem cX {n:Nat} {c:ag} {st:St} {r:ai×St} (h:bD (cG T ow n) ow n c st=some r):gc T ow c st=some r:=
 Uv (g:=fun n=>bD (cG T ow n) ow n c st) (fun _ _ _ hnm h=>a1I hnm h) h
theorem gA {c:ag} {st:St} {r:ai×St} (h:gc T ow c st=some r): ∃n,bD (cG T ow n) ow n c st=some r:=Lw h
theorem Qz {n:Nat} {f:FuncId} {a:List V} {b:List Blk} {r:V×List Blk} (h:cG T ow n f a b=some r):Call T ow f a b=some r:=
 Uv (g:=fun n=>cG T ow n f a b) (fun _ _ _ hnm h=>bR T ow hnm _ _ _ _ h) h
theorem Jj {f:FuncId} {a:List V} {b:List Blk} {r:V×List Blk} (h:Call T ow f a b=some r): ∃n,cG T ow n f a b=some r:=Lw h
theorem py {α:Type} {a b:Option α} (h1: ∀r,a=some r→b=some r) (h2: ∀r,b=some r→a=some r):a=b:=by
 cases a with
 |none=>cases b with
  |none=>rfl
  |some r=>exact absurd (h2 r rfl) (by simp)
 |some r=>exact (h1 r rfl).symm
theorem Lg: ∀{l:List bi} {n:Nat} {st:St} {r:St},gZ (Call T ow) ow l n st=some r→ ∃k,gZ (cG T ow k) ow l n st=some r
 |[],_,_,_,h=>⟨0,h⟩
 |s::l,n,st,r,h=>by
  simp only [gZ] at h
  cases h1:vp (Call T ow) ow st s n with
  |none=>rw [h1] at h;cases h
  |some st'=>
   rw [h1] at h
   obtain ⟨k2,hk2⟩:=Lg h
   have: ∃k,vp (cG T ow k) ow st s n=some st':=by
    unfold vp at h1 ⊢
    split at h1
    ·cases h1
    ·exact ⟨0,h1⟩
    ·split at h1
     ·rename_i v u ho
      obtain ⟨k,hk⟩:=Om (C:=cG T ow) (D:=Call T ow) (fun _ _ _ _ h=>Jj h) 0 ho
      exact ⟨k,by rw [hk];exact h1⟩
     ·cases h1
   obtain ⟨k1,hk1⟩:=this
   refine ⟨max k1 k2, ?_⟩
   simp only [gZ]
   rw [K3 (bR T ow (Nat.le_max_left k1 k2)) hk1]
   exact o7 (bR T ow (Nat.le_max_right k1 k2)) hk2
theorem L9 {base:Nat}: ∀{l:List bi} {n:Nat} {st:St} {r:St×List Rec},hJ (Call T ow) ow base l n st=some r→ ∃k,hJ (cG T ow k) ow base l n st=some r
 |[],_,_,_,h=>⟨0,h⟩
 |s::l,n,st,r,h=>by
  simp only [hJ] at h
  cases h1:xG (Call T ow) ow st s n (base+n) with
  |none=>rw [h1] at h;cases h
  |some p=>
   obtain ⟨st',rc⟩:=p
   rw [h1] at h
   dsimp only at h
   cases h2:hJ (Call T ow) ow base l (n+1) st' with
   |none=>rw [h2] at h;cases h
   |some q=>
    obtain ⟨st2,rs⟩:=q
    rw [h2] at h
    obtain ⟨k2,hk2⟩:=L9 h2
    have: ∃k,xG (cG T ow k) ow st s n (base+n)=some (st',rc):=by
     unfold xG at h1 ⊢
     split at h1
     ·cases h1
     ·exact ⟨0,h1⟩
     ·split at h1
      ·rename_i v u ho
       obtain ⟨k,hk⟩:=Om (C:=cG T ow) (D:=Call T ow) (fun _ _ _ _ h=>Jj h) 0 ho
       exact ⟨k,by rw [hk];exact h1⟩
      ·cases h1
    obtain ⟨k1,hk1⟩:=this
    refine ⟨max k1 k2, ?_⟩
    simp only [hJ]
    rw [Mp (bR T ow (Nat.le_max_left k1 k2)) hk1]
    dsimp only
    rw [oh (bR T ow (Nat.le_max_right k1 k2)) hk2]
    exact h
theorem LC (k:Nat): ∀f a b r,cG T ow k f a b=some r→Call T ow f a b=some r:=fun _ _ _ _ h=>Qz h
theorem XA (st:St):gc T ow .skip st=some (.normal,st):=cX (n:=1) rfl
theorem YO (id:Nat) (st:St):gc T ow (.exit id) st=some (.exit id,st):=cX (n:=1) rfl
theorem Z2 (st:St):gc T ow .ret st=some (.ret,st):=cX (n:=1) rfl
theorem SI (base:Nat) (steps:List bi) (live:List Nat) (st:St):gc T ow (.region base steps live) st=nG (Call T ow) ow base steps live st:=by
 refine py (fun r h=> ?_) (fun r h=> ?_)
 ·obtain ⟨n,hn⟩:=gA h
  cases n with
  |zero=>simp [bD] at hn
  |succ n=>
   simp only [bD,nG] at hn ⊢
   split at hn
   ·rename_i st' h';rw [o7 (LC (n+1)) h'];exact hn
   ·cases hn
 ·unfold nG at h
  split at h
  ·rename_i st' h'
   obtain ⟨k,hk⟩:=Lg h'
   refine cX (n:=k+1) ?_
   simp only [bD,nG]
   rw [o7 (bR T ow (Nat.le_succ k)) hk]
   exact h
  ·cases h
theorem VP (base:Nat) (steps:List bi) (deps:List (List Nat)) (live:List Nat) (st:St):
 gc T ow (.drawn base steps deps live) st=uC (Call T ow) ow base steps deps live st:=by
 refine py (fun r h=> ?_) (fun r h=> ?_)
 ·obtain ⟨n,hn⟩:=gA h
  cases n with
  |zero=>simp [bD] at hn
  |succ n=>
   simp only [bD,uC] at hn ⊢
   split at hn
   ·rename_i st' rs h';rw [oh (LC (n+1)) h'];exact hn
   ·cases hn
 ·unfold uC at h
  split at h
  ·rename_i st' rs h'
   obtain ⟨k,hk⟩:=L9 h'
   refine cX (n:=k+1) ?_
   simp only [bD,uC]
   rw [oh (bR T ow (Nat.le_succ k)) hk]
   exact h
  ·cases h
theorem L6 (a b:ag) (st:St):gc T ow (.seq a b) st=(match gc T ow a st with
 |some (.normal,st')=>gc T ow b st'
 |r=>r):=by
 refine py (fun r h=> ?_) (fun r h=> ?_)
 ·obtain ⟨n,hn⟩:=gA h
  cases n with
  |zero=>simp [bD] at hn
  |succ n=>
   simp only [bD] at hn
   cases ha:bD (cG T ow (n+1)) ow n a st with
   |none=>rw [ha] at hn;cases hn
   |some p=>
    obtain ⟨e,st'⟩:=p
    rw [cX (bS (fun _ _ _ _ h=>h) n (n+1) (by omega) ha)]
    rw [ha] at hn
    cases e with
    |normal=>exact cX (bS (fun _ _ _ _ h=>h) n (n+1) (by omega) hn)
    |exit id=>exact hn
    |ret=>exact hn
 ·cases ha:gc T ow a st with
  |none=>rw [ha] at h;cases h
  |some p=>
   obtain ⟨e,st'⟩:=p
   rw [ha] at h
   obtain ⟨n,hn⟩:=gA ha
   cases e with
   |normal=>
    obtain ⟨m,hm⟩:=gA (show gc T ow b st'=some r from h)
    refine cX (n:=max n m+1) ?_
    simp only [bD]
    rw [bS (bR T ow (by omega)) n (max n m) (by omega) hn]
    exact bS (bR T ow (by omega)) m (max n m) (by omega) hm
   |exit id=>
    refine cX (n:=n+1) ?_
    simp only [bD]
    rw [bS (bR T ow (by omega)) n n (by omega) hn]
    exact h
   |ret=>
    refine cX (n:=n+1) ?_
    simp only [bD]
    rw [bS (bR T ow (by omega)) n n (by omega) hn]
    exact h
theorem YB (c:Opd) (a b:ag) (st:St):gc T ow (.cond c a b) st=(match st.ev c with
 | .lit (.bool true)=>gc T ow a st
 | .lit (.bool false)=>gc T ow b st
 |_=>none):=by
 refine py (fun r h=> ?_) (fun r h=> ?_)
 ·obtain ⟨n,hn⟩:=gA h
  cases n with
  |zero=>simp [bD] at hn
  |succ n=>
   simp only [bD] at hn
   split at hn
   ·rename_i hc;simp only [hc];exact cX (bS (fun _ _ _ _ h=>h) n (n+1) (by omega) hn)
   ·rename_i hc;simp only [hc];exact cX (bS (fun _ _ _ _ h=>h) n (n+1) (by omega) hn)
   ·cases hn
 ·split at h
  ·rename_i hc
   obtain ⟨n,hn⟩:=gA h
   refine cX (n:=n+1) ?_
   simp only [bD,hc]
   exact bS (bR T ow (by omega)) n n (by omega) hn
  ·rename_i hc
   obtain ⟨n,hn⟩:=gA h
   refine cX (n:=n+1) ?_
   simp only [bD,hc]
   exact bS (bR T ow (by omega)) n n (by omega) hn
  ·cases h
theorem CF (id:Nat) (c:ag) (st:St):gc T ow (.block id c) st=(match gc T ow c st with
 |some (.exit id',st')=>if id'=id then some (.normal,st') else some (.exit id',st')
 |r=>r):=by
 refine py (fun r h=> ?_) (fun r h=> ?_)
 ·obtain ⟨n,hn⟩:=gA h
  cases n with
  |zero=>simp [bD] at hn
  |succ n=>
   simp only [bD] at hn
   cases ha:bD (cG T ow (n+1)) ow n c st with
   |none=>rw [ha] at hn;cases hn
   |some p=>
    rw [cX (bS (fun _ _ _ _ h=>h) n (n+1) (by omega) ha)]
    rw [ha] at hn
    exact hn
 ·cases ha:gc T ow c st with
  |none=>rw [ha] at h;cases h
  |some p=>
   obtain ⟨n,hn⟩:=gA ha
   refine cX (n:=n+1) ?_
   simp only [bD]
   rw [bS (bR T ow (by omega)) n n (by omega) hn]
   rw [ha] at h
   exact h
theorem Od (c:ag) (st:St):gc T ow (.loop c) st=(match gc T ow c st with
 |some (.normal,st')=>gc T ow (.loop c) st'
 |r=>r):=by
 refine py (fun r h=> ?_) (fun r h=> ?_)
 ·obtain ⟨n,hn⟩:=gA h
  cases n with
  |zero=>simp [bD] at hn
  |succ n=>
   simp only [bD] at hn
   cases ha:bD (cG T ow (n+1)) ow n c st with
   |none=>rw [ha] at hn;cases hn
   |some p=>
    obtain ⟨e,st'⟩:=p
    rw [cX (bS (fun _ _ _ _ h=>h) n (n+1) (by omega) ha)]
    rw [ha] at hn
    cases e with
    |normal=>exact cX (bS (fun _ _ _ _ h=>h) n (n+1) (by omega) hn)
    |exit id=>exact hn
    |ret=>exact hn
 ·cases ha:gc T ow c st with
  |none=>rw [ha] at h;cases h
  |some p=>
   obtain ⟨e,st'⟩:=p
   rw [ha] at h
   obtain ⟨n,hn⟩:=gA ha
   cases e with
   |normal=>
    obtain ⟨m,hm⟩:=gA (show gc T ow (.loop c) st'=some r from h)
    refine cX (n:=max n m+1) ?_
    simp only [bD]
    rw [bS (bR T ow (by omega)) n (max n m) (by omega) hn]
    exact bS (bR T ow (by omega)) m (max n m) (by omega) hm
   |exit id=>
    refine cX (n:=n+1) ?_
    simp only [bD]
    rw [bS (bR T ow (by omega)) n n (by omega) hn]
    exact h
   |ret=>
    refine cX (n:=n+1) ?_
    simp only [bD]
    rw [bS (bR T ow (by omega)) n n (by omega) hn]
    exact h
theorem ii (g:kf) (c:ag) (st:St):gc T ow (.ghost g c) st=(match ca st g with
 |some st'=>gc T ow c st'
 |none=>none):=by
 refine py (fun r h=> ?_) (fun r h=> ?_)
 ·obtain ⟨n,hn⟩:=gA h
  cases n with
  |zero=>simp [bD] at hn
  |succ n=>
   simp only [bD] at hn
   split at hn
   ·rename_i st' hg;simp only [hg];exact cX (bS (fun _ _ _ _ h=>h) n (n+1) (by omega) hn)
   ·cases hn
 ·split at h
  ·rename_i st' hg
   obtain ⟨n,hn⟩:=gA h
   refine cX (n:=n+1) ?_
   simp only [bD,hg]
   exact bS (bR T ow (by omega)) n n (by omega) hn
  ·cases h
theorem Wl (f:FuncId) (a:List V) (b:List Blk):Call T ow f a b=(match T f with
 |none=>none
 |some (.code af)=>Su af (kh af b.length (gc T ow af.body (start a b)))
 |some (.ext g)=>g a b):=by
 refine py (fun r h=> ?_) (fun r h=> ?_)
 ·obtain ⟨n,hn⟩:=Jj h
  cases n with
  |zero=>simp [cG] at hn
  |succ n=>
   simp only [cG] at hn
   split at hn
   ·cases hn
   rotate_left
   ·rename_i g hg;simp only [hg];exact hn
   ·rename_i af haf
    cases he:bD (cG T ow n) ow n af.body (start a b) with
    |none=>rw [he] at hn;simp [kh,Su] at hn
    |some p=>simp only [haf];rw [cX he];rw [he] at hn;exact hn
 ·split at h
  ·cases h
  rotate_left
  ·rename_i g hg
   refine Qz (n:=1) ?_
   simp only [cG,hg]
   exact h
  ·rename_i af haf
   cases he:gc T ow af.body (start a b) with
   |none=>rw [he] at h;simp [kh,Su] at h
   |some p=>
    obtain ⟨n,hn⟩:=gA he
    refine Qz (n:=n+1) ?_
    simp only [cG,haf]
    rw [hn]
    rw [he] at h
    exact h
end
end Go.AI
