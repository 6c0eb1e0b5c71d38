/- The limit of the abstract machine's runs: more rounds tell the same; the equations of the limit. -/
import Derived.Test.YtdmhkkcihecndaaAiDefs
namespace Go.AI
theorem o9 {C C':am} (hC: ∀f a b r,C f a b=some r→C' f a b=some r) {ow:bm} {h:a8} {new:Nat} {f:FuncId} {args:List V} {r:V×Upd}
 (hr:di C ow h new f args=some r):di C' ow h new f args=some r:=by
 unfold di at hr ⊢
 cases hp:b7 ow h f args with
 |none=>rw [hp] at hr;cases hr
 |some p=>
  obtain ⟨args',blks,ids,bor⟩:=p
  rw [hp] at hr
  dsimp only at hr ⊢
  cases hc:C f (fy (ow f) args') (fB (ow f) blks) with
  |none=>rw [hc] at hr;cases hr
  |some q=>rw [hC _ _ _ _ hc];rw [hc] at hr;exact hr
theorem qY {C C':am} (hC: ∀f a b r,C f a b=some r→C' f a b=some r) {ow:bm} {o:AOp} {ev:Opd→V} {h:a8} {new:Nat} {r:V×Upd}
 (hr:a6 C ow o ev h new=some r):a6 C' ow o ev h new=some r:=by
 cases o
 case call f args=>simp only [a6] at hr ⊢;exact o9 hC hr
 case dyn f args=>
  simp only [a6] at hr ⊢
  split at hr
  ·exact o9 hC hr
  ·cases hr
 all_goals exact hr
theorem sB {C:Nat→am} {D:am} (hD: ∀f a b r,D f a b=some r→ ∃n,C n f a b=some r) (n0:Nat) {ow:bm} {o:AOp} {ev:Opd→V} {h:a8} {new:Nat} {r:V×Upd}
 (hr:a6 D ow o ev h new=some r): ∃n,a6 (C n) ow o ev h new=some r:=by
 have key: ∀f args,di D ow h new f args=some r→ ∃n,di (C n) ow h new f args=some r:=by
  intro f args hr
  unfold di at hr
  cases hp:b7 ow h f args with
  |none=>rw [hp] at hr;cases hr
  |some p=>
   obtain ⟨args',blks,ids,bor⟩:=p
   rw [hp] at hr
   dsimp only at hr
   cases hc:D f (fy (ow f) args') (fB (ow f) blks) with
   |none=>rw [hc] at hr;cases hr
   |some q=>
    rw [hc] at hr
    obtain ⟨n,hn⟩:=hD _ _ _ _ hc
    refine ⟨n, ?_⟩
    unfold di
    rw [hp]
    dsimp only
    rw [hn]
    exact hr
 cases o
 case call f args=>simp only [a6] at hr ⊢;exact key _ _ hr
 case dyn f args=>
  simp only [a6] at hr ⊢
  split at hr
  ·exact key _ _ hr
  ·cases hr
 all_goals exact ⟨n0,hr⟩
theorem qR {C C':am} (hC: ∀f a b r,C f a b=some r→C' f a b=some r) {ow:bm} {st:St} {s:al} {n:Nat} {r:St}
 (hr:iC C ow st s n=some r):iC C' ow st s n=some r:=by
 unfold iC at hr ⊢
 split at hr
 ·cases hr
 ·exact hr
 ·split at hr
  ·rename_i v u ho;rw [qY hC ho];exact hr
  ·cases hr
theorem fR {C C':am} (hC: ∀f a b r,C f a b=some r→C' f a b=some r) {ow:bm}: ∀{l:List al} {n:Nat} {st:St} {r:St},
 cO C ow l n st=some r→cO C' ow l n st=some r
 |[],_,_,_,hr=>hr
 |s::l,n,st,r,hr=>by
  simp only [cO] at hr ⊢
  split at hr
  ·rename_i st' h;rw [qR hC h];exact fR hC hr
  ·cases hr
theorem pz {C C':am} (hC: ∀f a b r,C f a b=some r→C' f a b=some r) {ow:bm} {st:St} {s:al} {i n:Nat} {r:St×Rec}
 (hr:gX C ow st s i n=some r):gX C' ow st s i n=some r:=by
 unfold gX at hr ⊢
 split at hr
 ·cases hr
 ·exact hr
 ·split at hr
  ·rename_i v u ho;rw [qY hC ho];exact hr
  ·cases hr
theorem fQ {C C':am} (hC: ∀f a b r,C f a b=some r→C' f a b=some r) {ow:bm} {base:Nat}: ∀{l:List al} {n:Nat} {st:St} {r:St×List Rec},
 bT C ow base l n st=some r→bT C' ow base l n st=some r
 |[],_,_,_,hr=>hr
 |s::l,n,st,r,hr=>by
  simp only [bT] at hr ⊢
  split at hr
  ·rename_i st' rc h
   rw [pz hC h]
   dsimp only
   split at hr
   ·rename_i st2 rs h2;rw [fQ hC h2];exact hr
   ·cases hr
  ·cases hr
theorem aL {C C':am} (hC: ∀f a b r,C f a b=some r→C' f a b=some r) {ow:bm}: ∀(n m:Nat),n≤m→ ∀{c:ai} {st:St} {r:au×St},
 aG C ow n c st=some r→aG C' ow m c st=some r
 |0,_,_,_,_,_,hr=>by simp [aG] at hr
 |n+1,0,h,_,_,_,_=>absurd h (by omega)
 |n+1,m+1,h,c,st,r,hr=>by
  have ih:=fun {c st r}=>aL hC (ow:=ow) n m (by omega) (c:=c) (st:=st) (r:=r)
  cases c with
  |skip=>exact hr
  |region base steps live=>
   simp only [aG,fk] at hr ⊢
   split at hr
   ·rename_i st' h;rw [fR hC h];exact hr
   ·cases hr
  |drawn base steps deps live=>
   simp only [aG,iv] at hr ⊢
   split at hr
   ·rename_i st' rs h;rw [fQ hC h];exact hr
   ·cases hr
  |seq a b=>
   simp only [aG] at hr ⊢
   cases ha:aG C ow n a st with
   |none=>rw [ha] at hr;cases hr
   |some p=>
    obtain ⟨e,st'⟩:=p
    rw [ih ha]
    rw [ha] at hr
    cases e with
    |normal=>exact ih hr
    |exit id=>exact hr
    |ret=>exact hr
  |cond c a b=>
   simp only [aG] at hr ⊢
   split at hr
   ·exact ih hr
   ·exact ih hr
   ·cases hr
  |block id c=>
   simp only [aG] at hr ⊢
   cases ha:aG C ow n c st with
   |none=>rw [ha] at hr;cases hr
   |some p=>rw [ih ha];rw [ha] at hr;exact hr
  |loop c=>
   simp only [aG] at hr ⊢
   cases ha:aG C ow n c st with
   |none=>rw [ha] at hr;cases hr
   |some p=>
    obtain ⟨e,st'⟩:=p
    rw [ih ha]
    rw [ha] at hr
    cases e with
    |normal=>exact ih hr
    |exit id=>exact hr
    |ret=>exact hr
  |exit id=>exact hr
  |ret=>exact hr
  |ghost g c=>
   simp only [aG] at hr ⊢
   split at hr
   ·exact ih hr
   ·cases hr
theorem pB (T:Tab) (ow:bm): ∀(n:Nat) f a b r,ba T ow n f a b=some r→ba T ow (n+1) f a b=some r
 |0,_,_,_,_,h=>by simp [ba] at h
 |n+1,f,a,b,r,h=>by
  simp only [ba] at h ⊢
  split at h
  ·cases h
  rotate_left
  ·exact h
  ·rename_i af haf
   cases he:aG (ba T ow n) ow n af.body (start a b) with
   |none=>rw [he] at h;simp [e6,ww] at h
   |some p=>
    have:=aL (pB T ow n) (ow:=ow) n (n+1) (by omega) he
    simp only [ba] at this
    rw [this]
    rw [he] at h
    exact h
theorem aM (T:Tab) (ow:bm) {n m:Nat} (h:n≤m): ∀f a b r,ba T ow n f a b=some r→ba T ow m f a b=some r:=by
 induction h with
 |refl=>exact fun _ _ _ _ h=>h
 |step _ ih=>exact fun f a b r h=>pB T ow _ f a b r (ih f a b r h)
open Classical in
noncomputable def lim {α:Type} (g:Nat→Option α):Option α:=if h: ∃n r,g n=some r then g h.choose else none
theorem z5 {α:Type} {g:Nat→Option α} (hm: ∀n m r,n≤m→g n=some r→g m=some r) {n:Nat} {r:α} (h:g n=some r):lim g=some r:=by
 have hx: ∃n r,g n=some r:=⟨n,r,h⟩
 unfold lim
 rw [dif_pos hx]
 obtain ⟨r',hr'⟩:=hx.choose_spec
 have h1:=hm _ (max n hx.choose) _ (Nat.le_max_left _ _) h
 have h2:=hm _ (max n hx.choose) _ (Nat.le_max_right _ _) hr'
 rw [h1] at h2
 rw [hr', ←h2]
theorem yU {α:Type} {g:Nat→Option α} {r:α} (h:lim g=some r): ∃n,g n=some r:=by
 unfold lim at h
 split at h
 ·exact ⟨_,h⟩
 ·cases h
noncomputable def Call (T:Tab) (ow:bm):am:=fun f a b=>lim fun n=>ba T ow n f a b
noncomputable def ci (T:Tab) (ow:bm) (c:ai) (st:St):Option (au×St):=lim fun n=>aG (ba T ow n) ow n c st
section
variable {T:Tab} {ow:bm}
theorem I3 {n m:Nat} (h:n≤m) {c:ai} {st:St} {r:au×St} (hr:aG (ba T ow n) ow n c st=some r):aG (ba T ow m) ow m c st=some r:=
 aL (aM T ow h) n m h hr
theorem bn {n:Nat} {c:ai} {st:St} {r:au×St} (h:aG (ba T ow n) ow n c st=some r):ci T ow c st=some r:=
 z5 (g:=fun n=>aG (ba T ow n) ow n c st) (fun _ _ _ hnm h=>I3 hnm h) h
theorem cx {c:ai} {st:St} {r:au×St} (h:ci T ow c st=some r): ∃n,aG (ba T ow n) ow n c st=some r:=yU h
theorem tn {n:Nat} {f:FuncId} {a:List V} {b:List Blk} {r:V×List Blk} (h:ba T ow n f a b=some r):Call T ow f a b=some r:=
 z5 (g:=fun n=>ba T ow n f a b) (fun _ _ _ hnm h=>aM T ow hnm _ _ _ _ h) h
theorem pc {f:FuncId} {a:List V} {b:List Blk} {r:V×List Blk} (h:Call T ow f a b=some r): ∃n,ba T ow n f a b=some r:=yU h
theorem ge {α:Type} {a b:Option α} (h1: ∀r,a=some r→b=some r) (h2: ∀r,b=some r→a=some r):a=b:=by
 cases a with
 |none=>cases b with
  |none=>rfl
  |some r=>exact absurd (h2 r rfl) (by simp)
 |some r=>exact (h1 r rfl).symm
theorem qW: ∀{l:List al} {n:Nat} {st:St} {r:St},cO (Call T ow) ow l n st=some r→ ∃k,cO (ba T ow k) ow l n st=some r
 |[],_,_,_,h=>⟨0,h⟩
 |s::l,n,st,r,h=>by
  simp only [cO] at h
  cases h1:iC (Call T ow) ow st s n with
  |none=>rw [h1] at h;cases h
  |some st'=>
   rw [h1] at h
   obtain ⟨k2,hk2⟩:=qW h
   have: ∃k,iC (ba T ow k) ow st s n=some st':=by
    unfold iC at h1 ⊢
    split at h1
    ·cases h1
    ·exact ⟨0,h1⟩
    ·split at h1
     ·rename_i v u ho
      obtain ⟨k,hk⟩:=sB (C:=ba T ow) (D:=Call T ow) (fun _ _ _ _ h=>pc h) 0 ho
      exact ⟨k,by rw [hk];exact h1⟩
     ·cases h1
   obtain ⟨k1,hk1⟩:=this
   refine ⟨max k1 k2, ?_⟩
   simp only [cO]
   rw [qR (aM T ow (Nat.le_max_left k1 k2)) hk1]
   exact fR (aM T ow (Nat.le_max_right k1 k2)) hk2
theorem qM {base:Nat}: ∀{l:List al} {n:Nat} {st:St} {r:St×List Rec},bT (Call T ow) ow base l n st=some r→ ∃k,bT (ba T ow k) ow base l n st=some r
 |[],_,_,_,h=>⟨0,h⟩
 |s::l,n,st,r,h=>by
  simp only [bT] at h
  cases h1:gX (Call T ow) ow st s n (base+n) with
  |none=>rw [h1] at h;cases h
  |some p=>
   obtain ⟨st',rc⟩:=p
   rw [h1] at h
   dsimp only at h
   cases h2:bT (Call T ow) ow base l (n+1) st' with
   |none=>rw [h2] at h;cases h
   |some q=>
    obtain ⟨st2,rs⟩:=q
    rw [h2] at h
    obtain ⟨k2,hk2⟩:=qM h2
    have: ∃k,gX (ba T ow k) ow st s n (base+n)=some (st',rc):=by
     unfold gX at h1 ⊢
     split at h1
     ·cases h1
     ·exact ⟨0,h1⟩
     ·split at h1
      ·rename_i v u ho
       obtain ⟨k,hk⟩:=sB (C:=ba T ow) (D:=Call T ow) (fun _ _ _ _ h=>pc h) 0 ho
       exact ⟨k,by rw [hk];exact h1⟩
      ·cases h1
    obtain ⟨k1,hk1⟩:=this
    refine ⟨max k1 k2, ?_⟩
    simp only [bT]
    rw [pz (aM T ow (Nat.le_max_left k1 k2)) hk1]
    dsimp only
    rw [fQ (aM T ow (Nat.le_max_right k1 k2)) hk2]
    exact h
theorem qV (k:Nat): ∀f a b r,ba T ow k f a b=some r→Call T ow f a b=some r:=fun _ _ _ _ h=>tn h
theorem AT (st:St):ci T ow .skip st=some (.normal,st):=bn (n:=1) rfl
theorem Bv (id:Nat) (st:St):ci T ow (.exit id) st=some (.exit id,st):=bn (n:=1) rfl
theorem FL (st:St):ci T ow .ret st=some (.ret,st):=bn (n:=1) rfl
theorem vO (base:Nat) (steps:List al) (live:List Nat) (st:St):ci T ow (.region base steps live) st=fk (Call T ow) ow base steps live st:=by
 refine ge (fun r h=> ?_) (fun r h=> ?_)
 ·obtain ⟨n,hn⟩:=cx h
  cases n with
  |zero=>simp [aG] at hn
  |succ n=>
   simp only [aG,fk] at hn ⊢
   split at hn
   ·rename_i st' h';rw [fR (qV (n+1)) h'];exact hn
   ·cases hn
 ·unfold fk at h
  split at h
  ·rename_i st' h'
   obtain ⟨k,hk⟩:=qW h'
   refine bn (n:=k+1) ?_
   simp only [aG,fk]
   rw [fR (aM T ow (Nat.le_succ k)) hk]
   exact h
  ·cases h
theorem yt (base:Nat) (steps:List al) (deps:List (List Nat)) (live:List Nat) (st:St):
 ci T ow (.drawn base steps deps live) st=iv (Call T ow) ow base steps deps live st:=by
 refine ge (fun r h=> ?_) (fun r h=> ?_)
 ·obtain ⟨n,hn⟩:=cx h
  cases n with
  |zero=>simp [aG] at hn
  |succ n=>
   simp only [aG,iv] at hn ⊢
   split at hn
   ·rename_i st' rs h';rw [fQ (qV (n+1)) h'];exact hn
   ·cases hn
 ·unfold iv at h
  split at h
  ·rename_i st' rs h'
   obtain ⟨k,hk⟩:=qM h'
   refine bn (n:=k+1) ?_
   simp only [aG,iv]
   rw [fQ (aM T ow (Nat.le_succ k)) hk]
   exact h
  ·cases h
theorem qj (a b:ai) (st:St):ci T ow (.seq a b) st=(match ci T ow a st with
 |some (.normal,st')=>ci T ow b st'
 |r=>r):=by
 refine ge (fun r h=> ?_) (fun r h=> ?_)
 ·obtain ⟨n,hn⟩:=cx h
  cases n with
  |zero=>simp [aG] at hn
  |succ n=>
   simp only [aG] at hn
   cases ha:aG (ba T ow (n+1)) ow n a st with
   |none=>rw [ha] at hn;cases hn
   |some p=>
    obtain ⟨e,st'⟩:=p
    rw [bn (aL (fun _ _ _ _ h=>h) n (n+1) (by omega) ha)]
    rw [ha] at hn
    cases e with
    |normal=>exact bn (aL (fun _ _ _ _ h=>h) n (n+1) (by omega) hn)
    |exit id=>exact hn
    |ret=>exact hn
 ·cases ha:ci T ow a st with
  |none=>rw [ha] at h;cases h
  |some p=>
   obtain ⟨e,st'⟩:=p
   rw [ha] at h
   obtain ⟨n,hn⟩:=cx ha
   cases e with
   |normal=>
    obtain ⟨m,hm⟩:=cx (show ci T ow b st'=some r from h)
    refine bn (n:=max n m+1) ?_
    simp only [aG]
    rw [aL (aM T ow (by omega)) n (max n m) (by omega) hn]
    exact aL (aM T ow (by omega)) m (max n m) (by omega) hm
   |exit id=>
    refine bn (n:=n+1) ?_
    simp only [aG]
    rw [aL (aM T ow (by omega)) n n (by omega) hn]
    exact h
   |ret=>
    refine bn (n:=n+1) ?_
    simp only [aG]
    rw [aL (aM T ow (by omega)) n n (by omega) hn]
    exact h
theorem By (c:Opd) (a b:ai) (st:St):ci T ow (.cond c a b) st=(match st.ev c with
 | .lit (.bool true)=>ci T ow a st
 | .lit (.bool false)=>ci T ow b st
 |_=>none):=by
 refine ge (fun r h=> ?_) (fun r h=> ?_)
 ·obtain ⟨n,hn⟩:=cx h
  cases n with
  |zero=>simp [aG] at hn
  |succ n=>
   simp only [aG] at hn
   split at hn
   ·rename_i hc;simp only [hc];exact bn (aL (fun _ _ _ _ h=>h) n (n+1) (by omega) hn)
   ·rename_i hc;simp only [hc];exact bn (aL (fun _ _ _ _ h=>h) n (n+1) (by omega) hn)
   ·cases hn
 ·split at h
  ·rename_i hc
   obtain ⟨n,hn⟩:=cx h
   refine bn (n:=n+1) ?_
   simp only [aG,hc]
   exact aL (aM T ow (by omega)) n n (by omega) hn
  ·rename_i hc
   obtain ⟨n,hn⟩:=cx h
   refine bn (n:=n+1) ?_
   simp only [aG,hc]
   exact aL (aM T ow (by omega)) n n (by omega) hn
  ·cases h
theorem m0 (id:Nat) (c:ai) (st:St):ci T ow (.block id c) st=(match ci T ow c st with
 |some (.exit id',st')=>if id'=id then some (.normal,st') else some (.exit id',st')
 |r=>r):=by
 refine ge (fun r h=> ?_) (fun r h=> ?_)
 ·obtain ⟨n,hn⟩:=cx h
  cases n with
  |zero=>simp [aG] at hn
  |succ n=>
   simp only [aG] at hn
   cases ha:aG (ba T ow (n+1)) ow n c st with
   |none=>rw [ha] at hn;cases hn
   |some p=>
    rw [bn (aL (fun _ _ _ _ h=>h) n (n+1) (by omega) ha)]
    rw [ha] at hn
    exact hn
 ·cases ha:ci T ow c st with
  |none=>rw [ha] at h;cases h
  |some p=>
   obtain ⟨n,hn⟩:=cx ha
   refine bn (n:=n+1) ?_
   simp only [aG]
   rw [aL (aM T ow (by omega)) n n (by omega) hn]
   rw [ha] at h
   exact h
theorem sH (c:ai) (st:St):ci T ow (.loop c) st=(match ci T ow c st with
 |some (.normal,st')=>ci T ow (.loop c) st'
 |r=>r):=by
 refine ge (fun r h=> ?_) (fun r h=> ?_)
 ·obtain ⟨n,hn⟩:=cx h
  cases n with
  |zero=>simp [aG] at hn
  |succ n=>
   simp only [aG] at hn
   cases ha:aG (ba T ow (n+1)) ow n c st with
   |none=>rw [ha] at hn;cases hn
   |some p=>
    obtain ⟨e,st'⟩:=p
    rw [bn (aL (fun _ _ _ _ h=>h) n (n+1) (by omega) ha)]
    rw [ha] at hn
    cases e with
    |normal=>exact bn (aL (fun _ _ _ _ h=>h) n (n+1) (by omega) hn)
    |exit id=>exact hn
    |ret=>exact hn
 ·cases ha:ci T ow c st with
  |none=>rw [ha] at h;cases h
  |some p=>
   obtain ⟨e,st'⟩:=p
   rw [ha] at h
   obtain ⟨n,hn⟩:=cx ha
   cases e with
   |normal=>
    obtain ⟨m,hm⟩:=cx (show ci T ow (.loop c) st'=some r from h)
    refine bn (n:=max n m+1) ?_
    simp only [aG]
    rw [aL (aM T ow (by omega)) n (max n m) (by omega) hn]
    exact aL (aM T ow (by omega)) m (max n m) (by omega) hm
   |exit id=>
    refine bn (n:=n+1) ?_
    simp only [aG]
    rw [aL (aM T ow (by omega)) n n (by omega) hn]
    exact h
   |ret=>
    refine bn (n:=n+1) ?_
    simp only [aG]
    rw [aL (aM T ow (by omega)) n n (by omega) hn]
    exact h
theorem cK (g:bj) (c:ai) (st:St):ci T ow (.ghost g c) st=(match aE st g with
 |some st'=>ci T ow c st'
 |none=>none):=by
 refine ge (fun r h=> ?_) (fun r h=> ?_)
 ·obtain ⟨n,hn⟩:=cx h
  cases n with
  |zero=>simp [aG] at hn
  |succ n=>
   simp only [aG] at hn
   split at hn
   ·rename_i st' hg;simp only [hg];exact bn (aL (fun _ _ _ _ h=>h) n (n+1) (by omega) hn)
   ·cases hn
 ·split at h
  ·rename_i st' hg
   obtain ⟨n,hn⟩:=cx h
   refine bn (n:=n+1) ?_
   simp only [aG,hg]
   exact aL (aM T ow (by omega)) n n (by omega) hn
  ·cases h
theorem A0 (f:FuncId) (a:List V) (b:List Blk):Call T ow f a b=(match T f with
 |none=>none
 |some (.code af)=>ww af (e6 af b.length (ci T ow af.body (start a b)))
 |some (.ext g)=>g a b):=by
 refine ge (fun r h=> ?_) (fun r h=> ?_)
 ·obtain ⟨n,hn⟩:=pc h
  cases n with
  |zero=>simp [ba] at hn
  |succ n=>
   simp only [ba] at hn
   split at hn
   ·cases hn
   rotate_left
   ·rename_i g hg;simp only [hg];exact hn
   ·rename_i af haf
    cases he:aG (ba T ow n) ow n af.body (start a b) with
    |none=>rw [he] at hn;simp [e6,ww] at hn
    |some p=>simp only [haf];rw [bn he];rw [he] at hn;exact hn
 ·split at h
  ·cases h
  rotate_left
  ·rename_i g hg
   refine tn (n:=1) ?_
   simp only [ba,hg]
   exact h
  ·rename_i af haf
   cases he:ci T ow af.body (start a b) with
   |none=>rw [he] at h;simp [e6,ww] at h
   |some p=>
    obtain ⟨n,hn⟩:=cx he
    refine tn (n:=n+1) ?_
    simp only [ba,haf]
    rw [hn]
    rw [he] at h
    exact h
end
end Go.AI
set_option linter.unusedVariables false
set_option linter.unusedSimpArgs false
namespace Go.AI
def br {α:Type} (c:Bool) (x y:α):α:=match c with
 |true=>x
 |false=>y
theorem bF {α:Type} (x y:α):br true x y=x:=rfl
theorem aA {α:Type} (x y:α):br false x y=y:=rfl
theorem PK {α:Type} (c:Bool) (x y:α):br (!c) x y=br c y x:=by cases c<;>rfl
theorem mw {α:Type} {c:Bool} {x y r:α} (h:c=true) (hx:x=r):br c x y=r:=by subst h;exact hx
theorem Cp {α:Type} {c:Bool} {x y r:α} (h:c=false) (hy:y=r):br c x y=r:=by subst h;exact hy
theorem brc {α:Type} {c:Bool} {x y r:α} (h:br c x y=r):(c=true∧x=r)∨(c=false∧y=r):=by
 cases c
 ·exact .inr ⟨rfl,h⟩
 ·exact .inl ⟨rfl,h⟩
theorem brg {α:Type} {c:Bool} {x:Option α} {r:α} (h:br c x none=some r):c=true∧x=some r:=by
 cases c
 ·cases h
 ·exact ⟨rfl,h⟩
theorem bd {α β:Type} {x:Option α} {g:α→Option β} {r:β} (h:x.bind g=some r): ∃a,x=some a∧g a=some r:=by
 cases x with
 |none=>cases h
 |some a=>exact ⟨a,rfl,h⟩
inductive Fr where
 |code (c:ai)
 |steps (n:Nat) (ss:List al) (live:List Nat)
 |dr (base i:Nat) (ss:List al) (deps:List (List Nat)) (live:List Nat) (rs:List Rec)
 |blk (id:Nat)
section
variable {R:Type}
noncomputable def eW (T:Tab) (ow:bm) (k:au→St→Option R):List Fr→Option Nat→St→Option R
 |[],none,st=>k .normal st
 |[],some id,st=>k (.exit id) st
 | .blk id'::K,some id,st=>if id'=id then eW T ow k K none st else eW T ow k K (some id) st
 |_::K,some id,st=>eW T ow k K (some id) st
 | .blk _::K,none,st=>eW T ow k K none st
 | .code c::K,none,st=>match ci T ow c st with
   |some (.normal,st')=>eW T ow k K none st'
   |some (.exit id,st')=>eW T ow k K (some id) st'
   |some (.ret,st')=>k .ret st'
   |none=>none
 | .steps n ss live::K,none,st=>match cO (Call T ow) ow ss n st with
   |some st'=>eW T ow k K none (trim live st')
   |none=>none
 | .dr base i ss deps live rs::K,none,st=>match bT (Call T ow) ow base ss i st with
   |some (st',rs')=>br (dN deps (rs++rs'.filter Rec.loud)) (eW T ow k K none (trim live st')) none
   |none=>none
noncomputable def Rn (T:Tab) (ow:bm) (k:au→St→Option R) (K:List Fr) (st:St):Option R:=eW T ow k K none st
noncomputable def Unw (T:Tab) (ow:bm) (k:au→St→Option R) (id:Nat) (K:List Fr) (st:St):Option R:=eW T ow k K (some id) st
noncomputable def goR (T:Tab) (ow:bm) (k:au→St→Option R) (K:List Fr):Option (au×St)→Option R
 |some (.normal,st')=>Rn T ow k K st'
 |some (.exit id,st')=>Unw T ow k id K st'
 |some (.ret,st')=>k .ret st'
 |none=>none
variable {T:Tab} {ow:bm} {k:au→St→Option R}
theorem aX (c:ai) (K:List Fr) (st:St):Rn T ow k (.code c::K) st=goR T ow k K (ci T ow c st):=by
 unfold Rn eW goR
 cases ci T ow c st with
 |none=>rfl
 |some p=>obtain ⟨e,st'⟩:=p;cases e<;>rfl
theorem I5 (st:St):Rn T ow k [] st=k .normal st:=rfl
theorem Hp (id:Nat) (K:List Fr) (st:St):Rn T ow k (.blk id::K) st=Rn T ow k K st:=rfl
theorem Fi (K:List Fr) (st:St):Rn T ow k (.code .skip::K) st=Rn T ow k K st:=by rw [aX,AT];rfl
theorem DZ (id:Nat) (K:List Fr) (st:St):Rn T ow k (.code (.exit id)::K) st=Unw T ow k id K st:=by rw [aX,Bv];rfl
theorem GX (K:List Fr) (st:St):Rn T ow k (.code .ret::K) st=k .ret st:=by rw [aX,FL];rfl
theorem JJ (a b:ai) (K:List Fr) (st:St):Rn T ow k (.code (.seq a b)::K) st=Rn T ow k (.code a:: .code b::K) st:=by
 rw [aX,qj,aX]
 cases ci T ow a st with
 |none=>rfl
 |some p=>
  obtain ⟨e,st'⟩:=p
  cases e with
  |normal=>simp only [goR];rw [aX];rfl
  |exit id=>rfl
  |ret=>rfl
theorem An (id:Nat) (c:ai) (K:List Fr) (st:St):Rn T ow k (.code (.block id c)::K) st=Rn T ow k (.code c:: .blk id::K) st:=by
 rw [aX,m0,aX]
 cases ci T ow c st with
 |none=>rfl
 |some p=>
  obtain ⟨e,st'⟩:=p
  cases e with
  |normal=>rfl
  |exit id'=>
   simp only [goR,Unw,Rn,eW]
   by_cases h:id'=id
   ·subst h;simp
   ·rw [if_neg h,if_neg (fun e=>h e.symm)]
  |ret=>rfl
noncomputable def Fj (T:Tab) (ow:bm) (k:au→St→Option R) (a b:ai) (K:List Fr) (st:St):V→Option R
 | .lit (.bool c)=>br c (Rn T ow k (.code a::K) st) (Rn T ow k (.code b::K) st)
 |_=>none
theorem FJ (c:Opd) (a b:ai) (K:List Fr) (st:St):Rn T ow k (.code (.cond c a b)::K) st=Fj T ow k a b K st (st.ev c):=by
 rw [aX,By]
 unfold Fj
 split
 ·rename_i h;rw [h];exact (aX _ _ _).symm
 ·rename_i h;rw [h];exact (aX _ _ _).symm
 ·rename_i h1 h2
  split
  ·rename_i c' h;cases c'
   ·exact absurd h h2
   ·exact absurd h h1
  ·rfl
theorem z0 (a b:ai) (K:List Fr) (st:St) (c:Bool):Fj T ow k a b K st (.lit (.bool c))=br c (Rn T ow k (.code a::K) st) (Rn T ow k (.code b::K) st):=rfl
noncomputable def ghR (T:Tab) (ow:bm) (k:au→St→Option R) (c:ai) (K:List Fr):Option St→Option R
 |some st'=>Rn T ow k (.code c::K) st'
 |none=>none
theorem C5 (g:bj) (c:ai) (K:List Fr) (st:St):Rn T ow k (.code (.ghost g c)::K) st=ghR T ow k c K (aE st g):=by
 rw [aX,cK]
 cases aE st g with
 |none=>rfl
 |some st'=>simp only [ghR];rw [aX]
theorem Gm (c:ai) (K:List Fr) (st:St):ghR T ow k c K (some st)=Rn T ow k (.code c::K) st:=rfl
theorem P5 (c:ai) (K:List Fr) (st:St):Rn T ow k (.code (.loop c)::K) st=goR T ow k K (ci T ow (.loop c) st):=aX _ _ _
theorem yh (K:List Fr) (st:St):goR T ow k K (some (.normal,st))=Rn T ow k K st:=rfl
theorem EW (id:Nat) (K:List Fr) (st:St):goR T ow k K (some (.exit id,st))=Unw T ow k id K st:=rfl
theorem I9 (K:List Fr) (st:St):goR T ow k K (some (.ret,st))=k .ret st:=rfl
theorem Ha (id:Nat) (st:St):Unw T ow k id [] st=k (.exit id) st:=rfl
theorem DJ (id:Nat) (c:ai) (K:List Fr) (st:St):Unw T ow k id (.code c::K) st=Unw T ow k id K st:=rfl
theorem J0 (id id':Nat) (K:List Fr) (st:St):Unw T ow k id (.blk id'::K) st=if id'=id then Rn T ow k K st else Unw T ow k id K st:=rfl
theorem xF (n:Nat) (ss:List al) (live:List Nat) (K:List Fr) (st:St):Rn T ow k (.code (.region n ss live)::K) st=Rn T ow k (.steps n ss live::K) st:=by
 rw [aX,vO]
 unfold fk
 simp only [Rn,eW]
 cases cO (Call T ow) ow ss n st<;>rfl
theorem Aw (n:Nat) (ss:List al) (deps:List (List Nat)) (live:List Nat) (K:List Fr) (st:St):Rn T ow k (.code (.drawn n ss deps live)::K) st=Rn T ow k (.dr n 0 ss deps live []::K) st:=by
 rw [aX,yt]
 unfold iv
 simp only [Rn,eW]
 cases bT (Call T ow) ow n ss 0 st with
 |none=>rfl
 |some p=>
  obtain ⟨st',rs⟩:=p
  simp only [List.nil_append]
  cases dN deps (rs.filter Rec.loud)<;>rfl
theorem rI (n:Nat) (live:List Nat) (K:List Fr) (st:St):Rn T ow k (.steps n [] live::K) st=Rn T ow k K (trim live st):=rfl
noncomputable def aft (T:Tab) (ow:bm) (k:au→St→Option R) (d:Option Nat) (n:Nat) (ss:List al) (live:List Nat) (K:List Fr) (st:St):Option (V×Upd)→Option R
 |some (v,u)=>Rn T ow k (.steps (n+1) ss live::K) ((st.upd u).put d v)
 |none=>none
variable {d:Option Nat} {n:Nat} {ss:List al} {live:List Nat} {K:List Fr} {st:St}
theorem Cc (op:AOp):Rn T ow k (.steps n (⟨d,op,none⟩::ss) live::K) st=aft T ow k d n ss live K st (a6 (Call T ow) ow op st.ev st.heap n):=by
 unfold aft
 simp only [Rn,eW,cO,iC,St.want]
 cases a6 (Call T ow) ow op st.ev st.heap n with
 |none=>rfl
 |some p=>obtain ⟨v,u⟩:=p;rfl
theorem Ei (v:V) (u:Upd):aft T ow k d n ss live K st (some (v,u))=Rn T ow k (.steps (n+1) ss live::K) ((st.upd u).put d v):=rfl
theorem Dw:aft T ow k d n ss live K st none=none:=rfl
theorem NF (c:Bool) (x y:Option (V×Upd)):aft T ow k d n ss live K st (br c x y)=br c (aft T ow k d n ss live K st x) (aft T ow k d n ss live K st y):=by cases c<;>rfl
theorem CI {α:Type} (x:Option α) (f:α→Option (V×Upd)):aft T ow k d n ss live K st (x.bind f)=x.bind (fun a=>aft T ow k d n ss live K st (f a)):=by cases x<;>rfl
noncomputable def gd (T:Tab) (ow:bm) (k:au→St→Option R) (t:Nat) (b:Bool) (d:Option Nat) (op:AOp) (n:Nat) (ss:List al) (live:List Nat) (K:List Fr) (st:St):V→Option R
 | .lit (.bool c)=>br (c==b) (Rn T ow k (.steps n (⟨d,op,none⟩::ss) live::K) { st with e:=bN t (.lit (.bool c)) st.e })
  (Rn T ow k (.steps (n+1) ss live::K) ({ st with e:=bN t (.lit (.bool c)) st.e }.put d (.lit (.tuple #[]))))
 | .lit (.tuple _)=>Rn T ow k (.steps (n+1) ss live::K) (st.put d (.lit (.tuple #[])))
 |_=>none
theorem tg {α:Type}: ∀{l:List (Nat×α)} {t:Nat} {v:α},bq l t=some v→bN t v l=l
 |[],_,_,h=>by simp [bq] at h
 | (j,u)::r,t,v,h=>by
   simp only [bq] at h
   simp only [bN]
   split at h
   ·rename_i e;cases h;subst e;simp
   ·rename_i e;rw [if_neg e,tg h]
theorem ws {v:V} {t:Nat} (h:st.get t=v) (hv:v≠ .undef):({ st with e:=bN t v st.e }:St)=st:=by
 unfold St.get at h
 cases ha:bq st.e t with
 |none=>rw [ha] at h;exact absurd h.symm hv
 |some u=>
  rw [ha] at h;cases h
  show ({ st with e:=bN t u st.e }:St)=st
  rw [tg ha]
theorem Ai (t:Nat) (b:Bool) (op:AOp):Rn T ow k (.steps n (⟨d,op,some (t,b)⟩::ss) live::K) st=gd T ow k t b d op n ss live K st (st.get t):=by
 cases hg:st.get t with
 |lit v=>
  cases v with
  |bool c=>
   simp only [gd]
   rw [ws hg (by simp)]
   simp only [Rn,eW,cO,iC,St.want,hg]
   cases hcb:(c==b)
   ·simp [aA,hcb]
   ·simp [bF,hcb]
  |tuple xs=>simp only [gd];simp only [Rn,eW,cO,iC,St.want,hg]
  |_=>simp only [gd];simp only [Rn,eW,cO,iC,St.want,hg]
 |_=>simp only [gd];simp only [Rn,eW,cO,iC,St.want,hg]
theorem Jg (t:Nat) (op:AOp) (c:Bool):gd T ow k t true d op n ss live K st (.lit (.bool c))=
 br c (Rn T ow k (.steps n (⟨d,op,none⟩::ss) live::K) { st with e:=bN t (.lit (.bool true)) st.e })
  (Rn T ow k (.steps (n+1) ss live::K) ({ st with e:=bN t (.lit (.bool false)) st.e }.put d (.lit (.tuple #[])))):=by cases c<;>rfl
theorem Dp (t:Nat) (op:AOp) (c:Bool):gd T ow k t false d op n ss live K st (.lit (.bool c))=
 br c (Rn T ow k (.steps (n+1) ss live::K) ({ st with e:=bN t (.lit (.bool true)) st.e }.put d (.lit (.tuple #[]))))
  (Rn T ow k (.steps n (⟨d,op,none⟩::ss) live::K) { st with e:=bN t (.lit (.bool false)) st.e }):=by cases c<;>rfl
theorem G8 (t:Nat) (b:Bool) (op:AOp) (xs:Array Value):gd T ow k t b d op n ss live K st (.lit (.tuple xs))=Rn T ow k (.steps (n+1) ss live::K) (st.put d (.lit (.tuple #[]))):=rfl
variable {base i:Nat} {deps:List (List Nat)} {rs:List Rec} {fp:List Nat}
def AX (rs:List Rec) (i:Nat) (fp wr:List Nat):List Rec:=rs++[Rec.mk i fp wr].filter Rec.loud
theorem xJ:Rn T ow k (.dr base i [] deps live rs::K) st=br (dN deps rs) (Rn T ow k K (trim live st)) none:=by
 simp only [Rn,eW,bT,List.filter_nil,List.append_nil]
noncomputable def oT (T:Tab) (ow:bm) (k:au→St→Option R) (d:Option Nat) (base i:Nat) (ss:List al) (deps:List (List Nat)) (live:List Nat) (rs:List Rec) (K:List Fr) (st:St) (fp:List Nat):Option (V×Upd)→Option R
 |some (v,u)=>br ((u.map (·.1)).all (fun b=>decide (b∈fp)||(st.heap b).isNone))
  (Rn T ow k (.dr base (i+1) ss deps live (AX rs i fp (u.map (·.1)))::K) ((st.upd u).put d v)) none
 |none=>none
theorem MV (op:AOp):Rn T ow k (.dr base i (⟨d,op,none⟩::ss) deps live rs::K) st=
 oT T ow k d base i ss deps live rs K st (bJ ow op st.ev st.heap) (a6 (Call T ow) ow op st.ev (eR st.heap (bJ ow op st.ev st.heap)) (base+i)):=by
 unfold oT
 simp only [Rn,eW,bT,gX,St.want]
 cases ho:a6 (Call T ow) ow op st.ev (eR st.heap (bJ ow op st.ev st.heap)) (base+i) with
 |none=>rfl
 |some p=>
  obtain ⟨v,u⟩:=p
  dsimp only
  by_cases hc:(u.map (·.1)).all (fun b=>decide (b∈bJ ow op st.ev st.heap)||(st.heap b).isNone)=true
  ·rw [hc,bF,if_pos rfl]
   dsimp only
   cases bT (Call T ow) ow base ss (i+1) ((st.upd u).put d v) with
   |none=>rfl
   |some q=>
    obtain ⟨st2,rs2⟩:=q
    simp only [AX,List.filter_cons,List.filter_nil,List.append_assoc]
    cases Rec.loud ⟨i,bJ ow op st.ev st.heap,u.map (·.1)⟩<;>rfl
  ·rw [Bool.not_eq_true] at hc
   rw [hc,aA,if_neg (by decide)]
theorem Al (v:V) (u:Upd):oT T ow k d base i ss deps live rs K st fp (some (v,u))=br ((u.map (·.1)).all (fun b=>decide (b∈fp)||(st.heap b).isNone))
 (Rn T ow k (.dr base (i+1) ss deps live (AX rs i fp (u.map (·.1)))::K) ((st.upd u).put d v)) none:=rfl
theorem yd (v:V):oT T ow k d base i ss deps live rs K st fp (some (v,[]))=Rn T ow k (.dr base (i+1) ss deps live (AX rs i fp [])::K) (st.put d v):=rfl
theorem AR:oT T ow k d base i ss deps live rs K st fp none=none:=rfl
theorem Im (c:Bool) (x y:Option (V×Upd)):oT T ow k d base i ss deps live rs K st fp (br c x y)=br c (oT T ow k d base i ss deps live rs K st fp x) (oT T ow k d base i ss deps live rs K st fp y):=by cases c<;>rfl
theorem Ax {α:Type} (x:Option α) (f:α→Option (V×Upd)):oT T ow k d base i ss deps live rs K st fp (x.bind f)=x.bind (fun a=>oT T ow k d base i ss deps live rs K st fp (f a)):=by cases x<;>rfl
noncomputable def gdD (T:Tab) (ow:bm) (k:au→St→Option R) (t:Nat) (b:Bool) (d:Option Nat) (op:AOp) (base i:Nat) (ss:List al) (deps:List (List Nat)) (live:List Nat) (rs:List Rec) (K:List Fr) (st:St):V→Option R
 | .lit (.bool c)=>br (c==b) (Rn T ow k (.dr base i (⟨d,op,none⟩::ss) deps live rs::K) { st with e:=bN t (.lit (.bool c)) st.e })
  (Rn T ow k (.dr base (i+1) ss deps live rs::K) ({ st with e:=bN t (.lit (.bool c)) st.e }.put d (.lit (.tuple #[]))))
 | .lit (.tuple _)=>Rn T ow k (.dr base (i+1) ss deps live rs::K) (st.put d (.lit (.tuple #[])))
 |_=>none
theorem zL (op:AOp) (g:Nat×Bool) (h:st.want (some g)=some false):Rn T ow k (.dr base i (⟨d,op,some g⟩::ss) deps live rs::K) st=Rn T ow k (.dr base (i+1) ss deps live rs::K) (st.put d (.lit (.tuple #[]))):=by
 simp only [Rn,eW,bT,gX,h]
 cases bT (Call T ow) ow base ss (i+1) (st.put d (.lit (.tuple #[]))) with
 |none=>rfl
 |some q=>obtain ⟨st2,rs2⟩:=q;rfl
theorem NM (op:AOp) (g:Nat×Bool) (h:st.want (some g)=some true):Rn T ow k (.dr base i (⟨d,op,some g⟩::ss) deps live rs::K) st=Rn T ow k (.dr base i (⟨d,op,none⟩::ss) deps live rs::K) st:=by
 have h2:st.want none=some true:=rfl
 simp only [Rn,eW,bT,gX,h,h2]
theorem zt (op:AOp) (g:Nat×Bool) (h:st.want (some g)=none):Rn T ow k (.dr base i (⟨d,op,some g⟩::ss) deps live rs::K) st=none:=by
 simp only [Rn,eW,bT,gX,h]
theorem tA (t:Nat) (b:Bool) (op:AOp):Rn T ow k (.dr base i (⟨d,op,some (t,b)⟩::ss) deps live rs::K) st=gdD T ow k t b d op base i ss deps live rs K st (st.get t):=by
 cases hg:st.get t with
 |lit v=>
  cases v with
  |bool c=>
   simp only [gdD]
   rw [ws hg (by simp)]
   cases hcb:(c==b)
   ·rw [aA];exact zL op (t,b) (by simp [St.want,hg,hcb])
   ·rw [bF];exact NM op (t,b) (by simp [St.want,hg,hcb])
  |tuple xs=>exact zL op (t,b) (by simp [St.want,hg])
  |_=>exact zt op (t,b) (by simp [St.want,hg])
 |_=>exact zt op (t,b) (by simp [St.want,hg])
theorem DE (t:Nat) (op:AOp) (c:Bool):gdD T ow k t true d op base i ss deps live rs K st (.lit (.bool c))=
 br c (Rn T ow k (.dr base i (⟨d,op,none⟩::ss) deps live rs::K) { st with e:=bN t (.lit (.bool true)) st.e })
  (Rn T ow k (.dr base (i+1) ss deps live rs::K) ({ st with e:=bN t (.lit (.bool false)) st.e }.put d (.lit (.tuple #[])))):=by cases c<;>rfl
theorem Ck (t:Nat) (op:AOp) (c:Bool):gdD T ow k t false d op base i ss deps live rs K st (.lit (.bool c))=
 br c (Rn T ow k (.dr base (i+1) ss deps live rs::K) ({ st with e:=bN t (.lit (.bool true)) st.e }.put d (.lit (.tuple #[]))))
  (Rn T ow k (.dr base i (⟨d,op,none⟩::ss) deps live rs::K) { st with e:=bN t (.lit (.bool false)) st.e }):=by cases c<;>rfl
theorem Af (t:Nat) (b:Bool) (op:AOp) (xs:Array Value):gdD T ow k t b d op base i ss deps live rs K st (.lit (.tuple xs))=Rn T ow k (.dr base (i+1) ss deps live rs::K) (st.put d (.lit (.tuple #[]))):=rfl
end
def yn (af:aj) (m:Nat) (x:au) (st:St):Option (V×List Blk):=ww af (e6 af m (some (x,st)))
theorem a9 {T:Tab} {ow:bm} {f:FuncId} {af:aj} (hT:T f=some (.code af)) (a:List V) (b:List Blk):Call T ow f a b=Rn T ow (yn af b.length) [.code af.body] (start a b):=by
 rw [A0,hT]
 dsimp only
 rw [aX]
 cases ci T ow af.body (start a b) with
 |none=>rfl
 |some p=>obtain ⟨e,st⟩:=p;cases e<;>rfl
def m5 {S E:Type} (step:S→Option (S⊕E)):Nat→S→Option E
 |0,_=>none
 |n+1,s=>match step s with
  |none=>none
  |some (.inl s')=>m5 step n s'
  |some (.inr e)=>some e
theorem sX {S E:Type} {step:S→Option (S⊕E)}: ∀{n:Nat} {s:S} {e:E},m5 step n s=some e→m5 step (n+1) s=some e
 |0,_,_,h=>by cases h
 |n+1,s,e,h=>by
  simp only [m5] at h ⊢
  split at h
  ·cases h
  ·rename_i s' hs;exact sX h
  ·rename_i e' hs;exact h
theorem IV {S E:Type} {step:S→Option (S⊕E)} {n m:Nat} (hnm:n≤m) {s:S} {e:E} (h:m5 step n s=some e):m5 step m s=some e:=by
 induction hnm with
 |refl=>exact h
 |step _ ih=>exact sX ih
noncomputable def Loop {S E:Type} (step:S→Option (S⊕E)) (s:S):Option E:=lim (fun n=>m5 step n s)
theorem pi {S E:Type} {step:S→Option (S⊕E)} {s:S} {e:E} (h:Loop step s=some e): ∃n,m5 step n s=some e:=yU h
theorem tU {S E:Type} {step:S→Option (S⊕E)} {n:Nat} {s:S} {e:E} (h:m5 step n s=some e):Loop step s=some e:=
 z5 (g:=fun n=>m5 step n s) (fun _ _ _ hnm h=>IV hnm h) h
def Po {S E:Type} (lp:S→Option E):Option (S⊕E)→Option E
 |none=>none
 |some (.inl s')=>lp s'
 |some (.inr e)=>some e
theorem uH {S E:Type} (step:S→Option (S⊕E)) (s:S):Loop step s=Po (Loop step) (step s):=by
 refine ge (fun r h=> ?_) (fun r h=> ?_)
 ·obtain ⟨n,hn⟩:=pi h
  cases n with
  |zero=>cases hn
  |succ n=>
   simp only [m5] at hn
   split at hn
   ·cases hn
   ·rename_i s' hs;rw [hs];exact tU hn
   ·rename_i e' hs;rw [hs];exact hn
 ·cases hs:step s with
  |none=>rw [hs] at h;cases h
  |some o=>
   rw [hs] at h
   cases o with
   |inl s'=>
    obtain ⟨n,hn⟩:=pi (show Loop step s'=some r from h)
    exact tU (n:=n+1) (by simp only [m5,hs];exact hn)
   |inr e=>exact tU (n:=1) (by simp only [m5,hs];exact h)
def OQ (x:au) (st:St):Option (au×St):=some (x,st)
theorem DX {T:Tab} {ow:bm} (c:ai) (st:St):ci T ow c st=Rn T ow OQ [.code c] st:=by
 rw [aX]
 cases ci T ow c st with
 |none=>rfl
 |some p=>obtain ⟨e,st⟩:=p;cases e<;>rfl
theorem OD {T:Tab} {ow:bm} {S E:Type} {c:ai} {step:S→Option (S⊕E)} {eS:S→St} {eE:E→au×St} (hne: ∀e,(eE e).1≠ .normal)
 (hb: ∀s o,step s=some o→Rn T ow OQ [.code c] (eS s)=some (match o with
  | .inl s'=>(.normal,eS s')
  | .inr e=>eE e)) {s:S} {e:E} (h:Loop step s=some e):ci T ow (.loop c) (eS s)=some (eE e):=by
 obtain ⟨n,hn⟩:=pi h
 clear h
 induction n generalizing s with
 |zero=>cases hn
 |succ n ih=>
  simp only [m5] at hn
  rw [sH,DX]
  split at hn
  ·cases hn
  ·rename_i s' hs
   rw [hb s _ hs]
   exact ih hn
  ·rename_i e' hs
   rw [hb s _ hs]
   cases hn
   dsimp only
   have:=hne e
   revert this
   generalize eE e=p
   obtain ⟨x,st⟩:=p
   intro this
   cases x with
   |normal=>exact absurd rfl this
   |exit id=>rfl
   |ret=>rfl
def oM (g:bj):ai→ai
 | .seq a b=> .seq (oM g a) b
 | .block id a=> .block id (oM g a)
 |c=> .ghost g c
section
variable {R:Type} {T:Tab} {ow:bm} {k:au→St→Option R}
def ghE (T:Tab) (ow:bm) (c:ai):Option St→Option (au×St)→Option (au×St)
 |some _,r=>r
 |none,_=>none
theorem nH (g:bj): ∀(c:ai) (st:St),ci T ow (oM g c) st=(match aE st g with
 |some st'=>ci T ow c st'
 |none=>none)
 | .seq a b,st=>by
   simp only [oM]
   rw [qj,nH g a st]
   cases aE st g with
   |none=>rfl
   |some st'=>dsimp only;rw [qj]
 | .block id a,st=>by
   simp only [oM]
   rw [m0,nH g a st]
   cases aE st g with
   |none=>rfl
   |some st'=>dsimp only;rw [m0]
 | .skip,st=>cK _ _ _
 | .region _ _ _,st=>cK _ _ _
 | .drawn _ _ _ _,st=>cK _ _ _
 | .cond _ _ _,st=>cK _ _ _
 | .loop _,st=>cK _ _ _
 | .exit _,st=>cK _ _ _
 | .ret,st=>cK _ _ _
 | .ghost _ _,st=>cK _ _ _
noncomputable def cf (T:Tab) (ow:bm) (g:bj) (c:ai) (st:St):Option (au×St):=match ci T ow c st with
 |some (.normal,st')=>ci T ow (.loop (oM g c)) st'
 |r=>r
noncomputable def goL (T:Tab) (ow:bm) (k:au→St→Option R) (K:List Fr) (g:bj) (c:ai):Option St→Option R
 |some st'=>goR T ow k K (cf T ow g c st')
 |none=>none
theorem pW (g:bj) (c:ai) (st:St):ci T ow (.loop (oM g c)) st=(match aE st g with
 |some st'=>cf T ow g c st'
 |none=>none):=by
 rw [sH,nH]
 cases aE st g<;>rfl
theorem Cf (g:bj) (c:ai) (K:List Fr) (st:St):Rn T ow k (.code (.loop (oM g c))::K) st=goL T ow k K g c (aE st g):=by
 rw [aX,pW]
 cases aE st g<;>rfl
theorem GG (K:List Fr) (g:bj) (c:ai) (st':St):goL T ow k K g c (some st')=goR T ow k K (cf T ow g c st'):=rfl
def ogM:Option St→Option (au×St)
 |some st=>some (.normal,st)
 |none=>none
def uy (g:bj):au→St→Option (au×St)
 | .normal,st=>ogM (aE st g)
 |x,st=>some (x,st)
theorem vH (g:bj) (st:St):uy g .normal st=ogM (aE st g):=rfl
theorem AK (g:bj) (id:Nat) (st:St):uy g (.exit id) st=some (.exit id,st):=rfl
theorem DK (g:bj) (st:St):uy g .ret st=some (.ret,st):=rfl
theorem Dd (st:St):ogM (some st)=some (.normal,st):=rfl
theorem Bk {S E:Type} {g:bj} {c:ai} {step:S→Option (S⊕E)} {eS:S→St} {eE:E→au×St} (hne: ∀e,(eE e).1≠ .normal)
 (hb: ∀s o,step s=some o→Rn T ow (uy g) [.code c] (eS s)=some (match o with
  | .inl s'=>(.normal,eS s')
  | .inr e=>eE e)) {s:S} {e:E} (h:Loop step s=some e):cf T ow g c (eS s)=some (eE e):=by
 obtain ⟨n,hn⟩:=pi h
 clear h
 induction n generalizing s with
 |zero=>cases hn
 |succ n ih=>
  simp only [m5] at hn
  unfold cf
  split at hn
  ·cases hn
  ·rename_i s' hs
   have h1:=hb s _ hs
   rw [aX] at h1
   cases hx:ci T ow c (eS s) with
   |none=>rw [hx] at h1;cases h1
   |some p=>
    obtain ⟨x,st'⟩:=p
    rw [hx] at h1
    cases x with
    |normal=>
     dsimp only
     rw [pW]
     simp only [goR,Rn,eW,uy,ogM] at h1
     cases hg:aE st' g with
     |none=>rw [hg] at h1;cases h1
     |some st2=>rw [hg] at h1;cases h1;exact ih hn
    |exit id=>simp [goR,Unw,eW,uy] at h1
    |ret=>simp [goR,uy] at h1
  ·rename_i e' hs
   have h1:=hb s _ hs
   cases hn
   have hn2:=hne e
   rw [aX] at h1
   dsimp only at h1
   revert h1 hn2
   generalize eE e=q
   intro h1 hn2
   cases hx:ci T ow c (eS s) with
   |none=>rw [hx] at h1;cases h1
   |some p=>
    obtain ⟨x,st'⟩:=p
    rw [hx] at h1
    cases x with
    |normal=>
     simp only [goR,Rn,eW,uy,ogM] at h1
     cases hg:aE st' g with
     |none=>rw [hg] at h1;cases h1
     |some st2=>rw [hg] at h1;cases h1;exact absurd rfl hn2
    |exit id=>exact h1
    |ret=>exact h1
variable {d:Option Nat} {n:Nat} {ss:List al} {live:List Nat} {K:List Fr} {st:St} {base i:Nat} {deps:List (List Nat)} {rs:List Rec} {fp:List Nat} {r:R}
theorem uF {x:Option (au×St)} {p:au×St} (h:x=some p) (hr:goR T ow k K (some p)=some r):goR T ow k K x=some r:=by rw [h];exact hr
theorem BS (g:bj) (c:ai):goR T ow k K (cf T ow g c st)=Rn T ow k (.code c:: .code (.loop (oM g c))::K) st:=by
 rw [aX]
 unfold cf
 cases hx:ci T ow c st with
 |none=>rfl
 |some p=>
  obtain ⟨x,st'⟩:=p
  cases x with
  |normal=>dsimp only;simp only [goR];rw [aX];rfl
  |exit id=>rfl
  |ret=>rfl
theorem ee {g:bj} {c:ai} (h:Rn T ow k (.code c:: .code (.loop (oM g c))::K) st=some r):goR T ow k K (cf T ow g c st)=some r:=by rw [BS];exact h
theorem bind_some {α β:Type} {x:Option α} {a:α} {F:α→Option β} {r:β} (h:x=some a) (hr:F a=some r):x.bind F=some r:=by rw [h];exact hr
end
end Go.AI
set_option linter.unusedVariables false
set_option linter.unusedSimpArgs false
namespace Go.AI
abbrev I (n:Int):V:= .lit (.int .i64 n)
abbrev B (b:Bool):V:= .lit (.bool b)
abbrev S (s:List UInt8):V:= .lit (.string ⟨⟨s⟩⟩)
structure En (α:Type) where
 esz:Nat
 enc:α→List V
def rws {α:Type} (e:En α) (l:List α):List (List V):=l.map e.enc
def sl {α:Type} (e:En α) (l:List α):V:=(V.imm e.esz (rws e l)).cz
theorem N2 {α:Type} (e:En α):sl e []= .imm 1 []:=rfl
theorem Ps {α:Type} (e:En α) (x:α) (l:List α):sl e (x::l)= .imm e.esz (rws e (x::l)):=rfl
def eI:En Int:=⟨1,fun n=>[I n]⟩
def eU8:En UInt8:=⟨1,fun b=>[.lit (.int .u8 b.toNat)]⟩
def wv:En Int:=⟨1,fun n=>[.lit (.int .u64 n)]⟩
def eB:En Bool:=⟨1,fun b=>[B b]⟩
def eS:En (List UInt8):=⟨1,fun s=>[S s]⟩
def eL {α:Type} (e:En α):En (List α):=⟨1,fun l=>[sl e l]⟩
theorem Mi:eI.esz=1:=by decide
theorem Nm (n:Int):eI.enc n=[I n]:=rfl
theorem K2:eU8.esz=1:=by decide
theorem Jj (n:UInt8):eU8.enc n=[.lit (.int .u8 n.toNat)]:=rfl
theorem CF:wv.esz=1:=by decide
theorem Dg (n:Int):wv.enc n=[.lit (.int .u64 n)]:=rfl
theorem Mb:eB.esz=1:=by decide
theorem N8 (n:Bool):eB.enc n=[B n]:=rfl
theorem KC:eS.esz=1:=by decide
theorem KE (n:List UInt8):eS.enc n=[S n]:=rfl
theorem Ld {α:Type} (e:En α):(eL e).esz=1:=of_decide_eq_true rfl
theorem LG {α:Type} (e:En α) (l:List α):(eL e).enc l=[sl e l]:=rfl
def atL {α:Type} (l:List α) (i:Int):Option α:=if 0≤i then l[i.toNat]? else none
def oH {α:Type} (l:List α) (a b:Int):Option (List α):=if 0≤a∧a≤b∧b≤l.length then some ((l.take b.toNat).drop a.toNat) else none
def inb (i:Int) (n:Nat):Bool:=decide (0≤i)&&decide (i.toNat<n)
def mH (n bytes:Nat):Bool:=decide (n*bytes≤aC)
def nw (l c:Int) (bytes:Nat):Bool:=decide (0≤l)&&decide (l≤c)&&decide (c*bytes≤aC)
def mx (a b:Int):Int:=if b>a then b else a
def mn (a b:Int):Int:=if b<a then b else a
def zA (r:List (List V)):Nat:=r.length
def app (r q:List (List V)):List (List V):=r++q
def mkR (n:Nat) (r:List (List V)):List (List V):=r
def b6 (row:List V) (r:List (List V)):List (List V):=row::r
def oN (n k:Nat) (row:List V):List (List V):=List.replicate k row
def cG (r:List (List V)) (i:Nat) (row:List V):List (List V):=r.set i row
section
variable {α:Type} {e:En α} {l l2:List α}
theorem BZ:zA (rws e l)=l.length:=by simp [zA,rws]
theorem IQ:app (rws e l) (rws e l2)=rws e (l++l2):=by simp [app,rws]
theorem mk0 (e:En α) (n:Nat):mkR n []=rws e []:=rfl
theorem F6 (n:Nat) (row:List V) (r:List (List V)):mkR n (row::r)=b6 row (mkR n r):=rfl
theorem Pj (a:Int) (l:List Int):b6 [I a] (rws eI l)=rws eI (a::l):=rfl
theorem Oy (a:List UInt8) (l:List (List UInt8)):b6 [S a] (rws eS l)=rws eS (a::l):=rfl
theorem NQ (a:List α) (l:List (List α)):b6 [sl e a] (rws (eL e) l)=rws (eL e) (a::l):=rfl
theorem L8 (l:List (List α)):b6 [.imm 1 []] (rws (eL e) l)=rws (eL e) ([]::l):=rfl
theorem Og (b:Bool) (l:List Bool):b6 [B b] (rws eB l)=rws eB (b::l):=rfl
theorem II (a:Int) (l:List Int):b6 [.lit (.int .u64 a)] (rws wv l)=rws wv (a::l):=rfl
theorem xQ (b:UInt8) (l:List UInt8):b6 [.lit (.int .u8 b.toNat)] (rws eU8 l)=rws eU8 (b::l):=rfl
theorem fC (x:Int):((UInt8.ofInt x).toNat:Int)=IntKind.u8.wrap x:=by
 simp [UInt8.ofInt,IntKind.wrap,IntKind.bits,IntKind.signed]
 omega
theorem mz (x:Int) (l:List UInt8):b6 [.lit (.int .u8 (IntKind.u8.wrap x))] (rws eU8 l)=rws eU8 (UInt8.ofInt x::l):=by
 rw [←fC];rfl
theorem Pt (n:Nat) (h:n<256) (l:List UInt8):b6 [.lit (.int .u8 (n:Int))] (rws eU8 l)=rws eU8 (UInt8.ofNat n::l):=by
 have:(UInt8.ofNat n).toNat=n:=by simp;omega
 rw [←xQ,this]
theorem Jo (n:Nat) (h:Nat.ble n 255=true) (l:List UInt8):b6 [.lit (.int .u8 (no_index (OfNat.ofNat n:Int)))] (rws eU8 l)=rws eU8 ((OfNat.ofNat n:UInt8)::l):=by
 have h':=Nat.le_of_ble_eq_true h
 have:((OfNat.ofNat n:UInt8).toNat:Int)=(OfNat.ofNat n:Int):=by
  show ((UInt8.ofNat n).toNat:Int)=(n:Int)
  simp;omega
 rw [←xQ,this]
theorem PM (l:List Int) (i:Nat) (a:Int):cG (rws eI l) i [I a]=rws eI (l.set i a):=by simp [cG,rws,eI]
theorem Ky (l:List Int) (i:Nat) (a:Int):cG (rws wv l) i [.lit (.int .u64 a)]=rws wv (l.set i a):=by simp [cG,rws,wv]
theorem setB (l:List Bool) (i:Nat) (a:Bool):cG (rws eB l) i [B a]=rws eB (l.set i a):=by simp [cG,rws,eB]
theorem NB (l:List (List UInt8)) (i:Nat) (a:List UInt8):cG (rws eS l) i [S a]=rws eS (l.set i a):=by simp [cG,rws,eS]
theorem PC (l:List (List α)) (i:Nat) (a:List α):cG (rws (eL e) l) i [sl e a]=rws (eL e) (l.set i a):=by simp [cG,rws,eL]
theorem Kj (l:List UInt8) (i:Nat) (a:UInt8):cG (rws eU8 l) i [.lit (.int .u8 a.toNat)]=rws eU8 (l.set i a):=by simp [cG,rws,eU8]
theorem pH (l:List UInt8) (i:Nat) (x:Int):cG (rws eU8 l) i [.lit (.int .u8 (IntKind.u8.wrap x))]=rws eU8 (l.set i (UInt8.ofInt x)):=by
 rw [←fC,Kj]
theorem F5 (e:En α) (x:α) (n k:Nat):oN n k (e.enc x)=rws e (List.replicate k x):=by simp [oN,rws]
theorem N1 (m:Nat) (h:e.esz=m):V.cz (.imm m (rws e l))=sl e l:=by subst h;rfl
theorem OV (r:List (List V)):r.drop 0=r:=rfl
theorem Pd (k:Nat):(rws e l).drop k=rws e (l.drop k):=by simp [rws]
theorem cF (e:En α) (l:List α):(l=[]∧sl e l= .imm 1 [])∨(l≠[]∧sl e l= .imm e.esz (rws e l)):=by
 cases l with
 |nil=>exact .inl ⟨rfl,rfl⟩
 |cons x l=>exact .inr ⟨by simp,rfl⟩
theorem O3:(sl e l).cz=sl e l:=by
 cases l with
 |nil=>rfl
 |cons x l=>rfl
theorem Lw:(sl e l).czA=sl e l:=by
 cases l with
 |nil=>rfl
 |cons x l=>rfl
theorem L1:(sl e l).czR=sl e l:=by
 cases l with
 |nil=>rfl
 |cons x l=>rfl
theorem HP:(sl e l).cell=true:=by
 rcases cF e l with ⟨_,h⟩|⟨_,h⟩<;>rw [h]<;>rfl
theorem Od:(sl e l).cl=true:=by
 rcases cF e l with ⟨_,h⟩|⟨_,h⟩<;>rw [h]<;>rfl
theorem EE:(sl e l).cells=[sl e l]:=by
 rcases cF e l with ⟨_,h⟩|⟨_,h⟩<;>rw [h]<;>rfl
theorem IG:bE (sl e l)=[]:=by
 rcases cF e l with ⟨_,h⟩|⟨_,h⟩<;>rw [h]<;>rfl
theorem Hg:fW (sl e l)=[]:=by
 rcases cF e l with ⟨_,h⟩|⟨_,h⟩<;>rw [h]<;>rfl
theorem A2 {h:a8}:dX h (sl e l)=some (sl e l,[]):=by
 rcases cF e l with ⟨_,h⟩|⟨_,h⟩<;>rw [h]<;>rfl
theorem z8 {h:a8} {own:Bool} {ids:List Nat}:aO h own ids (sl e l)=some (sl e l,ids,[]):=by
 rcases cF e l with ⟨_,h⟩|⟨_,h⟩<;>rw [h]<;>rfl
theorem BI {h:a8} {own:Bool} {ids:List Nat}:be h own ids (sl e l)=some (sl e l,ids,[]):=by
 rcases cF e l with ⟨_,h⟩|⟨_,h⟩<;>rw [h]<;>rfl
theorem Nw {ids:List Nat}:unV ids (sl e l)=sl e l:=by
 rcases cF e l with ⟨_,h⟩|⟨_,h⟩<;>rw [h]<;>rfl
theorem Fu {ids:List Nat}:dC ids (sl e l)=sl e l:=by
 rcases cF e l with ⟨_,h⟩|⟨_,h⟩<;>rw [h]<;>rfl
theorem D1 {ids:List Nat}:jw ids (sl e l)=sl e l:=by
 rcases cF e l with ⟨_,h⟩|⟨_,h⟩<;>rw [h]<;>rfl
theorem D9:eF (sl e l)=false:=by
 rcases cF e l with ⟨_,h⟩|⟨_,h⟩<;>rw [h]<;>rfl
theorem D6:kM (sl e l)=false:=by
 rcases cF e l with ⟨_,h⟩|⟨_,h⟩<;>rw [h]<;>rfl
theorem FF:fF (sl e l)=false:=by
 rcases cF e l with ⟨_,h⟩|⟨_,h⟩<;>rw [h]<;>rfl
theorem Mf {h:a8} {bs:List Nat}:fzC h bs (sl e l)=sl e l:=by
 rcases cF e l with ⟨_,h⟩|⟨_,h⟩<;>rw [h]<;>rfl
theorem Lx {h:a8} {bs:List Nat}:fzA h bs (sl e l)=sl e l:=by
 rcases cF e l with ⟨_,h⟩|⟨_,h⟩<;>rw [h]<;>rfl
theorem JO {h:a8} {m:Nat} {kp:List Nat}:eZ h m kp (sl e l)=some (sl e l):=by
 rcases cF e l with ⟨_,h⟩|⟨_,h⟩<;>rw [h]<;>rfl
theorem Jd {h:a8} {m:Nat} {kp:List Nat}:m7 h m kp (sl e l)=some (sl e l):=by
 rcases cF e l with ⟨_,h⟩|⟨_,h⟩<;>rw [h]<;>rfl
theorem Hc {h:a8} {m:Nat} {kp:List Nat}:md h m kp (sl e l)=some (sl e l):=by
 rcases cF e l with ⟨_,h⟩|⟨_,h⟩<;>rw [h]<;>rfl
theorem MZ:okC (sl e l)=true:=by
 rcases cF e l with ⟨_,h⟩|⟨_,h⟩<;>rw [h]<;>rfl
theorem sT {h:a8} (m:Nat) (hm:e.esz=m):aR h m (sl e l)=some (rws e l):=by
 subst hm
 rcases cF e l with ⟨rfl,h⟩|⟨hl,h⟩
 ·rw [h];simp [aR,rws]
 ·rw [h];simp [aR]
theorem wK:zY (sl e l)=false:=by
 rcases cF e l with ⟨_,h⟩|⟨_,h⟩<;>rw [h]<;>rfl
end
end Go.AI
