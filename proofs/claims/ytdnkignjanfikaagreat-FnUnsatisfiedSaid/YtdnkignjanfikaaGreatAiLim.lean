/- The limit of the abstract machine's runs: more rounds tell the same; the equations of the limit. -/
import Derived.Test.YtdnkignjanfikaaGreatAiDefs
namespace Go.AI
theorem KT {C C':aY} (hC: ∀f a b r,C f a b=some r→C' f a b=some r) {ow:cy} {h:au} {new:Nat} {f:FuncId} {args:List V} {r:V×Upd}
 (hr:kx C ow h new f args=some r):kx C' ow h new f args=some r:=by
 unfold kx at hr ⊢
 cases hp:cV ow h f args with
 |none=>rw [hp] at hr;cases hr
 |some p=>
  obtain ⟨args',blks,ids,bor⟩:=p
  rw [hp] at hr
  dsimp only at hr ⊢
  cases hc:C f (ra (ow f) args') (qZ (ow f) blks) with
  |none=>rw [hc] at hr;cases hr
  |some q=>rw [hC _ _ _ _ hc];rw [hc] at hr;exact hr
theorem MY {C C':aY} (hC: ∀f a b r,C f a b=some r→C' f a b=some r) {ow:cy} {o:AOp} {ev:Opd→V} {h:au} {new:Nat} {r:V×Upd}
 (hr:aj C ow o ev h new=some r):aj C' ow o ev h new=some r:=by
 cases o
 case call f args=>simp only [aj] at hr ⊢;exact KT hC hr
 case dyn f args=>
  simp only [aj] at hr ⊢
  split at hr
  ·exact KT hC hr
  ·cases hr
 all_goals exact hr
theorem R0 {C:Nat→aY} {D:aY} (hD: ∀f a b r,D f a b=some r→ ∃n,C n f a b=some r) (n0:Nat) {ow:cy} {o:AOp} {ev:Opd→V} {h:au} {new:Nat} {r:V×Upd}
 (hr:aj D ow o ev h new=some r): ∃n,aj (C n) ow o ev h new=some r:=by
 have key: ∀f args,kx D ow h new f args=some r→ ∃n,kx (C n) ow h new f args=some r:=by
  intro f args hr
  unfold kx at hr
  cases hp:cV ow h f args with
  |none=>rw [hp] at hr;cases hr
  |some p=>
   obtain ⟨args',blks,ids,bor⟩:=p
   rw [hp] at hr
   dsimp only at hr
   cases hc:D f (ra (ow f) args') (qZ (ow f) blks) with
   |none=>rw [hc] at hr;cases hr
   |some q=>
    rw [hc] at hr
    obtain ⟨n,hn⟩:=hD _ _ _ _ hc
    refine ⟨n, ?_⟩
    unfold kx
    rw [hp]
    dsimp only
    rw [hn]
    exact hr
 cases o
 case call f args=>simp only [aj] at hr ⊢;exact key _ _ hr
 case dyn f args=>
  simp only [aj] at hr ⊢
  split at hr
  ·exact key _ _ hr
  ·cases hr
 all_goals exact ⟨n0,hr⟩
theorem MC {C C':aY} (hC: ∀f a b r,C f a b=some r→C' f a b=some r) {ow:cy} {st:St} {s:bf} {n:Nat} {r:St}
 (hr:zg C ow st s n=some r):zg C' ow st s n=some r:=by
 unfold zg at hr ⊢
 split at hr
 ·cases hr
 ·exact hr
 ·split at hr
  ·rename_i v u ho;rw [MY hC ho];exact hr
  ·cases hr
theorem s9 {C C':aY} (hC: ∀f a b r,C f a b=some r→C' f a b=some r) {ow:cy}: ∀{l:List bf} {n:Nat} {st:St} {r:St},
 g8 C ow l n st=some r→g8 C' ow l n st=some r
 |[],_,_,_,hr=>hr
 |s::l,n,st,r,hr=>by
  simp only [g8] at hr ⊢
  split at hr
  ·rename_i st' h;rw [MC hC h];exact s9 hC hr
  ·cases hr
theorem Od {C C':aY} (hC: ∀f a b r,C f a b=some r→C' f a b=some r) {ow:cy} {st:St} {s:bf} {i n:Nat} {r:St×Rec}
 (hr:vf C ow st s i n=some r):vf C' ow st s i n=some r:=by
 unfold vf at hr ⊢
 split at hr
 ·cases hr
 ·exact hr
 ·split at hr
  ·rename_i v u ho;rw [MY hC ho];exact hr
  ·cases hr
theorem sw {C C':aY} (hC: ∀f a b r,C f a b=some r→C' f a b=some r) {ow:cy} {base:Nat}: ∀{l:List bf} {n:Nat} {st:St} {r:St×List Rec},
 gj C ow base l n st=some r→gj C' ow base l n st=some r
 |[],_,_,_,hr=>hr
 |s::l,n,st,r,hr=>by
  simp only [gj] at hr ⊢
  split at hr
  ·rename_i st' rc h
   rw [Od hC h]
   dsimp only
   split at hr
   ·rename_i st2 rs h2;rw [sw hC h2];exact hr
   ·cases hr
  ·cases hr
theorem bZ {C C':aY} (hC: ∀f a b r,C f a b=some r→C' f a b=some r) {ow:cy}: ∀(n m:Nat),n≤m→ ∀{c:aq} {st:St} {r:aw×St},
 bL C ow n c st=some r→bL C' ow m c st=some r
 |0,_,_,_,_,_,hr=>by simp [bL] at hr
 |n+1,0,h,_,_,_,_=>absurd h (by omega)
 |n+1,m+1,h,c,st,r,hr=>by
  have ih:=fun {c st r}=>bZ hC (ow:=ow) n m (by omega) (c:=c) (st:=st) (r:=r)
  cases c with
  |skip=>exact hr
  |region base steps live=>
   simp only [bL,oO] at hr ⊢
   split at hr
   ·rename_i st' h;rw [s9 hC h];exact hr
   ·cases hr
  |drawn base steps deps live=>
   simp only [bL,xK] at hr ⊢
   split at hr
   ·rename_i st' rs h;rw [sw hC h];exact hr
   ·cases hr
  |seq a b=>
   simp only [bL] at hr ⊢
   cases ha:bL C ow n a st with
   |none=>rw [ha] at hr;cases hr
   |some p=>
    obtain ⟨e,st'⟩:=p
    rw [ih ha]
    rw [ha] at hr
    cases e with
    |normal=>exact ih hr
    |exit id=>exact hr
    |ret=>exact hr
  |cond c a b=>
   simp only [bL] at hr ⊢
   split at hr
   ·exact ih hr
   ·exact ih hr
   ·cases hr
  |block id c=>
   simp only [bL] at hr ⊢
   cases ha:bL C ow n c st with
   |none=>rw [ha] at hr;cases hr
   |some p=>rw [ih ha];rw [ha] at hr;exact hr
  |loop c=>
   simp only [bL] at hr ⊢
   cases ha:bL C ow n c st with
   |none=>rw [ha] at hr;cases hr
   |some p=>
    obtain ⟨e,st'⟩:=p
    rw [ih ha]
    rw [ha] at hr
    cases e with
    |normal=>exact ih hr
    |exit id=>exact hr
    |ret=>exact hr
  |exit id=>exact hr
  |ret=>exact hr
  |ghost g c=>
   simp only [bL] at hr ⊢
   split at hr
   ·exact ih hr
   ·cases hr
theorem P0 (T:Tab) (ow:cy): ∀(n:Nat) f a b r,cS T ow n f a b=some r→cS T ow (n+1) f a b=some r
 |0,_,_,_,_,h=>by simp [cS] at h
 |n+1,f,a,b,r,h=>by
  simp only [cS] at h ⊢
  split at h
  ·cases h
  rotate_left
  ·exact h
  ·rename_i af haf
   cases he:bL (cS T ow n) ow n af.body (start a b) with
   |none=>rw [he] at h;simp [ik,XR] at h
   |some p=>
    have:=bZ (P0 T ow n) (ow:=ow) n (n+1) (by omega) he
    simp only [cS] at this
    rw [this]
    rw [he] at h
    exact h
theorem bY (T:Tab) (ow:cy) {n m:Nat} (h:n≤m): ∀f a b r,cS T ow n f a b=some r→cS T ow m f a b=some r:=by
 induction h with
 |refl=>exact fun _ _ _ _ h=>h
 |step _ ih=>exact fun f a b r h=>P0 T ow _ f a b r (ih f a b r h)
open Classical in
noncomputable def lim {α:Type} (g:Nat→Option α):Option α:=if h: ∃n r,g n=some r then g h.choose else none
theorem a0c {α:Type} {g:Nat→Option α} (hm: ∀n m r,n≤m→g n=some r→g m=some r) {n:Nat} {r:α} (h:g n=some r):lim g=some r:=by
 have hx: ∃n r,g n=some r:=⟨n,r,h⟩
 unfold lim
 rw [dif_pos hx]
 obtain ⟨r',hr'⟩:=hx.choose_spec
 have h1:=hm _ (max n hx.choose) _ (Nat.le_max_left _ _) h
 have h2:=hm _ (max n hx.choose) _ (Nat.le_max_right _ _) hr'
 rw [h1] at h2
 rw [hr', ←h2]
theorem S6 {α:Type} {g:Nat→Option α} {r:α} (h:lim g=some r): ∃n,g n=some r:=by
 unfold lim at h
 split at h
 ·exact ⟨_,h⟩
 ·cases h
noncomputable def Call (T:Tab) (ow:cy):aY:=fun f a b=>lim fun n=>cS T ow n f a b
noncomputable def dT (T:Tab) (ow:cy) (c:aq) (st:St):Option (aw×St):=lim fun n=>bL (cS T ow n) ow n c st
section
variable {T:Tab} {ow:cy}
theorem b6a {n m:Nat} (h:n≤m) {c:aq} {st:St} {r:aw×St} (hr:bL (cS T ow n) ow n c st=some r):bL (cS T ow m) ow m c st=some r:=
 bZ (bY T ow h) n m h hr
theorem dE {n:Nat} {c:aq} {st:St} {r:aw×St} (h:bL (cS T ow n) ow n c st=some r):dT T ow c st=some r:=
 a0c (g:=fun n=>bL (cS T ow n) ow n c st) (fun _ _ _ hnm h=>b6a hnm h) h
theorem hZ {c:aq} {st:St} {r:aw×St} (h:dT T ow c st=some r): ∃n,bL (cS T ow n) ow n c st=some r:=S6 h
theorem Uc {n:Nat} {f:FuncId} {a:List V} {b:List Blk} {r:V×List Blk} (h:cS T ow n f a b=some r):Call T ow f a b=some r:=
 a0c (g:=fun n=>cS T ow n f a b) (fun _ _ _ hnm h=>bY T ow hnm _ _ _ _ h) h
theorem M7 {f:FuncId} {a:List V} {b:List Blk} {r:V×List Blk} (h:Call T ow f a b=some r): ∃n,cS T ow n f a b=some r:=S6 h
theorem uD {α:Type} {a b:Option α} (h1: ∀r,a=some r→b=some r) (h2: ∀r,b=some r→a=some r):a=b:=by
 cases a with
 |none=>cases b with
  |none=>rfl
  |some r=>exact absurd (h2 r rfl) (by simp)
 |some r=>exact (h1 r rfl).symm
theorem ON: ∀{l:List bf} {n:Nat} {st:St} {r:St},g8 (Call T ow) ow l n st=some r→ ∃k,g8 (cS T ow k) ow l n st=some r
 |[],_,_,_,h=>⟨0,h⟩
 |s::l,n,st,r,h=>by
  simp only [g8] at h
  cases h1:zg (Call T ow) ow st s n with
  |none=>rw [h1] at h;cases h
  |some st'=>
   rw [h1] at h
   obtain ⟨k2,hk2⟩:=ON h
   have: ∃k,zg (cS T ow k) ow st s n=some st':=by
    unfold zg at h1 ⊢
    split at h1
    ·cases h1
    ·exact ⟨0,h1⟩
    ·split at h1
     ·rename_i v u ho
      obtain ⟨k,hk⟩:=R0 (C:=cS T ow) (D:=Call T ow) (fun _ _ _ _ h=>M7 h) 0 ho
      exact ⟨k,by rw [hk];exact h1⟩
     ·cases h1
   obtain ⟨k1,hk1⟩:=this
   refine ⟨max k1 k2, ?_⟩
   simp only [g8]
   rw [MC (bY T ow (Nat.le_max_left k1 k2)) hk1]
   exact s9 (bY T ow (Nat.le_max_right k1 k2)) hk2
theorem Om {base:Nat}: ∀{l:List bf} {n:Nat} {st:St} {r:St×List Rec},gj (Call T ow) ow base l n st=some r→ ∃k,gj (cS T ow k) ow base l n st=some r
 |[],_,_,_,h=>⟨0,h⟩
 |s::l,n,st,r,h=>by
  simp only [gj] at h
  cases h1:vf (Call T ow) ow st s n (base+n) with
  |none=>rw [h1] at h;cases h
  |some p=>
   obtain ⟨st',rc⟩:=p
   rw [h1] at h
   dsimp only at h
   cases h2:gj (Call T ow) ow base l (n+1) st' with
   |none=>rw [h2] at h;cases h
   |some q=>
    obtain ⟨st2,rs⟩:=q
    rw [h2] at h
    obtain ⟨k2,hk2⟩:=Om h2
    have: ∃k,vf (cS T ow k) ow st s n (base+n)=some (st',rc):=by
     unfold vf at h1 ⊢
     split at h1
     ·cases h1
     ·exact ⟨0,h1⟩
     ·split at h1
      ·rename_i v u ho
       obtain ⟨k,hk⟩:=R0 (C:=cS T ow) (D:=Call T ow) (fun _ _ _ _ h=>M7 h) 0 ho
       exact ⟨k,by rw [hk];exact h1⟩
      ·cases h1
    obtain ⟨k1,hk1⟩:=this
    refine ⟨max k1 k2, ?_⟩
    simp only [gj]
    rw [Od (bY T ow (Nat.le_max_left k1 k2)) hk1]
    dsimp only
    rw [sw (bY T ow (Nat.le_max_right k1 k2)) hk2]
    exact h
theorem Nr (k:Nat): ∀f a b r,cS T ow k f a b=some r→Call T ow f a b=some r:=fun _ _ _ _ h=>Uc h
theorem a61 (st:St):dT T ow .skip st=some (.normal,st):=dE (n:=1) rfl
theorem a5y (id:Nat) (st:St):dT T ow (.exit id) st=some (.exit id,st):=dE (n:=1) rfl
theorem b1s (st:St):dT T ow .ret st=some (.ret,st):=dE (n:=1) rfl
theorem Kh (base:Nat) (steps:List bf) (live:List Nat) (st:St):dT T ow (.region base steps live) st=oO (Call T ow) ow base steps live st:=by
 refine uD (fun r h=> ?_) (fun r h=> ?_)
 ·obtain ⟨n,hn⟩:=hZ h
  cases n with
  |zero=>simp [bL] at hn
  |succ n=>
   simp only [bL,oO] at hn ⊢
   split at hn
   ·rename_i st' h';rw [s9 (Nr (n+1)) h'];exact hn
   ·cases hn
 ·unfold oO at h
  split at h
  ·rename_i st' h'
   obtain ⟨k,hk⟩:=ON h'
   refine dE (n:=k+1) ?_
   simp only [bL,oO]
   rw [s9 (bY T ow (Nat.le_succ k)) hk]
   exact h
  ·cases h
theorem ZH (base:Nat) (steps:List bf) (deps:List (List Nat)) (live:List Nat) (st:St):
 dT T ow (.drawn base steps deps live) st=xK (Call T ow) ow base steps deps live st:=by
 refine uD (fun r h=> ?_) (fun r h=> ?_)
 ·obtain ⟨n,hn⟩:=hZ h
  cases n with
  |zero=>simp [bL] at hn
  |succ n=>
   simp only [bL,xK] at hn ⊢
   split at hn
   ·rename_i st' rs h';rw [sw (Nr (n+1)) h'];exact hn
   ·cases hn
 ·unfold xK at h
  split at h
  ·rename_i st' rs h'
   obtain ⟨k,hk⟩:=Om h'
   refine dE (n:=k+1) ?_
   simp only [bL,xK]
   rw [sw (bY T ow (Nat.le_succ k)) hk]
   exact h
  ·cases h
theorem Hb (a b:aq) (st:St):dT T ow (.seq a b) st=(match dT T ow a st with
 |some (.normal,st')=>dT T ow b st'
 |r=>r):=by
 refine uD (fun r h=> ?_) (fun r h=> ?_)
 ·obtain ⟨n,hn⟩:=hZ h
  cases n with
  |zero=>simp [bL] at hn
  |succ n=>
   simp only [bL] at hn
   cases ha:bL (cS T ow (n+1)) ow n a st with
   |none=>rw [ha] at hn;cases hn
   |some p=>
    obtain ⟨e,st'⟩:=p
    rw [dE (bZ (fun _ _ _ _ h=>h) n (n+1) (by omega) ha)]
    rw [ha] at hn
    cases e with
    |normal=>exact dE (bZ (fun _ _ _ _ h=>h) n (n+1) (by omega) hn)
    |exit id=>exact hn
    |ret=>exact hn
 ·cases ha:dT T ow a st with
  |none=>rw [ha] at h;cases h
  |some p=>
   obtain ⟨e,st'⟩:=p
   rw [ha] at h
   obtain ⟨n,hn⟩:=hZ ha
   cases e with
   |normal=>
    obtain ⟨m,hm⟩:=hZ (show dT T ow b st'=some r from h)
    refine dE (n:=max n m+1) ?_
    simp only [bL]
    rw [bZ (bY T ow (by omega)) n (max n m) (by omega) hn]
    exact bZ (bY T ow (by omega)) m (max n m) (by omega) hm
   |exit id=>
    refine dE (n:=n+1) ?_
    simp only [bL]
    rw [bZ (bY T ow (by omega)) n n (by omega) hn]
    exact h
   |ret=>
    refine dE (n:=n+1) ?_
    simp only [bL]
    rw [bZ (bY T ow (by omega)) n n (by omega) hn]
    exact h
theorem a3m (c:Opd) (a b:aq) (st:St):dT T ow (.cond c a b) st=(match st.ev c with
 | .lit (.bool true)=>dT T ow a st
 | .lit (.bool false)=>dT T ow b st
 |_=>none):=by
 refine uD (fun r h=> ?_) (fun r h=> ?_)
 ·obtain ⟨n,hn⟩:=hZ h
  cases n with
  |zero=>simp [bL] at hn
  |succ n=>
   simp only [bL] at hn
   split at hn
   ·rename_i hc;simp only [hc];exact dE (bZ (fun _ _ _ _ h=>h) n (n+1) (by omega) hn)
   ·rename_i hc;simp only [hc];exact dE (bZ (fun _ _ _ _ h=>h) n (n+1) (by omega) hn)
   ·cases hn
 ·split at h
  ·rename_i hc
   obtain ⟨n,hn⟩:=hZ h
   refine dE (n:=n+1) ?_
   simp only [bL,hc]
   exact bZ (bY T ow (by omega)) n n (by omega) hn
  ·rename_i hc
   obtain ⟨n,hn⟩:=hZ h
   refine dE (n:=n+1) ?_
   simp only [bL,hc]
   exact bZ (bY T ow (by omega)) n n (by omega) hn
  ·cases h
theorem G5 (id:Nat) (c:aq) (st:St):dT T ow (.block id c) st=(match dT T ow c st with
 |some (.exit id',st')=>if id'=id then some (.normal,st') else some (.exit id',st')
 |r=>r):=by
 refine uD (fun r h=> ?_) (fun r h=> ?_)
 ·obtain ⟨n,hn⟩:=hZ h
  cases n with
  |zero=>simp [bL] at hn
  |succ n=>
   simp only [bL] at hn
   cases ha:bL (cS T ow (n+1)) ow n c st with
   |none=>rw [ha] at hn;cases hn
   |some p=>
    rw [dE (bZ (fun _ _ _ _ h=>h) n (n+1) (by omega) ha)]
    rw [ha] at hn
    exact hn
 ·cases ha:dT T ow c st with
  |none=>rw [ha] at h;cases h
  |some p=>
   obtain ⟨n,hn⟩:=hZ ha
   refine dE (n:=n+1) ?_
   simp only [bL]
   rw [bZ (bY T ow (by omega)) n n (by omega) hn]
   rw [ha] at h
   exact h
theorem QM (c:aq) (st:St):dT T ow (.loop c) st=(match dT T ow c st with
 |some (.normal,st')=>dT T ow (.loop c) st'
 |r=>r):=by
 refine uD (fun r h=> ?_) (fun r h=> ?_)
 ·obtain ⟨n,hn⟩:=hZ h
  cases n with
  |zero=>simp [bL] at hn
  |succ n=>
   simp only [bL] at hn
   cases ha:bL (cS T ow (n+1)) ow n c st with
   |none=>rw [ha] at hn;cases hn
   |some p=>
    obtain ⟨e,st'⟩:=p
    rw [dE (bZ (fun _ _ _ _ h=>h) n (n+1) (by omega) ha)]
    rw [ha] at hn
    cases e with
    |normal=>exact dE (bZ (fun _ _ _ _ h=>h) n (n+1) (by omega) hn)
    |exit id=>exact hn
    |ret=>exact hn
 ·cases ha:dT T ow c st with
  |none=>rw [ha] at h;cases h
  |some p=>
   obtain ⟨e,st'⟩:=p
   rw [ha] at h
   obtain ⟨n,hn⟩:=hZ ha
   cases e with
   |normal=>
    obtain ⟨m,hm⟩:=hZ (show dT T ow (.loop c) st'=some r from h)
    refine dE (n:=max n m+1) ?_
    simp only [bL]
    rw [bZ (bY T ow (by omega)) n (max n m) (by omega) hn]
    exact bZ (bY T ow (by omega)) m (max n m) (by omega) hm
   |exit id=>
    refine dE (n:=n+1) ?_
    simp only [bL]
    rw [bZ (bY T ow (by omega)) n n (by omega) hn]
    exact h
   |ret=>
    refine dE (n:=n+1) ?_
    simp only [bL]
    rw [bZ (bY T ow (by omega)) n n (by omega) hn]
    exact h
theorem jf (g:cY) (c:aq) (st:St):dT T ow (.ghost g c) st=(match bG st g with
 |some st'=>dT T ow c st'
 |none=>none):=by
 refine uD (fun r h=> ?_) (fun r h=> ?_)
 ·obtain ⟨n,hn⟩:=hZ h
  cases n with
  |zero=>simp [bL] at hn
  |succ n=>
   simp only [bL] at hn
   split at hn
   ·rename_i st' hg;simp only [hg];exact dE (bZ (fun _ _ _ _ h=>h) n (n+1) (by omega) hn)
   ·cases hn
 ·split at h
  ·rename_i st' hg
   obtain ⟨n,hn⟩:=hZ h
   refine dE (n:=n+1) ?_
   simp only [bL,hg]
   exact bZ (bY T ow (by omega)) n n (by omega) hn
  ·cases h
theorem a2y (f:FuncId) (a:List V) (b:List Blk):Call T ow f a b=(match T f with
 |none=>none
 |some (.code af)=>XR af (ik af b.length (dT T ow af.body (start a b)))
 |some (.ext g)=>g a b):=by
 refine uD (fun r h=> ?_) (fun r h=> ?_)
 ·obtain ⟨n,hn⟩:=M7 h
  cases n with
  |zero=>simp [cS] at hn
  |succ n=>
   simp only [cS] at hn
   split at hn
   ·cases hn
   rotate_left
   ·rename_i g hg;simp only [hg];exact hn
   ·rename_i af haf
    cases he:bL (cS T ow n) ow n af.body (start a b) with
    |none=>rw [he] at hn;simp [ik,XR] at hn
    |some p=>simp only [haf];rw [dE he];rw [he] at hn;exact hn
 ·split at h
  ·cases h
  rotate_left
  ·rename_i g hg
   refine Uc (n:=1) ?_
   simp only [cS,hg]
   exact h
  ·rename_i af haf
   cases he:dT T ow af.body (start a b) with
   |none=>rw [he] at h;simp [ik,XR] at h
   |some p=>
    obtain ⟨n,hn⟩:=hZ he
    refine Uc (n:=n+1) ?_
    simp only [cS,haf]
    rw [hn]
    rw [he] at h
    exact h
end
end Go.AI
set_option linter.unusedVariables false
set_option linter.unusedSimpArgs false
namespace Go.AI
def br {α:Type} (c:Bool) (x y:α):α:=match c with
 |true=>x
 |false=>y
theorem bM {α:Type} (x y:α):br true x y=x:=rfl
theorem aK {α:Type} (x y:α):br false x y=y:=rfl
theorem c3B {α:Type} (c:Bool) (x y:α):br (!c) x y=br c y x:=by cases c<;>rfl
theorem yV {α:Type} {c:Bool} {x y r:α} (h:c=true) (hx:x=r):br c x y=r:=by subst h;exact hx
theorem a6a {α:Type} {c:Bool} {x y r:α} (h:c=false) (hy:y=r):br c x y=r:=by subst h;exact hy
theorem brc {α:Type} {c:Bool} {x y r:α} (h:br c x y=r):(c=true∧x=r)∨(c=false∧y=r):=by
 cases c
 ·exact .inr ⟨rfl,h⟩
 ·exact .inl ⟨rfl,h⟩
theorem brg {α:Type} {c:Bool} {x:Option α} {r:α} (h:br c x none=some r):c=true∧x=some r:=by
 cases c
 ·cases h
 ·exact ⟨rfl,h⟩
theorem bd {α β:Type} {x:Option α} {g:α→Option β} {r:β} (h:x.bind g=some r): ∃a,x=some a∧g a=some r:=by
 cases x with
 |none=>cases h
 |some a=>exact ⟨a,rfl,h⟩
inductive Fr where
 |code (c:aq)
 |steps (n:Nat) (ss:List bf) (live:List Nat)
 |dr (base i:Nat) (ss:List bf) (deps:List (List Nat)) (live:List Nat) (rs:List Rec)
 |blk (id:Nat)
section
variable {R:Type}
noncomputable def qz (T:Tab) (ow:cy) (k:aw→St→Option R):List Fr→Option Nat→St→Option R
 |[],none,st=>k .normal st
 |[],some id,st=>k (.exit id) st
 | .blk id'::K,some id,st=>if id'=id then qz T ow k K none st else qz T ow k K (some id) st
 |_::K,some id,st=>qz T ow k K (some id) st
 | .blk _::K,none,st=>qz T ow k K none st
 | .code c::K,none,st=>match dT T ow c st with
   |some (.normal,st')=>qz T ow k K none st'
   |some (.exit id,st')=>qz T ow k K (some id) st'
   |some (.ret,st')=>k .ret st'
   |none=>none
 | .steps n ss live::K,none,st=>match g8 (Call T ow) ow ss n st with
   |some st'=>qz T ow k K none (trim live st')
   |none=>none
 | .dr base i ss deps live rs::K,none,st=>match gj (Call T ow) ow base ss i st with
   |some (st',rs')=>br (nf deps (rs++rs'.filter Rec.loud)) (qz T ow k K none (trim live st')) none
   |none=>none
noncomputable def Rn (T:Tab) (ow:cy) (k:aw→St→Option R) (K:List Fr) (st:St):Option R:=qz T ow k K none st
noncomputable def Unw (T:Tab) (ow:cy) (k:aw→St→Option R) (id:Nat) (K:List Fr) (st:St):Option R:=qz T ow k K (some id) st
noncomputable def goR (T:Tab) (ow:cy) (k:aw→St→Option R) (K:List Fr):Option (aw×St)→Option R
 |some (.normal,st')=>Rn T ow k K st'
 |some (.exit id,st')=>Unw T ow k id K st'
 |some (.ret,st')=>k .ret st'
 |none=>none
variable {T:Tab} {ow:cy} {k:aw→St→Option R}
theorem cB (c:aq) (K:List Fr) (st:St):Rn T ow k (.code c::K) st=goR T ow k K (dT T ow c st):=by
 unfold Rn qz goR
 cases dT T ow c st with
 |none=>rfl
 |some p=>obtain ⟨e,st'⟩:=p;cases e<;>rfl
theorem b6e (st:St):Rn T ow k [] st=k .normal st:=rfl
theorem b6F (id:Nat) (K:List Fr) (st:St):Rn T ow k (.blk id::K) st=Rn T ow k K st:=rfl
theorem a7S (K:List Fr) (st:St):Rn T ow k (.code .skip::K) st=Rn T ow k K st:=by rw [cB,a61];rfl
theorem b0q (id:Nat) (K:List Fr) (st:St):Rn T ow k (.code (.exit id)::K) st=Unw T ow k id K st:=by rw [cB,a5y];rfl
theorem b43 (K:List Fr) (st:St):Rn T ow k (.code .ret::K) st=k .ret st:=by rw [cB,b1s];rfl
theorem b5V (a b:aq) (K:List Fr) (st:St):Rn T ow k (.code (.seq a b)::K) st=Rn T ow k (.code a:: .code b::K) st:=by
 rw [cB,Hb,cB]
 cases dT T ow a st with
 |none=>rfl
 |some p=>
  obtain ⟨e,st'⟩:=p
  cases e with
  |normal=>simp only [goR];rw [cB];rfl
  |exit id=>rfl
  |ret=>rfl
theorem a5z (id:Nat) (c:aq) (K:List Fr) (st:St):Rn T ow k (.code (.block id c)::K) st=Rn T ow k (.code c:: .blk id::K) st:=by
 rw [cB,G5,cB]
 cases dT T ow c st with
 |none=>rfl
 |some p=>
  obtain ⟨e,st'⟩:=p
  cases e with
  |normal=>rfl
  |exit id'=>
   simp only [goR,Unw,Rn,qz]
   by_cases h:id'=id
   ·subst h;simp
   ·rw [if_neg h,if_neg (fun e=>h e.symm)]
  |ret=>rfl
noncomputable def a84 (T:Tab) (ow:cy) (k:aw→St→Option R) (a b:aq) (K:List Fr) (st:St):V→Option R
 | .lit (.bool c)=>br c (Rn T ow k (.code a::K) st) (Rn T ow k (.code b::K) st)
 |_=>none
theorem a92 (c:Opd) (a b:aq) (K:List Fr) (st:St):Rn T ow k (.code (.cond c a b)::K) st=a84 T ow k a b K st (st.ev c):=by
 rw [cB,a3m]
 unfold a84
 split
 ·rename_i h;rw [h];exact (cB _ _ _).symm
 ·rename_i h;rw [h];exact (cB _ _ _).symm
 ·rename_i h1 h2
  split
  ·rename_i c' h;cases c'
   ·exact absurd h h2
   ·exact absurd h h1
  ·rfl
theorem Yo (a b:aq) (K:List Fr) (st:St) (c:Bool):a84 T ow k a b K st (.lit (.bool c))=br c (Rn T ow k (.code a::K) st) (Rn T ow k (.code b::K) st):=rfl
noncomputable def ghR (T:Tab) (ow:cy) (k:aw→St→Option R) (c:aq) (K:List Fr):Option St→Option R
 |some st'=>Rn T ow k (.code c::K) st'
 |none=>none
theorem a2L (g:cY) (c:aq) (K:List Fr) (st:St):Rn T ow k (.code (.ghost g c)::K) st=ghR T ow k c K (bG st g):=by
 rw [cB,jf]
 cases bG st g with
 |none=>rfl
 |some st'=>simp only [ghR];rw [cB]
theorem a6U (c:aq) (K:List Fr) (st:St):ghR T ow k c K (some st)=Rn T ow k (.code c::K) st:=rfl
theorem c3o (c:aq) (K:List Fr) (st:St):Rn T ow k (.code (.loop c)::K) st=goR T ow k K (dT T ow (.loop c) st):=cB _ _ _
theorem Zl (K:List Fr) (st:St):goR T ow k K (some (.normal,st))=Rn T ow k K st:=rfl
theorem a7n (id:Nat) (K:List Fr) (st:St):goR T ow k K (some (.exit id,st))=Unw T ow k id K st:=rfl
theorem b56 (K:List Fr) (st:St):goR T ow k K (some (.ret,st))=k .ret st:=rfl
theorem b3r (id:Nat) (st:St):Unw T ow k id [] st=k (.exit id) st:=rfl
theorem b0R (id:Nat) (c:aq) (K:List Fr) (st:St):Unw T ow k id (.code c::K) st=Unw T ow k id K st:=rfl
theorem b3R (id id':Nat) (K:List Fr) (st:St):Unw T ow k id (.blk id'::K) st=if id'=id then Rn T ow k K st else Unw T ow k id K st:=rfl
theorem YS (n:Nat) (ss:List bf) (live:List Nat) (K:List Fr) (st:St):Rn T ow k (.code (.region n ss live)::K) st=Rn T ow k (.steps n ss live::K) st:=by
 rw [cB,Kh]
 unfold oO
 simp only [Rn,qz]
 cases g8 (Call T ow) ow ss n st<;>rfl
theorem a3C (n:Nat) (ss:List bf) (deps:List (List Nat)) (live:List Nat) (K:List Fr) (st:St):Rn T ow k (.code (.drawn n ss deps live)::K) st=Rn T ow k (.dr n 0 ss deps live []::K) st:=by
 rw [cB,ZH]
 unfold xK
 simp only [Rn,qz]
 cases gj (Call T ow) ow n ss 0 st with
 |none=>rfl
 |some p=>
  obtain ⟨st',rs⟩:=p
  simp only [List.nil_append]
  cases nf deps (rs.filter Rec.loud)<;>rfl
theorem Q7 (n:Nat) (live:List Nat) (K:List Fr) (st:St):Rn T ow k (.steps n [] live::K) st=Rn T ow k K (trim live st):=rfl
noncomputable def aft (T:Tab) (ow:cy) (k:aw→St→Option R) (d:Option Nat) (n:Nat) (ss:List bf) (live:List Nat) (K:List Fr) (st:St):Option (V×Upd)→Option R
 |some (v,u)=>Rn T ow k (.steps (n+1) ss live::K) ((st.upd u).put d v)
 |none=>none
variable {d:Option Nat} {n:Nat} {ss:List bf} {live:List Nat} {K:List Fr} {st:St}
theorem a5L (op:AOp):Rn T ow k (.steps n (⟨d,op,none⟩::ss) live::K) st=aft T ow k d n ss live K st (aj (Call T ow) ow op st.ev st.heap n):=by
 unfold aft
 simp only [Rn,qz,g8,zg,St.want]
 cases aj (Call T ow) ow op st.ev st.heap n with
 |none=>rfl
 |some p=>obtain ⟨v,u⟩:=p;rfl
theorem b1a (v:V) (u:Upd):aft T ow k d n ss live K st (some (v,u))=Rn T ow k (.steps (n+1) ss live::K) ((st.upd u).put d v):=rfl
theorem b0M:aft T ow k d n ss live K st none=none:=rfl
theorem b9K (c:Bool) (x y:Option (V×Upd)):aft T ow k d n ss live K st (br c x y)=br c (aft T ow k d n ss live K st x) (aft T ow k d n ss live K st y):=by cases c<;>rfl
theorem a75 {α:Type} (x:Option α) (f:α→Option (V×Upd)):aft T ow k d n ss live K st (x.bind f)=x.bind (fun a=>aft T ow k d n ss live K st (f a)):=by cases x<;>rfl
noncomputable def gd (T:Tab) (ow:cy) (k:aw→St→Option R) (t:Nat) (b:Bool) (d:Option Nat) (op:AOp) (n:Nat) (ss:List bf) (live:List Nat) (K:List Fr) (st:St):V→Option R
 | .lit (.bool c)=>br (c==b) (Rn T ow k (.steps n (⟨d,op,none⟩::ss) live::K) { st with e:=fx t (.lit (.bool c)) st.e })
  (Rn T ow k (.steps (n+1) ss live::K) ({ st with e:=fx t (.lit (.bool c)) st.e }.put d (.lit (.tuple #[]))))
 | .lit (.tuple _)=>Rn T ow k (.steps (n+1) ss live::K) (st.put d (.lit (.tuple #[])))
 |_=>none
theorem R7 {α:Type}: ∀{l:List (Nat×α)} {t:Nat} {v:α},cj l t=some v→fx t v l=l
 |[],_,_,h=>by simp [cj] at h
 | (j,u)::r,t,v,h=>by
   simp only [cj] at h
   simp only [fx]
   split at h
   ·rename_i e;cases h;subst e;simp
   ·rename_i e;rw [if_neg e,R7 h]
theorem WB {v:V} {t:Nat} (h:st.get t=v) (hv:v≠ .undef):({ st with e:=fx t v st.e }:St)=st:=by
 unfold St.get at h
 cases ha:cj st.e t with
 |none=>rw [ha] at h;exact absurd h.symm hv
 |some u=>
  rw [ha] at h;cases h
  show ({ st with e:=fx t u st.e }:St)=st
  rw [R7 ha]
theorem a3T (t:Nat) (b:Bool) (op:AOp):Rn T ow k (.steps n (⟨d,op,some (t,b)⟩::ss) live::K) st=gd T ow k t b d op n ss live K st (st.get t):=by
 cases hg:st.get t with
 |lit v=>
  cases v with
  |bool c=>
   simp only [gd]
   rw [WB hg (by simp)]
   simp only [Rn,qz,g8,zg,St.want,hg]
   cases hcb:(c==b)
   ·simp [aK,hcb]
   ·simp [bM,hcb]
  |tuple xs=>simp only [gd];simp only [Rn,qz,g8,zg,St.want,hg]
  |_=>simp only [gd];simp only [Rn,qz,g8,zg,St.want,hg]
 |_=>simp only [gd];simp only [Rn,qz,g8,zg,St.want,hg]
theorem b41 (t:Nat) (op:AOp) (c:Bool):gd T ow k t true d op n ss live K st (.lit (.bool c))=
 br c (Rn T ow k (.steps n (⟨d,op,none⟩::ss) live::K) { st with e:=fx t (.lit (.bool true)) st.e })
  (Rn T ow k (.steps (n+1) ss live::K) ({ st with e:=fx t (.lit (.bool false)) st.e }.put d (.lit (.tuple #[])))):=by cases c<;>rfl
theorem a9J (t:Nat) (op:AOp) (c:Bool):gd T ow k t false d op n ss live K st (.lit (.bool c))=
 br c (Rn T ow k (.steps (n+1) ss live::K) ({ st with e:=fx t (.lit (.bool true)) st.e }.put d (.lit (.tuple #[]))))
  (Rn T ow k (.steps n (⟨d,op,none⟩::ss) live::K) { st with e:=fx t (.lit (.bool false)) st.e }):=by cases c<;>rfl
theorem a7L (t:Nat) (b:Bool) (op:AOp) (xs:Array Value):gd T ow k t b d op n ss live K st (.lit (.tuple xs))=Rn T ow k (.steps (n+1) ss live::K) (st.put d (.lit (.tuple #[]))):=rfl
variable {base i:Nat} {deps:List (List Nat)} {rs:List Rec} {fp:List Nat}
def a43 (rs:List Rec) (i:Nat) (fp wr:List Nat):List Rec:=rs++[Rec.mk i fp wr].filter Rec.loud
theorem Zw:Rn T ow k (.dr base i [] deps live rs::K) st=br (nf deps rs) (Rn T ow k K (trim live st)) none:=by
 simp only [Rn,qz,gj,List.filter_nil,List.append_nil]
noncomputable def LS (T:Tab) (ow:cy) (k:aw→St→Option R) (d:Option Nat) (base i:Nat) (ss:List bf) (deps:List (List Nat)) (live:List Nat) (rs:List Rec) (K:List Fr) (st:St) (fp:List Nat):Option (V×Upd)→Option R
 |some (v,u)=>br ((u.map (·.1)).all (fun b=>decide (b∈fp)||(st.heap b).isNone))
  (Rn T ow k (.dr base (i+1) ss deps live (a43 rs i fp (u.map (·.1)))::K) ((st.upd u).put d v)) none
 |none=>none
theorem c0Q (op:AOp):Rn T ow k (.dr base i (⟨d,op,none⟩::ss) deps live rs::K) st=
 LS T ow k d base i ss deps live rs K st (ec ow op st.ev st.heap) (aj (Call T ow) ow op st.ev (oM st.heap (ec ow op st.ev st.heap)) (base+i)):=by
 unfold LS
 simp only [Rn,qz,gj,vf,St.want]
 cases ho:aj (Call T ow) ow op st.ev (oM st.heap (ec ow op st.ev st.heap)) (base+i) with
 |none=>rfl
 |some p=>
  obtain ⟨v,u⟩:=p
  dsimp only
  by_cases hc:(u.map (·.1)).all (fun b=>decide (b∈ec ow op st.ev st.heap)||(st.heap b).isNone)=true
  ·rw [hc,bM,if_pos rfl]
   dsimp only
   cases gj (Call T ow) ow base ss (i+1) ((st.upd u).put d v) with
   |none=>rfl
   |some q=>
    obtain ⟨st2,rs2⟩:=q
    simp only [a43,List.filter_cons,List.filter_nil,List.append_assoc]
    cases Rec.loud ⟨i,ec ow op st.ev st.heap,u.map (·.1)⟩<;>rfl
  ·rw [Bool.not_eq_true] at hc
   rw [hc,aK,if_neg (by decide)]
theorem a5E (v:V) (u:Upd):LS T ow k d base i ss deps live rs K st fp (some (v,u))=br ((u.map (·.1)).all (fun b=>decide (b∈fp)||(st.heap b).isNone))
 (Rn T ow k (.dr base (i+1) ss deps live (a43 rs i fp (u.map (·.1)))::K) ((st.upd u).put d v)) none:=rfl
theorem Zy (v:V):LS T ow k d base i ss deps live rs K st fp (some (v,[]))=Rn T ow k (.dr base (i+1) ss deps live (a43 rs i fp [])::K) (st.put d v):=rfl
theorem a3I:LS T ow k d base i ss deps live rs K st fp none=none:=rfl
theorem b3q (c:Bool) (x y:Option (V×Upd)):LS T ow k d base i ss deps live rs K st fp (br c x y)=br c (LS T ow k d base i ss deps live rs K st fp x) (LS T ow k d base i ss deps live rs K st fp y):=by cases c<;>rfl
theorem a64 {α:Type} (x:Option α) (f:α→Option (V×Upd)):LS T ow k d base i ss deps live rs K st fp (x.bind f)=x.bind (fun a=>LS T ow k d base i ss deps live rs K st fp (f a)):=by cases x<;>rfl
noncomputable def gdD (T:Tab) (ow:cy) (k:aw→St→Option R) (t:Nat) (b:Bool) (d:Option Nat) (op:AOp) (base i:Nat) (ss:List bf) (deps:List (List Nat)) (live:List Nat) (rs:List Rec) (K:List Fr) (st:St):V→Option R
 | .lit (.bool c)=>br (c==b) (Rn T ow k (.dr base i (⟨d,op,none⟩::ss) deps live rs::K) { st with e:=fx t (.lit (.bool c)) st.e })
  (Rn T ow k (.dr base (i+1) ss deps live rs::K) ({ st with e:=fx t (.lit (.bool c)) st.e }.put d (.lit (.tuple #[]))))
 | .lit (.tuple _)=>Rn T ow k (.dr base (i+1) ss deps live rs::K) (st.put d (.lit (.tuple #[])))
 |_=>none
theorem a2c (op:AOp) (g:Nat×Bool) (h:st.want (some g)=some false):Rn T ow k (.dr base i (⟨d,op,some g⟩::ss) deps live rs::K) st=Rn T ow k (.dr base (i+1) ss deps live rs::K) (st.put d (.lit (.tuple #[]))):=by
 simp only [Rn,qz,gj,vf,h]
 cases gj (Call T ow) ow base ss (i+1) (st.put d (.lit (.tuple #[]))) with
 |none=>rfl
 |some q=>obtain ⟨st2,rs2⟩:=q;rfl
theorem c3s (op:AOp) (g:Nat×Bool) (h:st.want (some g)=some true):Rn T ow k (.dr base i (⟨d,op,some g⟩::ss) deps live rs::K) st=Rn T ow k (.dr base i (⟨d,op,none⟩::ss) deps live rs::K) st:=by
 have h2:st.want none=some true:=rfl
 simp only [Rn,qz,gj,vf,h,h2]
theorem a2F (op:AOp) (g:Nat×Bool) (h:st.want (some g)=none):Rn T ow k (.dr base i (⟨d,op,some g⟩::ss) deps live rs::K) st=none:=by
 simp only [Rn,qz,gj,vf,h]
theorem U2 (t:Nat) (b:Bool) (op:AOp):Rn T ow k (.dr base i (⟨d,op,some (t,b)⟩::ss) deps live rs::K) st=gdD T ow k t b d op base i ss deps live rs K st (st.get t):=by
 cases hg:st.get t with
 |lit v=>
  cases v with
  |bool c=>
   simp only [gdD]
   rw [WB hg (by simp)]
   cases hcb:(c==b)
   ·rw [aK];exact a2c op (t,b) (by simp [St.want,hg,hcb])
   ·rw [bM];exact c3s op (t,b) (by simp [St.want,hg,hcb])
  |tuple xs=>exact a2c op (t,b) (by simp [St.want,hg])
  |_=>exact a2F op (t,b) (by simp [St.want,hg])
 |_=>exact a2F op (t,b) (by simp [St.want,hg])
theorem b0K (t:Nat) (op:AOp) (c:Bool):gdD T ow k t true d op base i ss deps live rs K st (.lit (.bool c))=
 br c (Rn T ow k (.dr base i (⟨d,op,none⟩::ss) deps live rs::K) { st with e:=fx t (.lit (.bool true)) st.e })
  (Rn T ow k (.dr base (i+1) ss deps live rs::K) ({ st with e:=fx t (.lit (.bool false)) st.e }.put d (.lit (.tuple #[])))):=by cases c<;>rfl
theorem a5F (t:Nat) (op:AOp) (c:Bool):gdD T ow k t false d op base i ss deps live rs K st (.lit (.bool c))=
 br c (Rn T ow k (.dr base (i+1) ss deps live rs::K) ({ st with e:=fx t (.lit (.bool true)) st.e }.put d (.lit (.tuple #[]))))
  (Rn T ow k (.dr base i (⟨d,op,none⟩::ss) deps live rs::K) { st with e:=fx t (.lit (.bool false)) st.e }):=by cases c<;>rfl
theorem a35 (t:Nat) (b:Bool) (op:AOp) (xs:Array Value):gdD T ow k t b d op base i ss deps live rs K st (.lit (.tuple xs))=Rn T ow k (.dr base (i+1) ss deps live rs::K) (st.put d (.lit (.tuple #[]))):=rfl
end
def Zh (af:al) (m:Nat) (x:aw) (st:St):Option (V×List Blk):=XR af (ik af m (some (x,st)))
theorem ag {T:Tab} {ow:cy} {f:FuncId} {af:al} (hT:T f=some (.code af)) (a:List V) (b:List Blk):Call T ow f a b=Rn T ow (Zh af b.length) [.code af.body] (start a b):=by
 rw [a2y,hT]
 dsimp only
 rw [cB]
 cases dT T ow af.body (start a b) with
 |none=>rfl
 |some p=>obtain ⟨e,st⟩:=p;cases e<;>rfl
def FG {S E:Type} (step:S→Option (S⊕E)):Nat→S→Option E
 |0,_=>none
 |n+1,s=>match step s with
  |none=>none
  |some (.inl s')=>FG step n s'
  |some (.inr e)=>some e
theorem QJ {S E:Type} {step:S→Option (S⊕E)}: ∀{n:Nat} {s:S} {e:E},FG step n s=some e→FG step (n+1) s=some e
 |0,_,_,h=>by cases h
 |n+1,s,e,h=>by
  simp only [FG] at h ⊢
  split at h
  ·cases h
  ·rename_i s' hs;exact QJ h
  ·rename_i e' hs;exact h
theorem b2E {S E:Type} {step:S→Option (S⊕E)} {n m:Nat} (hnm:n≤m) {s:S} {e:E} (h:FG step n s=some e):FG step m s=some e:=by
 induction hnm with
 |refl=>exact h
 |step _ ih=>exact QJ ih
noncomputable def Loop {S E:Type} (step:S→Option (S⊕E)) (s:S):Option E:=lim (fun n=>FG step n s)
theorem M8 {S E:Type} {step:S→Option (S⊕E)} {s:S} {e:E} (h:Loop step s=some e): ∃n,FG step n s=some e:=S6 h
theorem Ty {S E:Type} {step:S→Option (S⊕E)} {n:Nat} {s:S} {e:E} (h:FG step n s=some e):Loop step s=some e:=
 a0c (g:=fun n=>FG step n s) (fun _ _ _ hnm h=>b2E hnm h) h
def a1o {S E:Type} (lp:S→Option E):Option (S⊕E)→Option E
 |none=>none
 |some (.inl s')=>lp s'
 |some (.inr e)=>some e
theorem Ds {S E:Type} (step:S→Option (S⊕E)) (s:S):Loop step s=a1o (Loop step) (step s):=by
 refine uD (fun r h=> ?_) (fun r h=> ?_)
 ·obtain ⟨n,hn⟩:=M8 h
  cases n with
  |zero=>cases hn
  |succ n=>
   simp only [FG] at hn
   split at hn
   ·cases hn
   ·rename_i s' hs;rw [hs];exact Ty hn
   ·rename_i e' hs;rw [hs];exact hn
 ·cases hs:step s with
  |none=>rw [hs] at h;cases h
  |some o=>
   rw [hs] at h
   cases o with
   |inl s'=>
    obtain ⟨n,hn⟩:=M8 (show Loop step s'=some r from h)
    exact Ty (n:=n+1) (by simp only [FG,hs];exact hn)
   |inr e=>exact Ty (n:=1) (by simp only [FG,hs];exact h)
def c1u (x:aw) (st:St):Option (aw×St):=some (x,st)
theorem a8A {T:Tab} {ow:cy} (c:aq) (st:St):dT T ow c st=Rn T ow c1u [.code c] st:=by
 rw [cB]
 cases dT T ow c st with
 |none=>rfl
 |some p=>obtain ⟨e,st⟩:=p;cases e<;>rfl
theorem c2B {T:Tab} {ow:cy} {S E:Type} {c:aq} {step:S→Option (S⊕E)} {eS:S→St} {eE:E→aw×St} (hne: ∀e,(eE e).1≠ .normal)
 (hb: ∀s o,step s=some o→Rn T ow c1u [.code c] (eS s)=some (match o with
  | .inl s'=>(.normal,eS s')
  | .inr e=>eE e)) {s:S} {e:E} (h:Loop step s=some e):dT T ow (.loop c) (eS s)=some (eE e):=by
 obtain ⟨n,hn⟩:=M8 h
 clear h
 induction n generalizing s with
 |zero=>cases hn
 |succ n ih=>
  simp only [FG] at hn
  rw [QM,a8A]
  split at hn
  ·cases hn
  ·rename_i s' hs
   rw [hb s _ hs]
   exact ih hn
  ·rename_i e' hs
   rw [hb s _ hs]
   cases hn
   dsimp only
   have:=hne e
   revert this
   generalize eE e=p
   obtain ⟨x,st⟩:=p
   intro this
   cases x with
   |normal=>exact absurd rfl this
   |exit id=>rfl
   |ret=>rfl
def mH (g:cY):aq→aq
 | .seq a b=> .seq (mH g a) b
 | .block id a=> .block id (mH g a)
 |c=> .ghost g c
section
variable {R:Type} {T:Tab} {ow:cy} {k:aw→St→Option R}
def ghE (T:Tab) (ow:cy) (c:aq):Option St→Option (aw×St)→Option (aw×St)
 |some _,r=>r
 |none,_=>none
theorem J5 (g:cY): ∀(c:aq) (st:St),dT T ow (mH g c) st=(match bG st g with
 |some st'=>dT T ow c st'
 |none=>none)
 | .seq a b,st=>by
   simp only [mH]
   rw [Hb,J5 g a st]
   cases bG st g with
   |none=>rfl
   |some st'=>dsimp only;rw [Hb]
 | .block id a,st=>by
   simp only [mH]
   rw [G5,J5 g a st]
   cases bG st g with
   |none=>rfl
   |some st'=>dsimp only;rw [G5]
 | .skip,st=>jf _ _ _
 | .region _ _ _,st=>jf _ _ _
 | .drawn _ _ _ _,st=>jf _ _ _
 | .cond _ _ _,st=>jf _ _ _
 | .loop _,st=>jf _ _ _
 | .exit _,st=>jf _ _ _
 | .ret,st=>jf _ _ _
 | .ghost _ _,st=>jf _ _ _
noncomputable def aO (T:Tab) (ow:cy) (g:cY) (c:aq) (st:St):Option (aw×St):=match dT T ow c st with
 |some (.normal,st')=>dT T ow (.loop (mH g c)) st'
 |r=>r
noncomputable def goL (T:Tab) (ow:cy) (k:aw→St→Option R) (K:List Fr) (g:cY) (c:aq):Option St→Option R
 |some st'=>goR T ow k K (aO T ow g c st')
 |none=>none
theorem O0 (g:cY) (c:aq) (st:St):dT T ow (.loop (mH g c)) st=(match bG st g with
 |some st'=>aO T ow g c st'
 |none=>none):=by
 rw [QM,J5]
 cases bG st g<;>rfl
theorem a4N (g:cY) (c:aq) (K:List Fr) (st:St):Rn T ow k (.code (.loop (mH g c))::K) st=goL T ow k K g c (bG st g):=by
 rw [cB,O0]
 cases bG st g<;>rfl
theorem a85 (K:List Fr) (g:cY) (c:aq) (st':St):goL T ow k K g c (some st')=goR T ow k K (aO T ow g c st'):=rfl
def ogM:Option St→Option (aw×St)
 |some st=>some (.normal,st)
 |none=>none
def RF (g:cY):aw→St→Option (aw×St)
 | .normal,st=>ogM (bG st g)
 |x,st=>some (x,st)
theorem Ve (g:cY) (st:St):RF g .normal st=ogM (bG st g):=rfl
theorem a30 (g:cY) (id:Nat) (st:St):RF g (.exit id) st=some (.exit id,st):=rfl
theorem a8B (g:cY) (st:St):RF g .ret st=some (.ret,st):=rfl
theorem a8e (st:St):ogM (some st)=some (.normal,st):=rfl
theorem a5a {S E:Type} {g:cY} {c:aq} {step:S→Option (S⊕E)} {eS:S→St} {eE:E→aw×St} (hne: ∀e,(eE e).1≠ .normal)
 (hb: ∀s o,step s=some o→Rn T ow (RF g) [.code c] (eS s)=some (match o with
  | .inl s'=>(.normal,eS s')
  | .inr e=>eE e)) {s:S} {e:E} (h:Loop step s=some e):aO T ow g c (eS s)=some (eE e):=by
 obtain ⟨n,hn⟩:=M8 h
 clear h
 induction n generalizing s with
 |zero=>cases hn
 |succ n ih=>
  simp only [FG] at hn
  unfold aO
  split at hn
  ·cases hn
  ·rename_i s' hs
   have h1:=hb s _ hs
   rw [cB] at h1
   cases hx:dT T ow c (eS s) with
   |none=>rw [hx] at h1;cases h1
   |some p=>
    obtain ⟨x,st'⟩:=p
    rw [hx] at h1
    cases x with
    |normal=>
     dsimp only
     rw [O0]
     simp only [goR,Rn,qz,RF,ogM] at h1
     cases hg:bG st' g with
     |none=>rw [hg] at h1;cases h1
     |some st2=>rw [hg] at h1;cases h1;exact ih hn
    |exit id=>simp [goR,Unw,qz,RF] at h1
    |ret=>simp [goR,RF] at h1
  ·rename_i e' hs
   have h1:=hb s _ hs
   cases hn
   have hn2:=hne e
   rw [cB] at h1
   dsimp only at h1
   revert h1 hn2
   generalize eE e=q
   intro h1 hn2
   cases hx:dT T ow c (eS s) with
   |none=>rw [hx] at h1;cases h1
   |some p=>
    obtain ⟨x,st'⟩:=p
    rw [hx] at h1
    cases x with
    |normal=>
     simp only [goR,Rn,qz,RF,ogM] at h1
     cases hg:bG st' g with
     |none=>rw [hg] at h1;cases h1
     |some st2=>rw [hg] at h1;cases h1;exact absurd rfl hn2
    |exit id=>exact h1
    |ret=>exact h1
variable {d:Option Nat} {n:Nat} {ss:List bf} {live:List Nat} {K:List Fr} {st:St} {base i:Nat} {deps:List (List Nat)} {rs:List Rec} {fp:List Nat} {r:R}
theorem A1 {x:Option (aw×St)} {p:aw×St} (h:x=some p) (hr:goR T ow k K (some p)=some r):goR T ow k K x=some r:=by rw [h];exact hr
theorem a5R (g:cY) (c:aq):goR T ow k K (aO T ow g c st)=Rn T ow k (.code c:: .code (.loop (mH g c))::K) st:=by
 rw [cB]
 unfold aO
 cases hx:dT T ow c st with
 |none=>rfl
 |some p=>
  obtain ⟨x,st'⟩:=p
  cases x with
  |normal=>dsimp only;simp only [goR];rw [cB];rfl
  |exit id=>rfl
  |ret=>rfl
theorem cQ {g:cY} {c:aq} (h:Rn T ow k (.code c:: .code (.loop (mH g c))::K) st=some r):goR T ow k K (aO T ow g c st)=some r:=by rw [a5R];exact h
theorem bind_some {α β:Type} {x:Option α} {a:α} {F:α→Option β} {r:β} (h:x=some a) (hr:F a=some r):x.bind F=some r:=by rw [h];exact hr
end
end Go.AI
set_option linter.unusedVariables false
set_option linter.unusedSimpArgs false
namespace Go.AI
abbrev I (n:Int):V:= .lit (.int .i64 n)
abbrev B (b:Bool):V:= .lit (.bool b)
abbrev S (s:List UInt8):V:= .lit (.string ⟨⟨s⟩⟩)
structure En (α:Type) where
 esz:Nat
 enc:α→List V
def rws {α:Type} (e:En α) (l:List α):List (List V):=l.map e.enc
def sl {α:Type} (e:En α) (l:List α):V:=(V.imm e.esz (rws e l)).cz
theorem b9D {α:Type} (e:En α):sl e []= .imm 1 []:=rfl
theorem c3y {α:Type} (e:En α) (x:α) (l:List α):sl e (x::l)= .imm e.esz (rws e (x::l)):=rfl
def eI:En Int:=⟨1,fun n=>[I n]⟩
def eU8:En UInt8:=⟨1,fun b=>[.lit (.int .u8 b.toNat)]⟩
def Xp:En Int:=⟨1,fun n=>[.lit (.int .u64 n)]⟩
def eB:En Bool:=⟨1,fun b=>[B b]⟩
def eS:En (List UInt8):=⟨1,fun s=>[S s]⟩
def eL {α:Type} (e:En α):En (List α):=⟨1,fun l=>[sl e l]⟩
theorem b7r:eI.esz=1:=by decide
theorem b8Q (n:Int):eI.enc n=[I n]:=rfl
theorem b3l:eU8.esz=1:=by decide
theorem b39 (n:UInt8):eU8.enc n=[.lit (.int .u8 n.toNat)]:=rfl
theorem a8U:Xp.esz=1:=by decide
theorem b1f (n:Int):Xp.enc n=[.lit (.int .u64 n)]:=rfl
theorem b9N:eB.esz=1:=by decide
theorem b9i (n:Bool):eB.enc n=[B n]:=rfl
theorem c1d:eS.esz=1:=by decide
theorem c0z (n:List UInt8):eS.enc n=[S n]:=rfl
theorem b8v {α:Type} (e:En α):(eL e).esz=1:=of_decide_eq_true rfl
theorem b8E {α:Type} (e:En α) (l:List α):(eL e).enc l=[sl e l]:=rfl
def atL {α:Type} (l:List α) (i:Int):Option α:=if 0≤i then l[i.toNat]? else none
def nL {α:Type} (l:List α) (a b:Int):Option (List α):=if 0≤a∧a≤b∧b≤l.length then some ((l.take b.toNat).drop a.toNat) else none
def inb (i:Int) (n:Nat):Bool:=decide (0≤i)&&decide (i.toNat<n)
def aB (n bytes:Nat):Bool:=decide (n*bytes≤bH)
def LR (l c:Int) (bytes:Nat):Bool:=decide (0≤l)&&decide (l≤c)&&decide (c*bytes≤bH)
def mx (a b:Int):Int:=if b>a then b else a
def mn (a b:Int):Int:=if b<a then b else a
def a1M (r:List (List V)):Nat:=r.length
def app (r q:List (List V)):List (List V):=r++q
def mkR (n:Nat) (r:List (List V)):List (List V):=r
def bK (row:List V) (r:List (List V)):List (List V):=row::r
def Lt (n k:Nat) (row:List V):List (List V):=List.replicate k row
def dZ (r:List (List V)) (i:Nat) (row:List V):List (List V):=r.set i row
section
variable {α:Type} {e:En α} {l l2:List α}
theorem a3o:a1M (rws e l)=l.length:=by simp [a1M,rws]
theorem b4f:app (rws e l) (rws e l2)=rws e (l++l2):=by simp [app,rws]
theorem mk0 (e:En α) (n:Nat):mkR n []=rws e []:=rfl
theorem a9x (n:Nat) (row:List V) (r:List (List V)):mkR n (row::r)=bK row (mkR n r):=rfl
theorem c1K (a:Int) (l:List Int):bK [I a] (rws eI l)=rws eI (a::l):=rfl
theorem c2s (a:List UInt8) (l:List (List UInt8)):bK [S a] (rws eS l)=rws eS (a::l):=rfl
theorem c1U (a:List α) (l:List (List α)):bK [sl e a] (rws (eL e) l)=rws (eL e) (a::l):=rfl
theorem b8n (l:List (List α)):bK [.imm 1 []] (rws (eL e) l)=rws (eL e) ([]::l):=rfl
theorem c2x (b:Bool) (l:List Bool):bK [B b] (rws eB l)=rws eB (b::l):=rfl
theorem b4C (a:Int) (l:List Int):bK [.lit (.int .u64 a)] (rws Xp l)=rws Xp (a::l):=rfl
theorem a0E (b:UInt8) (l:List UInt8):bK [.lit (.int .u8 b.toNat)] (rws eU8 l)=rws eU8 (b::l):=rfl
theorem rd (x:Int):((UInt8.ofInt x).toNat:Int)=IntKind.u8.wrap x:=by
 simp [UInt8.ofInt,IntKind.wrap,IntKind.bits,IntKind.signed]
 omega
theorem Gg (x:Int) (l:List UInt8):bK [.lit (.int .u8 (IntKind.u8.wrap x))] (rws eU8 l)=rws eU8 (UInt8.ofInt x::l):=by
 rw [←rd];rfl
theorem c3x (n:Nat) (h:n<256) (l:List UInt8):bK [.lit (.int .u8 (n:Int))] (rws eU8 l)=rws eU8 (UInt8.ofNat n::l):=by
 have:(UInt8.ofNat n).toNat=n:=by simp;omega
 rw [←a0E,this]
theorem b3h (n:Nat) (h:Nat.ble n 255=true) (l:List UInt8):bK [.lit (.int .u8 (no_index (OfNat.ofNat n:Int)))] (rws eU8 l)=rws eU8 ((OfNat.ofNat n:UInt8)::l):=by
 have h':=Nat.le_of_ble_eq_true h
 have:((OfNat.ofNat n:UInt8).toNat:Int)=(OfNat.ofNat n:Int):=by
  show ((UInt8.ofNat n).toNat:Int)=(n:Int)
  simp;omega
 rw [←a0E,this]
theorem c3O (l:List Int) (i:Nat) (a:Int):dZ (rws eI l) i [I a]=rws eI (l.set i a):=by simp [dZ,rws,eI]
theorem c0w (l:List Int) (i:Nat) (a:Int):dZ (rws Xp l) i [.lit (.int .u64 a)]=rws Xp (l.set i a):=by simp [dZ,rws,Xp]
theorem setB (l:List Bool) (i:Nat) (a:Bool):dZ (rws eB l) i [B a]=rws eB (l.set i a):=by simp [dZ,rws,eB]
theorem b7T (l:List (List UInt8)) (i:Nat) (a:List UInt8):dZ (rws eS l) i [S a]=rws eS (l.set i a):=by simp [dZ,rws,eS]
theorem c3L (l:List (List α)) (i:Nat) (a:List α):dZ (rws (eL e) l) i [sl e a]=rws (eL e) (l.set i a):=by simp [dZ,rws,eL]
theorem b71 (l:List UInt8) (i:Nat) (a:UInt8):dZ (rws eU8 l) i [.lit (.int .u8 a.toNat)]=rws eU8 (l.set i a):=by simp [dZ,rws,eU8]
theorem P4 (l:List UInt8) (i:Nat) (x:Int):dZ (rws eU8 l) i [.lit (.int .u8 (IntKind.u8.wrap x))]=rws eU8 (l.set i (UInt8.ofInt x)):=by
 rw [←rd,b71]
theorem a7D (e:En α) (x:α) (n k:Nat):Lt n k (e.enc x)=rws e (List.replicate k x):=by simp [Lt,rws]
theorem b9A (m:Nat) (h:e.esz=m):V.cz (.imm m (rws e l))=sl e l:=by subst h;rfl
theorem a2r (r:List (List V)):r.drop 0=r:=rfl
theorem c1Y (k:Nat):(rws e l).drop k=rws e (l.drop k):=by simp [rws]
theorem iN (e:En α) (l:List α):(l=[]∧sl e l= .imm 1 [])∨(l≠[]∧sl e l= .imm e.esz (rws e l)):=by
 cases l with
 |nil=>exact .inl ⟨rfl,rfl⟩
 |cons x l=>exact .inr ⟨by simp,rfl⟩
theorem c3j:(sl e l).cz=sl e l:=by
 cases l with
 |nil=>rfl
 |cons x l=>rfl
theorem b8D:(sl e l).czA=sl e l:=by
 cases l with
 |nil=>rfl
 |cons x l=>rfl
theorem c0W:(sl e l).czR=sl e l:=by
 cases l with
 |nil=>rfl
 |cons x l=>rfl
theorem b2H:(sl e l).cell=true:=by
 rcases iN e l with ⟨_,h⟩|⟨_,h⟩<;>rw [h]<;>rfl
theorem c2L:(sl e l).cl=true:=by
 rcases iN e l with ⟨_,h⟩|⟨_,h⟩<;>rw [h]<;>rfl
theorem a7l:(sl e l).cells=[sl e l]:=by
 rcases iN e l with ⟨_,h⟩|⟨_,h⟩<;>rw [h]<;>rfl
theorem b47:dG (sl e l)=[]:=by
 rcases iN e l with ⟨_,h⟩|⟨_,h⟩<;>rw [h]<;>rfl
theorem b6c:oF (sl e l)=[]:=by
 rcases iN e l with ⟨_,h⟩|⟨_,h⟩<;>rw [h]<;>rfl
theorem a1S {h:au}:ma h (sl e l)=some (sl e l,[]):=by
 rcases iN e l with ⟨_,h⟩|⟨_,h⟩<;>rw [h]<;>rfl
theorem YO {h:au} {own:Bool} {ids:List Nat}:bU h own ids (sl e l)=some (sl e l,ids,[]):=by
 rcases iN e l with ⟨_,h⟩|⟨_,h⟩<;>rw [h]<;>rfl
theorem a2Z {h:au} {own:Bool} {ids:List Nat}:cW h own ids (sl e l)=some (sl e l,ids,[]):=by
 rcases iN e l with ⟨_,h⟩|⟨_,h⟩<;>rw [h]<;>rfl
theorem b9E {ids:List Nat}:unV ids (sl e l)=sl e l:=by
 rcases iN e l with ⟨_,h⟩|⟨_,h⟩<;>rw [h]<;>rfl
theorem a9t {ids:List Nat}:jE ids (sl e l)=sl e l:=by
 rcases iN e l with ⟨_,h⟩|⟨_,h⟩<;>rw [h]<;>rfl
theorem a9b {ids:List Nat}:yg ids (sl e l)=sl e l:=by
 rcases iN e l with ⟨_,h⟩|⟨_,h⟩<;>rw [h]<;>rfl
theorem b1Y:mT (sl e l)=false:=by
 rcases iN e l with ⟨_,h⟩|⟨_,h⟩<;>rw [h]<;>rfl
theorem b1P:B0 (sl e l)=false:=by
 rcases iN e l with ⟨_,h⟩|⟨_,h⟩<;>rw [h]<;>rfl
theorem b1w:pz (sl e l)=false:=by
 rcases iN e l with ⟨_,h⟩|⟨_,h⟩<;>rw [h]<;>rfl
theorem b9n {h:au} {bs:List Nat}:fzC h bs (sl e l)=sl e l:=by
 rcases iN e l with ⟨_,h⟩|⟨_,h⟩<;>rw [h]<;>rfl
theorem b8m {h:au} {bs:List Nat}:fzA h bs (sl e l)=sl e l:=by
 rcases iN e l with ⟨_,h⟩|⟨_,h⟩<;>rw [h]<;>rfl
theorem b5w {h:au} {m:Nat} {kp:List Nat}:mL h m kp (sl e l)=some (sl e l):=by
 rcases iN e l with ⟨_,h⟩|⟨_,h⟩<;>rw [h]<;>rfl
theorem b2y {h:au} {m:Nat} {kp:List Nat}:Br h m kp (sl e l)=some (sl e l):=by
 rcases iN e l with ⟨_,h⟩|⟨_,h⟩<;>rw [h]<;>rfl
theorem b4D {h:au} {m:Nat} {kp:List Nat}:DI h m kp (sl e l)=some (sl e l):=by
 rcases iN e l with ⟨_,h⟩|⟨_,h⟩<;>rw [h]<;>rfl
theorem c0B:okC (sl e l)=true:=by
 rcases iN e l with ⟨_,h⟩|⟨_,h⟩<;>rw [h]<;>rfl
theorem QW {h:au} (m:Nat) (hm:e.esz=m):cx h m (sl e l)=some (rws e l):=by
 subst hm
 rcases iN e l with ⟨rfl,h⟩|⟨hl,h⟩
 ·rw [h];simp [cx,rws]
 ·rw [h];simp [cx]
theorem W3:a1t (sl e l)=false:=by
 rcases iN e l with ⟨_,h⟩|⟨_,h⟩<;>rw [h]<;>rfl
end
end Go.AI
