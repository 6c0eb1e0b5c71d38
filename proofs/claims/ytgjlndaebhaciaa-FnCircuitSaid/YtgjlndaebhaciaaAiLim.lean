/- The limit of the abstract machine's runs: more rounds tell the same; the equations of the limit. -/
import Derived.Test.YtgjlndaebhaciaaAiDefs
namespace Go.AI
theorem vf {C C':aM} (hC: ∀f a b r,C f a b=some r→C' f a b=some r) {ow:bB} {h:ak} {new:Nat} {f:FuncId} {args:List V} {r:V×Upd}
 (hr:gn C ow h new f args=some r):gn C' ow h new f args=some r:=by
 unfold gn at hr ⊢
 cases hp:bQ ow h f args with
 |none=>rw [hp] at hr;cases hr
 |some p=>
  obtain ⟨args',blks,ids,bor⟩:=p
  rw [hp] at hr
  dsimp only at hr ⊢
  cases hc:C f (jx (ow f) args') (jI (ow f) blks) with
  |none=>rw [hc] at hr;cases hr
  |some q=>rw [hC _ _ _ _ hc];rw [hc] at hr;exact hr
theorem wz {C C':aM} (hC: ∀f a b r,C f a b=some r→C' f a b=some r) {ow:bB} {o:AOp} {ev:Opd→V} {h:ak} {new:Nat} {r:V×Upd}
 (hr:ah C ow o ev h new=some r):ah C' ow o ev h new=some r:=by
 cases o
 case call f args=>simp only [ah] at hr ⊢;exact vf hC hr
 case dyn f args=>
  simp only [ah] at hr ⊢
  split at hr
  ·exact vf hC hr
  ·cases hr
 all_goals exact hr
theorem zU {C:Nat→aM} {D:aM} (hD: ∀f a b r,D f a b=some r→ ∃n,C n f a b=some r) (n0:Nat) {ow:bB} {o:AOp} {ev:Opd→V} {h:ak} {new:Nat} {r:V×Upd}
 (hr:ah D ow o ev h new=some r): ∃n,ah (C n) ow o ev h new=some r:=by
 have key: ∀f args,gn D ow h new f args=some r→ ∃n,gn (C n) ow h new f args=some r:=by
  intro f args hr
  unfold gn at hr
  cases hp:bQ ow h f args with
  |none=>rw [hp] at hr;cases hr
  |some p=>
   obtain ⟨args',blks,ids,bor⟩:=p
   rw [hp] at hr
   dsimp only at hr
   cases hc:D f (jx (ow f) args') (jI (ow f) blks) with
   |none=>rw [hc] at hr;cases hr
   |some q=>
    rw [hc] at hr
    obtain ⟨n,hn⟩:=hD _ _ _ _ hc
    refine ⟨n, ?_⟩
    unfold gn
    rw [hp]
    dsimp only
    rw [hn]
    exact hr
 cases o
 case call f args=>simp only [ah] at hr ⊢;exact key _ _ hr
 case dyn f args=>
  simp only [ah] at hr ⊢
  split at hr
  ·exact key _ _ hr
  ·cases hr
 all_goals exact ⟨n0,hr⟩
theorem xX {C C':aM} (hC: ∀f a b r,C f a b=some r→C' f a b=some r) {ow:bB} {st:St} {s:aQ} {n:Nat} {r:St}
 (hr:o7 C ow st s n=some r):o7 C' ow st s n=some r:=by
 unfold o7 at hr ⊢
 split at hr
 ·cases hr
 ·exact hr
 ·split at hr
  ·rename_i v u ho;rw [wz hC ho];exact hr
  ·cases hr
theorem kf {C C':aM} (hC: ∀f a b r,C f a b=some r→C' f a b=some r) {ow:bB}: ∀{l:List aQ} {n:Nat} {st:St} {r:St},
 dt C ow l n st=some r→dt C' ow l n st=some r
 |[],_,_,_,hr=>hr
 |s::l,n,st,r,hr=>by
  simp only [dt] at hr ⊢
  split at hr
  ·rename_i st' h;rw [xX hC h];exact kf hC hr
  ·cases hr
theorem xW {C C':aM} (hC: ∀f a b r,C f a b=some r→C' f a b=some r) {ow:bB} {st:St} {s:aQ} {i n:Nat} {r:St×Rec}
 (hr:lR C ow st s i n=some r):lR C' ow st s i n=some r:=by
 unfold lR at hr ⊢
 split at hr
 ·cases hr
 ·exact hr
 ·split at hr
  ·rename_i v u ho;rw [wz hC ho];exact hr
  ·cases hr
theorem km {C C':aM} (hC: ∀f a b r,C f a b=some r→C' f a b=some r) {ow:bB} {base:Nat}: ∀{l:List aQ} {n:Nat} {st:St} {r:St×List Rec},
 dz C ow base l n st=some r→dz C' ow base l n st=some r
 |[],_,_,_,hr=>hr
 |s::l,n,st,r,hr=>by
  simp only [dz] at hr ⊢
  split at hr
  ·rename_i st' rc h
   rw [xW hC h]
   dsimp only
   split at hr
   ·rename_i st2 rs h2;rw [km hC h2];exact hr
   ·cases hr
  ·cases hr
theorem bq {C C':aM} (hC: ∀f a b r,C f a b=some r→C' f a b=some r) {ow:bB}: ∀(n m:Nat),n≤m→ ∀{c:aB} {st:St} {r:aJ×St},
 bf C ow n c st=some r→bf C' ow m c st=some r
 |0,_,_,_,_,_,hr=>by simp [bf] at hr
 |n+1,0,h,_,_,_,_=>absurd h (by omega)
 |n+1,m+1,h,c,st,r,hr=>by
  have ih:=fun {c st r}=>bq hC (ow:=ow) n m (by omega) (c:=c) (st:=st) (r:=r)
  cases c with
  |skip=>exact hr
  |region base steps live=>
   simp only [bf,iO] at hr ⊢
   split at hr
   ·rename_i st' h;rw [kf hC h];exact hr
   ·cases hr
  |drawn base steps deps live=>
   simp only [bf,nD] at hr ⊢
   split at hr
   ·rename_i st' rs h;rw [km hC h];exact hr
   ·cases hr
  |seq a b=>
   simp only [bf] at hr ⊢
   cases ha:bf C ow n a st with
   |none=>rw [ha] at hr;cases hr
   |some p=>
    obtain ⟨e,st'⟩:=p
    rw [ih ha]
    rw [ha] at hr
    cases e with
    |normal=>exact ih hr
    |exit id=>exact hr
    |ret=>exact hr
  |cond c a b=>
   simp only [bf] at hr ⊢
   split at hr
   ·exact ih hr
   ·exact ih hr
   ·cases hr
  |block id c=>
   simp only [bf] at hr ⊢
   cases ha:bf C ow n c st with
   |none=>rw [ha] at hr;cases hr
   |some p=>rw [ih ha];rw [ha] at hr;exact hr
  |loop c=>
   simp only [bf] at hr ⊢
   cases ha:bf C ow n c st with
   |none=>rw [ha] at hr;cases hr
   |some p=>
    obtain ⟨e,st'⟩:=p
    rw [ih ha]
    rw [ha] at hr
    cases e with
    |normal=>exact ih hr
    |exit id=>exact hr
    |ret=>exact hr
  |exit id=>exact hr
  |ret=>exact hr
  |ghost g c=>
   simp only [bf] at hr ⊢
   split at hr
   ·exact ih hr
   ·cases hr
theorem xv (T:Tab) (ow:bB): ∀(n:Nat) f a b r,bT T ow n f a b=some r→bT T ow (n+1) f a b=some r
 |0,_,_,_,_,h=>by simp [bT] at h
 |n+1,f,a,b,r,h=>by
  simp only [bT] at h ⊢
  split at h
  ·cases h
  rotate_left
  ·exact h
  ·rename_i af haf
   cases he:bf (bT T ow n) ow n af.body (start a b) with
   |none=>rw [he] at h;simp [eD,Du] at h
   |some p=>
    have:=bq (xv T ow n) (ow:=ow) n (n+1) (by omega) he
    simp only [bT] at this
    rw [this]
    rw [he] at h
    exact h
theorem bp (T:Tab) (ow:bB) {n m:Nat} (h:n≤m): ∀f a b r,bT T ow n f a b=some r→bT T ow m f a b=some r:=by
 induction h with
 |refl=>exact fun _ _ _ _ h=>h
 |step _ ih=>exact fun f a b r h=>xv T ow _ f a b r (ih f a b r h)
open Classical in
noncomputable def lim {α:Type} (g:Nat→Option α):Option α:=if h: ∃n r,g n=some r then g h.choose else none
theorem G8 {α:Type} {g:Nat→Option α} (hm: ∀n m r,n≤m→g n=some r→g m=some r) {n:Nat} {r:α} (h:g n=some r):lim g=some r:=by
 have hx: ∃n r,g n=some r:=⟨n,r,h⟩
 unfold lim
 rw [dif_pos hx]
 obtain ⟨r',hr'⟩:=hx.choose_spec
 have h1:=hm _ (max n hx.choose) _ (Nat.le_max_left _ _) h
 have h2:=hm _ (max n hx.choose) _ (Nat.le_max_right _ _) hr'
 rw [h1] at h2
 rw [hr', ←h2]
theorem EJ {α:Type} {g:Nat→Option α} {r:α} (h:lim g=some r): ∃n,g n=some r:=by
 unfold lim at h
 split at h
 ·exact ⟨_,h⟩
 ·cases h
noncomputable def Call (T:Tab) (ow:bB):aM:=fun f a b=>lim fun n=>bT T ow n f a b
noncomputable def cH (T:Tab) (ow:bB) (c:aB) (st:St):Option (aJ×St):=lim fun n=>bf (bT T ow n) ow n c st
section
variable {T:Tab} {ow:bB}
theorem PA {n m:Nat} (h:n≤m) {c:aB} {st:St} {r:aJ×St} (hr:bf (bT T ow n) ow n c st=some r):bf (bT T ow m) ow m c st=some r:=
 bq (bp T ow h) n m h hr
theorem cr {n:Nat} {c:aB} {st:St} {r:aJ×St} (h:bf (bT T ow n) ow n c st=some r):cH T ow c st=some r:=
 G8 (g:=fun n=>bf (bT T ow n) ow n c st) (fun _ _ _ hnm h=>PA hnm h) h
theorem dK {c:aB} {st:St} {r:aJ×St} (h:cH T ow c st=some r): ∃n,bf (bT T ow n) ow n c st=some r:=EJ h
theorem Bm {n:Nat} {f:FuncId} {a:List V} {b:List Blk} {r:V×List Blk} (h:bT T ow n f a b=some r):Call T ow f a b=some r:=
 G8 (g:=fun n=>bT T ow n f a b) (fun _ _ _ hnm h=>bp T ow hnm _ _ _ _ h) h
theorem ww {f:FuncId} {a:List V} {b:List Blk} {r:V×List Blk} (h:Call T ow f a b=some r): ∃n,bT T ow n f a b=some r:=EJ h
theorem ld {α:Type} {a b:Option α} (h1: ∀r,a=some r→b=some r) (h2: ∀r,b=some r→a=some r):a=b:=by
 cases a with
 |none=>cases b with
  |none=>rfl
  |some r=>exact absurd (h2 r rfl) (by simp)
 |some r=>exact (h1 r rfl).symm
theorem xO: ∀{l:List aQ} {n:Nat} {st:St} {r:St},dt (Call T ow) ow l n st=some r→ ∃k,dt (bT T ow k) ow l n st=some r
 |[],_,_,_,h=>⟨0,h⟩
 |s::l,n,st,r,h=>by
  simp only [dt] at h
  cases h1:o7 (Call T ow) ow st s n with
  |none=>rw [h1] at h;cases h
  |some st'=>
   rw [h1] at h
   obtain ⟨k2,hk2⟩:=xO h
   have: ∃k,o7 (bT T ow k) ow st s n=some st':=by
    unfold o7 at h1 ⊢
    split at h1
    ·cases h1
    ·exact ⟨0,h1⟩
    ·split at h1
     ·rename_i v u ho
      obtain ⟨k,hk⟩:=zU (C:=bT T ow) (D:=Call T ow) (fun _ _ _ _ h=>ww h) 0 ho
      exact ⟨k,by rw [hk];exact h1⟩
     ·cases h1
   obtain ⟨k1,hk1⟩:=this
   refine ⟨max k1 k2, ?_⟩
   simp only [dt]
   rw [xX (bp T ow (Nat.le_max_left k1 k2)) hk1]
   exact kf (bp T ow (Nat.le_max_right k1 k2)) hk2
theorem wE {base:Nat}: ∀{l:List aQ} {n:Nat} {st:St} {r:St×List Rec},dz (Call T ow) ow base l n st=some r→ ∃k,dz (bT T ow k) ow base l n st=some r
 |[],_,_,_,h=>⟨0,h⟩
 |s::l,n,st,r,h=>by
  simp only [dz] at h
  cases h1:lR (Call T ow) ow st s n (base+n) with
  |none=>rw [h1] at h;cases h
  |some p=>
   obtain ⟨st',rc⟩:=p
   rw [h1] at h
   dsimp only at h
   cases h2:dz (Call T ow) ow base l (n+1) st' with
   |none=>rw [h2] at h;cases h
   |some q=>
    obtain ⟨st2,rs⟩:=q
    rw [h2] at h
    obtain ⟨k2,hk2⟩:=wE h2
    have: ∃k,lR (bT T ow k) ow st s n (base+n)=some (st',rc):=by
     unfold lR at h1 ⊢
     split at h1
     ·cases h1
     ·exact ⟨0,h1⟩
     ·split at h1
      ·rename_i v u ho
       obtain ⟨k,hk⟩:=zU (C:=bT T ow) (D:=Call T ow) (fun _ _ _ _ h=>ww h) 0 ho
       exact ⟨k,by rw [hk];exact h1⟩
      ·cases h1
    obtain ⟨k1,hk1⟩:=this
    refine ⟨max k1 k2, ?_⟩
    simp only [dz]
    rw [xW (bp T ow (Nat.le_max_left k1 k2)) hk1]
    dsimp only
    rw [km (bp T ow (Nat.le_max_right k1 k2)) hk2]
    exact h
theorem wN (k:Nat): ∀f a b r,bT T ow k f a b=some r→Call T ow f a b=some r:=fun _ _ _ _ h=>Bm h
theorem JG (st:St):cH T ow .skip st=some (.normal,st):=cr (n:=1) rfl
theorem It (id:Nat) (st:St):cH T ow (.exit id) st=some (.exit id,st):=cr (n:=1) rfl
theorem NG (st:St):cH T ow .ret st=some (.ret,st):=cr (n:=1) rfl
theorem vn (base:Nat) (steps:List aQ) (live:List Nat) (st:St):cH T ow (.region base steps live) st=iO (Call T ow) ow base steps live st:=by
 refine ld (fun r h=> ?_) (fun r h=> ?_)
 ·obtain ⟨n,hn⟩:=dK h
  cases n with
  |zero=>simp [bf] at hn
  |succ n=>
   simp only [bf,iO] at hn ⊢
   split at hn
   ·rename_i st' h';rw [kf (wN (n+1)) h'];exact hn
   ·cases hn
 ·unfold iO at h
  split at h
  ·rename_i st' h'
   obtain ⟨k,hk⟩:=xO h'
   refine cr (n:=k+1) ?_
   simp only [bf,iO]
   rw [kf (bp T ow (Nat.le_succ k)) hk]
   exact h
  ·cases h
theorem Ff (base:Nat) (steps:List aQ) (deps:List (List Nat)) (live:List Nat) (st:St):
 cH T ow (.drawn base steps deps live) st=nD (Call T ow) ow base steps deps live st:=by
 refine ld (fun r h=> ?_) (fun r h=> ?_)
 ·obtain ⟨n,hn⟩:=dK h
  cases n with
  |zero=>simp [bf] at hn
  |succ n=>
   simp only [bf,nD] at hn ⊢
   split at hn
   ·rename_i st' rs h';rw [km (wN (n+1)) h'];exact hn
   ·cases hn
 ·unfold nD at h
  split at h
  ·rename_i st' rs h'
   obtain ⟨k,hk⟩:=wE h'
   refine cr (n:=k+1) ?_
   simp only [bf,nD]
   rw [km (bp T ow (Nat.le_succ k)) hk]
   exact h
  ·cases h
theorem uh (a b:aB) (st:St):cH T ow (.seq a b) st=(match cH T ow a st with
 |some (.normal,st')=>cH T ow b st'
 |r=>r):=by
 refine ld (fun r h=> ?_) (fun r h=> ?_)
 ·obtain ⟨n,hn⟩:=dK h
  cases n with
  |zero=>simp [bf] at hn
  |succ n=>
   simp only [bf] at hn
   cases ha:bf (bT T ow (n+1)) ow n a st with
   |none=>rw [ha] at hn;cases hn
   |some p=>
    obtain ⟨e,st'⟩:=p
    rw [cr (bq (fun _ _ _ _ h=>h) n (n+1) (by omega) ha)]
    rw [ha] at hn
    cases e with
    |normal=>exact cr (bq (fun _ _ _ _ h=>h) n (n+1) (by omega) hn)
    |exit id=>exact hn
    |ret=>exact hn
 ·cases ha:cH T ow a st with
  |none=>rw [ha] at h;cases h
  |some p=>
   obtain ⟨e,st'⟩:=p
   rw [ha] at h
   obtain ⟨n,hn⟩:=dK ha
   cases e with
   |normal=>
    obtain ⟨m,hm⟩:=dK (show cH T ow b st'=some r from h)
    refine cr (n:=max n m+1) ?_
    simp only [bf]
    rw [bq (bp T ow (by omega)) n (max n m) (by omega) hn]
    exact bq (bp T ow (by omega)) m (max n m) (by omega) hm
   |exit id=>
    refine cr (n:=n+1) ?_
    simp only [bf]
    rw [bq (bp T ow (by omega)) n n (by omega) hn]
    exact h
   |ret=>
    refine cr (n:=n+1) ?_
    simp only [bf]
    rw [bq (bp T ow (by omega)) n n (by omega) hn]
    exact h
theorem Jz (c:Opd) (a b:aB) (st:St):cH T ow (.cond c a b) st=(match st.ev c with
 | .lit (.bool true)=>cH T ow a st
 | .lit (.bool false)=>cH T ow b st
 |_=>none):=by
 refine ld (fun r h=> ?_) (fun r h=> ?_)
 ·obtain ⟨n,hn⟩:=dK h
  cases n with
  |zero=>simp [bf] at hn
  |succ n=>
   simp only [bf] at hn
   split at hn
   ·rename_i hc;simp only [hc];exact cr (bq (fun _ _ _ _ h=>h) n (n+1) (by omega) hn)
   ·rename_i hc;simp only [hc];exact cr (bq (fun _ _ _ _ h=>h) n (n+1) (by omega) hn)
   ·cases hn
 ·split at h
  ·rename_i hc
   obtain ⟨n,hn⟩:=dK h
   refine cr (n:=n+1) ?_
   simp only [bf,hc]
   exact bq (bp T ow (by omega)) n n (by omega) hn
  ·rename_i hc
   obtain ⟨n,hn⟩:=dK h
   refine cr (n:=n+1) ?_
   simp only [bf,hc]
   exact bq (bp T ow (by omega)) n n (by omega) hn
  ·cases h
theorem tf (id:Nat) (c:aB) (st:St):cH T ow (.block id c) st=(match cH T ow c st with
 |some (.exit id',st')=>if id'=id then some (.normal,st') else some (.exit id',st')
 |r=>r):=by
 refine ld (fun r h=> ?_) (fun r h=> ?_)
 ·obtain ⟨n,hn⟩:=dK h
  cases n with
  |zero=>simp [bf] at hn
  |succ n=>
   simp only [bf] at hn
   cases ha:bf (bT T ow (n+1)) ow n c st with
   |none=>rw [ha] at hn;cases hn
   |some p=>
    rw [cr (bq (fun _ _ _ _ h=>h) n (n+1) (by omega) ha)]
    rw [ha] at hn
    exact hn
 ·cases ha:cH T ow c st with
  |none=>rw [ha] at h;cases h
  |some p=>
   obtain ⟨n,hn⟩:=dK ha
   refine cr (n:=n+1) ?_
   simp only [bf]
   rw [bq (bp T ow (by omega)) n n (by omega) hn]
   rw [ha] at h
   exact h
theorem zS (c:aB) (st:St):cH T ow (.loop c) st=(match cH T ow c st with
 |some (.normal,st')=>cH T ow (.loop c) st'
 |r=>r):=by
 refine ld (fun r h=> ?_) (fun r h=> ?_)
 ·obtain ⟨n,hn⟩:=dK h
  cases n with
  |zero=>simp [bf] at hn
  |succ n=>
   simp only [bf] at hn
   cases ha:bf (bT T ow (n+1)) ow n c st with
   |none=>rw [ha] at hn;cases hn
   |some p=>
    obtain ⟨e,st'⟩:=p
    rw [cr (bq (fun _ _ _ _ h=>h) n (n+1) (by omega) ha)]
    rw [ha] at hn
    cases e with
    |normal=>exact cr (bq (fun _ _ _ _ h=>h) n (n+1) (by omega) hn)
    |exit id=>exact hn
    |ret=>exact hn
 ·cases ha:cH T ow c st with
  |none=>rw [ha] at h;cases h
  |some p=>
   obtain ⟨e,st'⟩:=p
   rw [ha] at h
   obtain ⟨n,hn⟩:=dK ha
   cases e with
   |normal=>
    obtain ⟨m,hm⟩:=dK (show cH T ow (.loop c) st'=some r from h)
    refine cr (n:=max n m+1) ?_
    simp only [bf]
    rw [bq (bp T ow (by omega)) n (max n m) (by omega) hn]
    exact bq (bp T ow (by omega)) m (max n m) (by omega) hm
   |exit id=>
    refine cr (n:=n+1) ?_
    simp only [bf]
    rw [bq (bp T ow (by omega)) n n (by omega) hn]
    exact h
   |ret=>
    refine cr (n:=n+1) ?_
    simp only [bf]
    rw [bq (bp T ow (by omega)) n n (by omega) hn]
    exact h
theorem fg (g:bV) (c:aB) (st:St):cH T ow (.ghost g c) st=(match ba st g with
 |some st'=>cH T ow c st'
 |none=>none):=by
 refine ld (fun r h=> ?_) (fun r h=> ?_)
 ·obtain ⟨n,hn⟩:=dK h
  cases n with
  |zero=>simp [bf] at hn
  |succ n=>
   simp only [bf] at hn
   split at hn
   ·rename_i st' hg;simp only [hg];exact cr (bq (fun _ _ _ _ h=>h) n (n+1) (by omega) hn)
   ·cases hn
 ·split at h
  ·rename_i st' hg
   obtain ⟨n,hn⟩:=dK h
   refine cr (n:=n+1) ?_
   simp only [bf,hg]
   exact bq (bp T ow (by omega)) n n (by omega) hn
  ·cases h
theorem Hd (f:FuncId) (a:List V) (b:List Blk):Call T ow f a b=(match T f with
 |none=>none
 |some (.code af)=>Du af (eD af b.length (cH T ow af.body (start a b)))
 |some (.ext g)=>g a b):=by
 refine ld (fun r h=> ?_) (fun r h=> ?_)
 ·obtain ⟨n,hn⟩:=ww h
  cases n with
  |zero=>simp [bT] at hn
  |succ n=>
   simp only [bT] at hn
   split at hn
   ·cases hn
   rotate_left
   ·rename_i g hg;simp only [hg];exact hn
   ·rename_i af haf
    cases he:bf (bT T ow n) ow n af.body (start a b) with
    |none=>rw [he] at hn;simp [eD,Du] at hn
    |some p=>simp only [haf];rw [cr he];rw [he] at hn;exact hn
 ·split at h
  ·cases h
  rotate_left
  ·rename_i g hg
   refine Bm (n:=1) ?_
   simp only [bT,hg]
   exact h
  ·rename_i af haf
   cases he:cH T ow af.body (start a b) with
   |none=>rw [he] at h;simp [eD,Du] at h
   |some p=>
    obtain ⟨n,hn⟩:=dK he
    refine Bm (n:=n+1) ?_
    simp only [bT,haf]
    rw [hn]
    rw [he] at h
    exact h
end
end Go.AI
set_option linter.unusedVariables false
set_option linter.unusedSimpArgs false
namespace Go.AI
def br {α:Type} (c:Bool) (x y:α):α:=match c with
 |true=>x
 |false=>y
theorem bC {α:Type} (x y:α):br true x y=x:=rfl
theorem aC {α:Type} (x y:α):br false x y=y:=rfl
theorem Z6 {α:Type} (c:Bool) (x y:α):br (!c) x y=br c y x:=by cases c<;>rfl
theorem vP {α:Type} {c:Bool} {x y r:α} (h:c=true) (hx:x=r):br c x y=r:=by subst h;exact hx
theorem Jj {α:Type} {c:Bool} {x y r:α} (h:c=false) (hy:y=r):br c x y=r:=by subst h;exact hy
theorem brc {α:Type} {c:Bool} {x y r:α} (h:br c x y=r):(c=true∧x=r)∨(c=false∧y=r):=by
 cases c
 ·exact .inr ⟨rfl,h⟩
 ·exact .inl ⟨rfl,h⟩
theorem brg {α:Type} {c:Bool} {x:Option α} {r:α} (h:br c x none=some r):c=true∧x=some r:=by
 cases c
 ·cases h
 ·exact ⟨rfl,h⟩
theorem bd {α β:Type} {x:Option α} {g:α→Option β} {r:β} (h:x.bind g=some r): ∃a,x=some a∧g a=some r:=by
 cases x with
 |none=>cases h
 |some a=>exact ⟨a,rfl,h⟩
inductive Fr where
 |code (c:aB)
 |steps (n:Nat) (ss:List aQ) (live:List Nat)
 |dr (base i:Nat) (ss:List aQ) (deps:List (List Nat)) (live:List Nat) (rs:List Rec)
 |blk (id:Nat)
section
variable {R:Type}
noncomputable def jg (T:Tab) (ow:bB) (k:aJ→St→Option R):List Fr→Option Nat→St→Option R
 |[],none,st=>k .normal st
 |[],some id,st=>k (.exit id) st
 | .blk id'::K,some id,st=>if id'=id then jg T ow k K none st else jg T ow k K (some id) st
 |_::K,some id,st=>jg T ow k K (some id) st
 | .blk _::K,none,st=>jg T ow k K none st
 | .code c::K,none,st=>match cH T ow c st with
   |some (.normal,st')=>jg T ow k K none st'
   |some (.exit id,st')=>jg T ow k K (some id) st'
   |some (.ret,st')=>k .ret st'
   |none=>none
 | .steps n ss live::K,none,st=>match dt (Call T ow) ow ss n st with
   |some st'=>jg T ow k K none (trim live st')
   |none=>none
 | .dr base i ss deps live rs::K,none,st=>match dz (Call T ow) ow base ss i st with
   |some (st',rs')=>br (hU deps (rs++rs'.filter Rec.loud)) (jg T ow k K none (trim live st')) none
   |none=>none
noncomputable def Rn (T:Tab) (ow:bB) (k:aJ→St→Option R) (K:List Fr) (st:St):Option R:=jg T ow k K none st
noncomputable def Unw (T:Tab) (ow:bB) (k:aJ→St→Option R) (id:Nat) (K:List Fr) (st:St):Option R:=jg T ow k K (some id) st
noncomputable def goR (T:Tab) (ow:bB) (k:aJ→St→Option R) (K:List Fr):Option (aJ×St)→Option R
 |some (.normal,st')=>Rn T ow k K st'
 |some (.exit id,st')=>Unw T ow k id K st'
 |some (.ret,st')=>k .ret st'
 |none=>none
variable {T:Tab} {ow:bB} {k:aJ→St→Option R}
theorem bH (c:aB) (K:List Fr) (st:St):Rn T ow k (.code c::K) st=goR T ow k K (cH T ow c st):=by
 unfold Rn jg goR
 cases cH T ow c st with
 |none=>rfl
 |some p=>obtain ⟨e,st'⟩:=p;cases e<;>rfl
theorem Sh (st:St):Rn T ow k [] st=k .normal st:=rfl
theorem QV (id:Nat) (K:List Fr) (st:St):Rn T ow k (.blk id::K) st=Rn T ow k K st:=rfl
theorem OI (K:List Fr) (st:St):Rn T ow k (.code .skip::K) st=Rn T ow k K st:=by rw [bH,JG];rfl
theorem KG (id:Nat) (K:List Fr) (st:St):Rn T ow k (.code (.exit id)::K) st=Unw T ow k id K st:=by rw [bH,It];rfl
theorem QX (K:List Fr) (st:St):Rn T ow k (.code .ret::K) st=k .ret st:=by rw [bH,NG];rfl
theorem SN (a b:aB) (K:List Fr) (st:St):Rn T ow k (.code (.seq a b)::K) st=Rn T ow k (.code a:: .code b::K) st:=by
 rw [bH,uh,bH]
 cases cH T ow a st with
 |none=>rfl
 |some p=>
  obtain ⟨e,st'⟩:=p
  cases e with
  |normal=>simp only [goR];rw [bH];rfl
  |exit id=>rfl
  |ret=>rfl
theorem J0 (id:Nat) (c:aB) (K:List Fr) (st:St):Rn T ow k (.code (.block id c)::K) st=Rn T ow k (.code c:: .blk id::K) st:=by
 rw [bH,tf,bH]
 cases cH T ow c st with
 |none=>rfl
 |some p=>
  obtain ⟨e,st'⟩:=p
  cases e with
  |normal=>rfl
  |exit id'=>
   simp only [goR,Unw,Rn,jg]
   by_cases h:id'=id
   ·subst h;simp
   ·rw [if_neg h,if_neg (fun e=>h e.symm)]
  |ret=>rfl
noncomputable def OC (T:Tab) (ow:bB) (k:aJ→St→Option R) (a b:aB) (K:List Fr) (st:St):V→Option R
 | .lit (.bool c)=>br c (Rn T ow k (.code a::K) st) (Rn T ow k (.code b::K) st)
 |_=>none
theorem Ln (c:Opd) (a b:aB) (K:List Fr) (st:St):Rn T ow k (.code (.cond c a b)::K) st=OC T ow k a b K st (st.ev c):=by
 rw [bH,Jz]
 unfold OC
 split
 ·rename_i h;rw [h];exact (bH _ _ _).symm
 ·rename_i h;rw [h];exact (bH _ _ _).symm
 ·rename_i h1 h2
  split
  ·rename_i c' h;cases c'
   ·exact absurd h h2
   ·exact absurd h h1
  ·rfl
theorem Gv (a b:aB) (K:List Fr) (st:St) (c:Bool):OC T ow k a b K st (.lit (.bool c))=br c (Rn T ow k (.code a::K) st) (Rn T ow k (.code b::K) st):=rfl
noncomputable def ghR (T:Tab) (ow:bB) (k:aJ→St→Option R) (c:aB) (K:List Fr):Option St→Option R
 |some st'=>Rn T ow k (.code c::K) st'
 |none=>none
theorem IN (g:bV) (c:aB) (K:List Fr) (st:St):Rn T ow k (.code (.ghost g c)::K) st=ghR T ow k c K (ba st g):=by
 rw [bH,fg]
 cases ba st g with
 |none=>rfl
 |some st'=>simp only [ghR];rw [bH]
theorem Ob (c:aB) (K:List Fr) (st:St):ghR T ow k c K (some st)=Rn T ow k (.code c::K) st:=rfl
theorem YG (c:aB) (K:List Fr) (st:St):Rn T ow k (.code (.loop c)::K) st=goR T ow k K (cH T ow (.loop c) st):=bH _ _ _
theorem EE (K:List Fr) (st:St):goR T ow k K (some (.normal,st))=Rn T ow k K st:=rfl
theorem Oa (id:Nat) (K:List Fr) (st:St):goR T ow k K (some (.exit id,st))=Unw T ow k id K st:=rfl
theorem R0 (K:List Fr) (st:St):goR T ow k K (some (.ret,st))=k .ret st:=rfl
theorem Qd (id:Nat) (st:St):Unw T ow k id [] st=k (.exit id) st:=rfl
theorem LL (id:Nat) (c:aB) (K:List Fr) (st:St):Unw T ow k id (.code c::K) st=Unw T ow k id K st:=rfl
theorem T9 (id id':Nat) (K:List Fr) (st:St):Unw T ow k id (.blk id'::K) st=if id'=id then Rn T ow k K st else Unw T ow k id K st:=rfl
theorem Fb (n:Nat) (ss:List aQ) (live:List Nat) (K:List Fr) (st:St):Rn T ow k (.code (.region n ss live)::K) st=Rn T ow k (.steps n ss live::K) st:=by
 rw [bH,vn]
 unfold iO
 simp only [Rn,jg]
 cases dt (Call T ow) ow ss n st<;>rfl
theorem K6 (n:Nat) (ss:List aQ) (deps:List (List Nat)) (live:List Nat) (K:List Fr) (st:St):Rn T ow k (.code (.drawn n ss deps live)::K) st=Rn T ow k (.dr n 0 ss deps live []::K) st:=by
 rw [bH,Ff]
 unfold nD
 simp only [Rn,jg]
 cases dz (Call T ow) ow n ss 0 st with
 |none=>rfl
 |some p=>
  obtain ⟨st',rs⟩:=p
  simp only [List.nil_append]
  cases hU deps (rs.filter Rec.loud)<;>rfl
theorem zf (n:Nat) (live:List Nat) (K:List Fr) (st:St):Rn T ow k (.steps n [] live::K) st=Rn T ow k K (trim live st):=rfl
noncomputable def aft (T:Tab) (ow:bB) (k:aJ→St→Option R) (d:Option Nat) (n:Nat) (ss:List aQ) (live:List Nat) (K:List Fr) (st:St):Option (V×Upd)→Option R
 |some (v,u)=>Rn T ow k (.steps (n+1) ss live::K) ((st.upd u).put d v)
 |none=>none
variable {d:Option Nat} {n:Nat} {ss:List aQ} {live:List Nat} {K:List Fr} {st:St}
theorem J3 (op:AOp):Rn T ow k (.steps n (⟨d,op,none⟩::ss) live::K) st=aft T ow k d n ss live K st (ah (Call T ow) ow op st.ev st.heap n):=by
 unfold aft
 simp only [Rn,jg,dt,o7,St.want]
 cases ah (Call T ow) ow op st.ev st.heap n with
 |none=>rfl
 |some p=>obtain ⟨v,u⟩:=p;rfl
theorem MJ (v:V) (u:Upd):aft T ow k d n ss live K st (some (v,u))=Rn T ow k (.steps (n+1) ss live::K) ((st.upd u).put d v):=rfl
theorem NK:aft T ow k d n ss live K st none=none:=rfl
theorem Ts (c:Bool) (x y:Option (V×Upd)):aft T ow k d n ss live K st (br c x y)=br c (aft T ow k d n ss live K st x) (aft T ow k d n ss live K st y):=by cases c<;>rfl
theorem P9 {α:Type} (x:Option α) (f:α→Option (V×Upd)):aft T ow k d n ss live K st (x.bind f)=x.bind (fun a=>aft T ow k d n ss live K st (f a)):=by cases x<;>rfl
noncomputable def gd (T:Tab) (ow:bB) (k:aJ→St→Option R) (t:Nat) (b:Bool) (d:Option Nat) (op:AOp) (n:Nat) (ss:List aQ) (live:List Nat) (K:List Fr) (st:St):V→Option R
 | .lit (.bool c)=>br (c==b) (Rn T ow k (.steps n (⟨d,op,none⟩::ss) live::K) { st with e:=dj t (.lit (.bool c)) st.e })
  (Rn T ow k (.steps (n+1) ss live::K) ({ st with e:=dj t (.lit (.bool c)) st.e }.put d (.lit (.tuple #[]))))
 | .lit (.tuple _)=>Rn T ow k (.steps (n+1) ss live::K) (st.put d (.lit (.tuple #[])))
 |_=>none
theorem Aa {α:Type}: ∀{l:List (Nat×α)} {t:Nat} {v:α},bt l t=some v→dj t v l=l
 |[],_,_,h=>by simp [bt] at h
 | (j,u)::r,t,v,h=>by
   simp only [bt] at h
   simp only [dj]
   split at h
   ·rename_i e;cases h;subst e;simp
   ·rename_i e;rw [if_neg e,Aa h]
theorem Cy {v:V} {t:Nat} (h:st.get t=v) (hv:v≠ .undef):({ st with e:=dj t v st.e }:St)=st:=by
 unfold St.get at h
 cases ha:bt st.e t with
 |none=>rw [ha] at h;exact absurd h.symm hv
 |some u=>
  rw [ha] at h;cases h
  show ({ st with e:=dj t u st.e }:St)=st
  rw [Aa ha]
theorem Is (t:Nat) (b:Bool) (op:AOp):Rn T ow k (.steps n (⟨d,op,some (t,b)⟩::ss) live::K) st=gd T ow k t b d op n ss live K st (st.get t):=by
 cases hg:st.get t with
 |lit v=>
  cases v with
  |bool c=>
   simp only [gd]
   rw [Cy hg (by simp)]
   simp only [Rn,jg,dt,o7,St.want,hg]
   cases hcb:(c==b)
   ·simp [aC,hcb]
   ·simp [bC,hcb]
  |tuple xs=>simp only [gd];simp only [Rn,jg,dt,o7,St.want,hg]
  |_=>simp only [gd];simp only [Rn,jg,dt,o7,St.want,hg]
 |_=>simp only [gd];simp only [Rn,jg,dt,o7,St.want,hg]
theorem Sn (t:Nat) (op:AOp) (c:Bool):gd T ow k t true d op n ss live K st (.lit (.bool c))=
 br c (Rn T ow k (.steps n (⟨d,op,none⟩::ss) live::K) { st with e:=dj t (.lit (.bool true)) st.e })
  (Rn T ow k (.steps (n+1) ss live::K) ({ st with e:=dj t (.lit (.bool false)) st.e }.put d (.lit (.tuple #[])))):=by cases c<;>rfl
theorem Mh (t:Nat) (op:AOp) (c:Bool):gd T ow k t false d op n ss live K st (.lit (.bool c))=
 br c (Rn T ow k (.steps (n+1) ss live::K) ({ st with e:=dj t (.lit (.bool true)) st.e }.put d (.lit (.tuple #[]))))
  (Rn T ow k (.steps n (⟨d,op,none⟩::ss) live::K) { st with e:=dj t (.lit (.bool false)) st.e }):=by cases c<;>rfl
theorem P5 (t:Nat) (b:Bool) (op:AOp) (xs:Array Value):gd T ow k t b d op n ss live K st (.lit (.tuple xs))=Rn T ow k (.steps (n+1) ss live::K) (st.put d (.lit (.tuple #[]))):=rfl
variable {base i:Nat} {deps:List (List Nat)} {rs:List Rec} {fp:List Nat}
def HI (rs:List Rec) (i:Nat) (fp wr:List Nat):List Rec:=rs++[Rec.mk i fp wr].filter Rec.loud
theorem Gi:Rn T ow k (.dr base i [] deps live rs::K) st=br (hU deps rs) (Rn T ow k K (trim live st)) none:=by
 simp only [Rn,jg,dz,List.filter_nil,List.append_nil]
noncomputable def vJ (T:Tab) (ow:bB) (k:aJ→St→Option R) (d:Option Nat) (base i:Nat) (ss:List aQ) (deps:List (List Nat)) (live:List Nat) (rs:List Rec) (K:List Fr) (st:St) (fp:List Nat):Option (V×Upd)→Option R
 |some (v,u)=>br ((u.map (·.1)).all (fun b=>decide (b∈fp)||(st.heap b).isNone))
  (Rn T ow k (.dr base (i+1) ss deps live (HI rs i fp (u.map (·.1)))::K) ((st.upd u).put d v)) none
 |none=>none
theorem WN (op:AOp):Rn T ow k (.dr base i (⟨d,op,none⟩::ss) deps live rs::K) st=
 vJ T ow k d base i ss deps live rs K st (cL ow op st.ev st.heap) (ah (Call T ow) ow op st.ev (iZ st.heap (cL ow op st.ev st.heap)) (base+i)):=by
 unfold vJ
 simp only [Rn,jg,dz,lR,St.want]
 cases ho:ah (Call T ow) ow op st.ev (iZ st.heap (cL ow op st.ev st.heap)) (base+i) with
 |none=>rfl
 |some p=>
  obtain ⟨v,u⟩:=p
  dsimp only
  by_cases hc:(u.map (·.1)).all (fun b=>decide (b∈cL ow op st.ev st.heap)||(st.heap b).isNone)=true
  ·rw [hc,bC,if_pos rfl]
   dsimp only
   cases dz (Call T ow) ow base ss (i+1) ((st.upd u).put d v) with
   |none=>rfl
   |some q=>
    obtain ⟨st2,rs2⟩:=q
    simp only [HI,List.filter_cons,List.filter_nil,List.append_assoc]
    cases Rec.loud ⟨i,cL ow op st.ev st.heap,u.map (·.1)⟩<;>rfl
  ·rw [Bool.not_eq_true] at hc
   rw [hc,aC,if_neg (by decide)]
theorem JW (v:V) (u:Upd):vJ T ow k d base i ss deps live rs K st fp (some (v,u))=br ((u.map (·.1)).all (fun b=>decide (b∈fp)||(st.heap b).isNone))
 (Rn T ow k (.dr base (i+1) ss deps live (HI rs i fp (u.map (·.1)))::K) ((st.upd u).put d v)) none:=rfl
theorem G6 (v:V):vJ T ow k d base i ss deps live rs K st fp (some (v,[]))=Rn T ow k (.dr base (i+1) ss deps live (HI rs i fp [])::K) (st.put d v):=rfl
theorem HH:vJ T ow k d base i ss deps live rs K st fp none=none:=rfl
theorem Pl (c:Bool) (x y:Option (V×Upd)):vJ T ow k d base i ss deps live rs K st fp (br c x y)=br c (vJ T ow k d base i ss deps live rs K st fp x) (vJ T ow k d base i ss deps live rs K st fp y):=by cases c<;>rfl
theorem Hw {α:Type} (x:Option α) (f:α→Option (V×Upd)):vJ T ow k d base i ss deps live rs K st fp (x.bind f)=x.bind (fun a=>vJ T ow k d base i ss deps live rs K st fp (f a)):=by cases x<;>rfl
noncomputable def gdD (T:Tab) (ow:bB) (k:aJ→St→Option R) (t:Nat) (b:Bool) (d:Option Nat) (op:AOp) (base i:Nat) (ss:List aQ) (deps:List (List Nat)) (live:List Nat) (rs:List Rec) (K:List Fr) (st:St):V→Option R
 | .lit (.bool c)=>br (c==b) (Rn T ow k (.dr base i (⟨d,op,none⟩::ss) deps live rs::K) { st with e:=dj t (.lit (.bool c)) st.e })
  (Rn T ow k (.dr base (i+1) ss deps live rs::K) ({ st with e:=dj t (.lit (.bool c)) st.e }.put d (.lit (.tuple #[]))))
 | .lit (.tuple _)=>Rn T ow k (.dr base (i+1) ss deps live rs::K) (st.put d (.lit (.tuple #[])))
 |_=>none
theorem Hv (op:AOp) (g:Nat×Bool) (h:st.want (some g)=some false):Rn T ow k (.dr base i (⟨d,op,some g⟩::ss) deps live rs::K) st=Rn T ow k (.dr base (i+1) ss deps live rs::K) (st.put d (.lit (.tuple #[]))):=by
 simp only [Rn,jg,dz,lR,h]
 cases dz (Call T ow) ow base ss (i+1) (st.put d (.lit (.tuple #[]))) with
 |none=>rfl
 |some q=>obtain ⟨st2,rs2⟩:=q;rfl
theorem Xr (op:AOp) (g:Nat×Bool) (h:st.want (some g)=some true):Rn T ow k (.dr base i (⟨d,op,some g⟩::ss) deps live rs::K) st=Rn T ow k (.dr base i (⟨d,op,none⟩::ss) deps live rs::K) st:=by
 have h2:st.want none=some true:=rfl
 simp only [Rn,jg,dz,lR,h,h2]
theorem GW (op:AOp) (g:Nat×Bool) (h:st.want (some g)=none):Rn T ow k (.dr base i (⟨d,op,some g⟩::ss) deps live rs::K) st=none:=by
 simp only [Rn,jg,dz,lR,h]
theorem Bh (t:Nat) (b:Bool) (op:AOp):Rn T ow k (.dr base i (⟨d,op,some (t,b)⟩::ss) deps live rs::K) st=gdD T ow k t b d op base i ss deps live rs K st (st.get t):=by
 cases hg:st.get t with
 |lit v=>
  cases v with
  |bool c=>
   simp only [gdD]
   rw [Cy hg (by simp)]
   cases hcb:(c==b)
   ·rw [aC];exact Hv op (t,b) (by simp [St.want,hg,hcb])
   ·rw [bC];exact Xr op (t,b) (by simp [St.want,hg,hcb])
  |tuple xs=>exact Hv op (t,b) (by simp [St.want,hg])
  |_=>exact GW op (t,b) (by simp [St.want,hg])
 |_=>exact GW op (t,b) (by simp [St.want,hg])
theorem L1 (t:Nat) (op:AOp) (c:Bool):gdD T ow k t true d op base i ss deps live rs K st (.lit (.bool c))=
 br c (Rn T ow k (.dr base i (⟨d,op,none⟩::ss) deps live rs::K) { st with e:=dj t (.lit (.bool true)) st.e })
  (Rn T ow k (.dr base (i+1) ss deps live rs::K) ({ st with e:=dj t (.lit (.bool false)) st.e }.put d (.lit (.tuple #[])))):=by cases c<;>rfl
theorem Ii (t:Nat) (op:AOp) (c:Bool):gdD T ow k t false d op base i ss deps live rs K st (.lit (.bool c))=
 br c (Rn T ow k (.dr base (i+1) ss deps live rs::K) ({ st with e:=dj t (.lit (.bool true)) st.e }.put d (.lit (.tuple #[]))))
  (Rn T ow k (.dr base i (⟨d,op,none⟩::ss) deps live rs::K) { st with e:=dj t (.lit (.bool false)) st.e }):=by cases c<;>rfl
theorem Ju (t:Nat) (b:Bool) (op:AOp) (xs:Array Value):gdD T ow k t b d op base i ss deps live rs K st (.lit (.tuple xs))=Rn T ow k (.dr base (i+1) ss deps live rs::K) (st.put d (.lit (.tuple #[]))):=rfl
end
def Ft (af:aG) (m:Nat) (x:aJ) (st:St):Option (V×List Blk):=Du af (eD af m (some (x,st)))
theorem al {T:Tab} {ow:bB} {f:FuncId} {af:aG} (hT:T f=some (.code af)) (a:List V) (b:List Blk):Call T ow f a b=Rn T ow (Ft af b.length) [.code af.body] (start a b):=by
 rw [Hd,hT]
 dsimp only
 rw [bH]
 cases cH T ow af.body (start a b) with
 |none=>rfl
 |some p=>obtain ⟨e,st⟩:=p;cases e<;>rfl
def sN {S E:Type} (step:S→Option (S⊕E)):Nat→S→Option E
 |0,_=>none
 |n+1,s=>match step s with
  |none=>none
  |some (.inl s')=>sN step n s'
  |some (.inr e)=>some e
theorem zY {S E:Type} {step:S→Option (S⊕E)}: ∀{n:Nat} {s:S} {e:E},sN step n s=some e→sN step (n+1) s=some e
 |0,_,_,h=>by cases h
 |n+1,s,e,h=>by
  simp only [sN] at h ⊢
  split at h
  ·cases h
  ·rename_i s' hs;exact zY h
  ·rename_i e' hs;exact h
theorem PW {S E:Type} {step:S→Option (S⊕E)} {n m:Nat} (hnm:n≤m) {s:S} {e:E} (h:sN step n s=some e):sN step m s=some e:=by
 induction hnm with
 |refl=>exact h
 |step _ ih=>exact zY ih
noncomputable def Loop {S E:Type} (step:S→Option (S⊕E)) (s:S):Option E:=lim (fun n=>sN step n s)
theorem wm {S E:Type} {step:S→Option (S⊕E)} {s:S} {e:E} (h:Loop step s=some e): ∃n,sN step n s=some e:=EJ h
theorem AO {S E:Type} {step:S→Option (S⊕E)} {n:Nat} {s:S} {e:E} (h:sN step n s=some e):Loop step s=some e:=
 G8 (g:=fun n=>sN step n s) (fun _ _ _ hnm h=>PW hnm h) h
def GH {S E:Type} (lp:S→Option E):Option (S⊕E)→Option E
 |none=>none
 |some (.inl s')=>lp s'
 |some (.inr e)=>some e
theorem rf {S E:Type} (step:S→Option (S⊕E)) (s:S):Loop step s=GH (Loop step) (step s):=by
 refine ld (fun r h=> ?_) (fun r h=> ?_)
 ·obtain ⟨n,hn⟩:=wm h
  cases n with
  |zero=>cases hn
  |succ n=>
   simp only [sN] at hn
   split at hn
   ·cases hn
   ·rename_i s' hs;rw [hs];exact AO hn
   ·rename_i e' hs;rw [hs];exact hn
 ·cases hs:step s with
  |none=>rw [hs] at h;cases h
  |some o=>
   rw [hs] at h
   cases o with
   |inl s'=>
    obtain ⟨n,hn⟩:=wm (show Loop step s'=some r from h)
    exact AO (n:=n+1) (by simp only [sN,hs];exact hn)
   |inr e=>exact AO (n:=1) (by simp only [sN,hs];exact h)
def XT (x:aJ) (st:St):Option (aJ×St):=some (x,st)
theorem NV {T:Tab} {ow:bB} (c:aB) (st:St):cH T ow c st=Rn T ow XT [.code c] st:=by
 rw [bH]
 cases cH T ow c st with
 |none=>rfl
 |some p=>obtain ⟨e,st⟩:=p;cases e<;>rfl
theorem XJ {T:Tab} {ow:bB} {S E:Type} {c:aB} {step:S→Option (S⊕E)} {eS:S→St} {eE:E→aJ×St} (hne: ∀e,(eE e).1≠ .normal)
 (hb: ∀s o,step s=some o→Rn T ow XT [.code c] (eS s)=some (match o with
  | .inl s'=>(.normal,eS s')
  | .inr e=>eE e)) {s:S} {e:E} (h:Loop step s=some e):cH T ow (.loop c) (eS s)=some (eE e):=by
 obtain ⟨n,hn⟩:=wm h
 clear h
 induction n generalizing s with
 |zero=>cases hn
 |succ n ih=>
  simp only [sN] at hn
  rw [zS,NV]
  split at hn
  ·cases hn
  ·rename_i s' hs
   rw [hb s _ hs]
   exact ih hn
  ·rename_i e' hs
   rw [hb s _ hs]
   cases hn
   dsimp only
   have:=hne e
   revert this
   generalize eE e=p
   obtain ⟨x,st⟩:=p
   intro this
   cases x with
   |normal=>exact absurd rfl this
   |exit id=>rfl
   |ret=>rfl
def vS (g:bV):aB→aB
 | .seq a b=> .seq (vS g a) b
 | .block id a=> .block id (vS g a)
 |c=> .ghost g c
section
variable {R:Type} {T:Tab} {ow:bB} {k:aJ→St→Option R}
def ghE (T:Tab) (ow:bB) (c:aB):Option St→Option (aJ×St)→Option (aJ×St)
 |some _,r=>r
 |none,_=>none
theorem uU (g:bV): ∀(c:aB) (st:St),cH T ow (vS g c) st=(match ba st g with
 |some st'=>cH T ow c st'
 |none=>none)
 | .seq a b,st=>by
   simp only [vS]
   rw [uh,uU g a st]
   cases ba st g with
   |none=>rfl
   |some st'=>dsimp only;rw [uh]
 | .block id a,st=>by
   simp only [vS]
   rw [tf,uU g a st]
   cases ba st g with
   |none=>rfl
   |some st'=>dsimp only;rw [tf]
 | .skip,st=>fg _ _ _
 | .region _ _ _,st=>fg _ _ _
 | .drawn _ _ _ _,st=>fg _ _ _
 | .cond _ _ _,st=>fg _ _ _
 | .loop _,st=>fg _ _ _
 | .exit _,st=>fg _ _ _
 | .ret,st=>fg _ _ _
 | .ghost _ _,st=>fg _ _ _
noncomputable def cy (T:Tab) (ow:bB) (g:bV) (c:aB) (st:St):Option (aJ×St):=match cH T ow c st with
 |some (.normal,st')=>cH T ow (.loop (vS g c)) st'
 |r=>r
noncomputable def goL (T:Tab) (ow:bB) (k:aJ→St→Option R) (K:List Fr) (g:bV) (c:aB):Option St→Option R
 |some st'=>goR T ow k K (cy T ow g c st')
 |none=>none
theorem xY (g:bV) (c:aB) (st:St):cH T ow (.loop (vS g c)) st=(match ba st g with
 |some st'=>cy T ow g c st'
 |none=>none):=by
 rw [zS,uU]
 cases ba st g<;>rfl
theorem JJ (g:bV) (c:aB) (K:List Fr) (st:St):Rn T ow k (.code (.loop (vS g c))::K) st=goL T ow k K g c (ba st g):=by
 rw [bH,xY]
 cases ba st g<;>rfl
theorem OZ (K:List Fr) (g:bV) (c:aB) (st':St):goL T ow k K g c (some st')=goR T ow k K (cy T ow g c st'):=rfl
def ogM:Option St→Option (aJ×St)
 |some st=>some (.normal,st)
 |none=>none
def BW (g:bV):aJ→St→Option (aJ×St)
 | .normal,st=>ogM (ba st g)
 |x,st=>some (x,st)
theorem CG (g:bV) (st:St):BW g .normal st=ogM (ba st g):=rfl
theorem JO (g:bV) (id:Nat) (st:St):BW g (.exit id) st=some (.exit id,st):=rfl
theorem L6 (g:bV) (st:St):BW g .ret st=some (.ret,st):=rfl
theorem ME (st:St):ogM (some st)=some (.normal,st):=rfl
theorem Ij {S E:Type} {g:bV} {c:aB} {step:S→Option (S⊕E)} {eS:S→St} {eE:E→aJ×St} (hne: ∀e,(eE e).1≠ .normal)
 (hb: ∀s o,step s=some o→Rn T ow (BW g) [.code c] (eS s)=some (match o with
  | .inl s'=>(.normal,eS s')
  | .inr e=>eE e)) {s:S} {e:E} (h:Loop step s=some e):cy T ow g c (eS s)=some (eE e):=by
 obtain ⟨n,hn⟩:=wm h
 clear h
 induction n generalizing s with
 |zero=>cases hn
 |succ n ih=>
  simp only [sN] at hn
  unfold cy
  split at hn
  ·cases hn
  ·rename_i s' hs
   have h1:=hb s _ hs
   rw [bH] at h1
   cases hx:cH T ow c (eS s) with
   |none=>rw [hx] at h1;cases h1
   |some p=>
    obtain ⟨x,st'⟩:=p
    rw [hx] at h1
    cases x with
    |normal=>
     dsimp only
     rw [xY]
     simp only [goR,Rn,jg,BW,ogM] at h1
     cases hg:ba st' g with
     |none=>rw [hg] at h1;cases h1
     |some st2=>rw [hg] at h1;cases h1;exact ih hn
    |exit id=>simp [goR,Unw,jg,BW] at h1
    |ret=>simp [goR,BW] at h1
  ·rename_i e' hs
   have h1:=hb s _ hs
   cases hn
   have hn2:=hne e
   rw [bH] at h1
   dsimp only at h1
   revert h1 hn2
   generalize eE e=q
   intro h1 hn2
   cases hx:cH T ow c (eS s) with
   |none=>rw [hx] at h1;cases h1
   |some p=>
    obtain ⟨x,st'⟩:=p
    rw [hx] at h1
    cases x with
    |normal=>
     simp only [goR,Rn,jg,BW,ogM] at h1
     cases hg:ba st' g with
     |none=>rw [hg] at h1;cases h1
     |some st2=>rw [hg] at h1;cases h1;exact absurd rfl hn2
    |exit id=>exact h1
    |ret=>exact h1
variable {d:Option Nat} {n:Nat} {ss:List aQ} {live:List Nat} {K:List Fr} {st:St} {base i:Nat} {deps:List (List Nat)} {rs:List Rec} {fp:List Nat} {r:R}
theorem Gz {x:Option (aJ×St)} {p:aJ×St} (h:x=some p) (hr:goR T ow k K (some p)=some r):goR T ow k K x=some r:=by rw [h];exact hr
theorem Ka (g:bV) (c:aB):goR T ow k K (cy T ow g c st)=Rn T ow k (.code c:: .code (.loop (vS g c))::K) st:=by
 rw [bH]
 unfold cy
 cases hx:cH T ow c st with
 |none=>rfl
 |some p=>
  obtain ⟨x,st'⟩:=p
  cases x with
  |normal=>dsimp only;simp only [goR];rw [bH];rfl
  |exit id=>rfl
  |ret=>rfl
theorem jn {g:bV} {c:aB} (h:Rn T ow k (.code c:: .code (.loop (vS g c))::K) st=some r):goR T ow k K (cy T ow g c st)=some r:=by rw [Ka];exact h
theorem bind_some {α β:Type} {x:Option α} {a:α} {F:α→Option β} {r:β} (h:x=some a) (hr:F a=some r):x.bind F=some r:=by rw [h];exact hr
end
end Go.AI
set_option linter.unusedVariables false
set_option linter.unusedSimpArgs false
namespace Go.AI
abbrev I (n:Int):V:= .lit (.int .i64 n)
abbrev B (b:Bool):V:= .lit (.bool b)
abbrev S (s:List UInt8):V:= .lit (.string ⟨⟨s⟩⟩)
structure En (α:Type) where
 esz:Nat
 enc:α→List V
def rws {α:Type} (e:En α) (l:List α):List (List V):=l.map e.enc
def sl {α:Type} (e:En α) (l:List α):V:=(V.imm e.esz (rws e l)).cz
theorem NS {α:Type} (e:En α):sl e []= .imm 1 []:=rfl
theorem YL {α:Type} (e:En α) (x:α) (l:List α):sl e (x::l)= .imm e.esz (rws e (x::l)):=rfl
def eI:En Int:=⟨1,fun n=>[I n]⟩
def eU8:En UInt8:=⟨1,fun b=>[.lit (.int .u8 b.toNat)]⟩
def CU:En Int:=⟨1,fun n=>[.lit (.int .u64 n)]⟩
def eB:En Bool:=⟨1,fun b=>[B b]⟩
def eS:En (List UInt8):=⟨1,fun s=>[S s]⟩
def eL {α:Type} (e:En α):En (List α):=⟨1,fun l=>[sl e l]⟩
theorem UX:eI.esz=1:=by decide
theorem VO (n:Int):eI.enc n=[I n]:=rfl
theorem S8:eU8.esz=1:=by decide
theorem Qi (n:UInt8):eU8.enc n=[.lit (.int .u8 n.toNat)]:=rfl
theorem KX:CU.esz=1:=by decide
theorem Lx (n:Int):CU.enc n=[.lit (.int .u64 n)]:=rfl
theorem W2:eB.esz=1:=by decide
theorem TA (n:Bool):eB.enc n=[B n]:=rfl
theorem WK:eS.esz=1:=by decide
theorem V9 (n:List UInt8):eS.enc n=[S n]:=rfl
theorem VE {α:Type} (e:En α):(eL e).esz=1:=of_decide_eq_true rfl
theorem V4 {α:Type} (e:En α) (l:List α):(eL e).enc l=[sl e l]:=rfl
def atL {α:Type} (l:List α) (i:Int):Option α:=if 0≤i then l[i.toNat]? else none
def ik {α:Type} (l:List α) (a b:Int):Option (List α):=if 0≤a∧a≤b∧b≤l.length then some ((l.take b.toNat).drop a.toNat) else none
def inb (i:Int) (n:Nat):Bool:=decide (0≤i)&&decide (i.toNat<n)
def aK (n bytes:Nat):Bool:=decide (n*bytes≤b9)
def BG (l c:Int) (bytes:Nat):Bool:=decide (0≤l)&&decide (l≤c)&&decide (c*bytes≤b9)
def mx (a b:Int):Int:=if b>a then b else a
def mn (a b:Int):Int:=if b<a then b else a
def H9 (r:List (List V)):Nat:=r.length
def app (r q:List (List V)):List (List V):=r++q
def mkR (n:Nat) (r:List (List V)):List (List V):=r
def co (row:List V) (r:List (List V)):List (List V):=row::r
def B3 (n k:Nat) (row:List V):List (List V):=List.replicate k row
def dS (r:List (List V)) (i:Nat) (row:List V):List (List V):=r.set i row
section
variable {α:Type} {e:En α} {l l2:List α}
theorem IQ:H9 (rws e l)=l.length:=by simp [H9,rws]
theorem Q0:app (rws e l) (rws e l2)=rws e (l++l2):=by simp [app,rws]
theorem mk0 (e:En α) (n:Nat):mkR n []=rws e []:=rfl
theorem Oh (n:Nat) (row:List V) (r:List (List V)):mkR n (row::r)=co row (mkR n r):=rfl
theorem YB (a:Int) (l:List Int):co [I a] (rws eI l)=rws eI (a::l):=rfl
theorem Xu (a:List UInt8) (l:List (List UInt8)):co [S a] (rws eS l)=rws eS (a::l):=rfl
theorem Yk (a:List α) (l:List (List α)):co [sl e a] (rws (eL e) l)=rws (eL e) (a::l):=rfl
theorem TD (l:List (List α)):co [.imm 1 []] (rws (eL e) l)=rws (eL e) ([]::l):=rfl
theorem YD (b:Bool) (l:List Bool):co [B b] (rws eB l)=rws eB (b::l):=rfl
theorem PD (a:Int) (l:List Int):co [.lit (.int .u64 a)] (rws CU l)=rws CU (a::l):=rfl
theorem G2 (b:UInt8) (l:List UInt8):co [.lit (.int .u8 b.toNat)] (rws eU8 l)=rws eU8 (b::l):=rfl
theorem jH (x:Int):((UInt8.ofInt x).toNat:Int)=IntKind.u8.wrap x:=by
 simp [UInt8.ofInt,IntKind.wrap,IntKind.bits,IntKind.signed]
 omega
theorem u4 (x:Int) (l:List UInt8):co [.lit (.int .u8 (IntKind.u8.wrap x))] (rws eU8 l)=rws eU8 (UInt8.ofInt x::l):=by
 rw [←jH];rfl
theorem YK (n:Nat) (h:n<256) (l:List UInt8):co [.lit (.int .u8 (n:Int))] (rws eU8 l)=rws eU8 (UInt8.ofNat n::l):=by
 have:(UInt8.ofNat n).toNat=n:=by simp;omega
 rw [←G2,this]
theorem RM (n:Nat) (h:Nat.ble n 255=true) (l:List UInt8):co [.lit (.int .u8 (no_index (OfNat.ofNat n:Int)))] (rws eU8 l)=rws eU8 ((OfNat.ofNat n:UInt8)::l):=by
 have h':=Nat.le_of_ble_eq_true h
 have:((OfNat.ofNat n:UInt8).toNat:Int)=(OfNat.ofNat n:Int):=by
  show ((UInt8.ofNat n).toNat:Int)=(n:Int)
  simp;omega
 rw [←G2,this]
theorem Z4 (l:List Int) (i:Nat) (a:Int):dS (rws eI l) i [I a]=rws eI (l.set i a):=by simp [dS,rws,eI]
theorem WA (l:List Int) (i:Nat) (a:Int):dS (rws CU l) i [.lit (.int .u64 a)]=rws CU (l.set i a):=by simp [dS,rws,CU]
theorem setB (l:List Bool) (i:Nat) (a:Bool):dS (rws eB l) i [B a]=rws eB (l.set i a):=by simp [dS,rws,eB]
theorem W0 (l:List (List UInt8)) (i:Nat) (a:List UInt8):dS (rws eS l) i [S a]=rws eS (l.set i a):=by simp [dS,rws,eS]
theorem Zc (l:List (List α)) (i:Nat) (a:List α):dS (rws (eL e) l) i [sl e a]=rws (eL e) (l.set i a):=by simp [dS,rws,eL]
theorem Tc (l:List UInt8) (i:Nat) (a:UInt8):dS (rws eU8 l) i [.lit (.int .u8 a.toNat)]=rws eU8 (l.set i a):=by simp [dS,rws,eU8]
theorem wD (l:List UInt8) (i:Nat) (x:Int):dS (rws eU8 l) i [.lit (.int .u8 (IntKind.u8.wrap x))]=rws eU8 (l.set i (UInt8.ofInt x)):=by
 rw [←jH,Tc]
theorem Xv (e:En α) (x:α) (n k:Nat):B3 n k (e.enc x)=rws e (List.replicate k x):=by simp [B3,rws]
theorem Ty (m:Nat) (h:e.esz=m):V.cz (.imm m (rws e l))=sl e l:=by subst h;rfl
theorem Hs (r:List (List V)):r.drop 0=r:=rfl
theorem Xh (k:Nat):(rws e l).drop k=rws e (l.drop k):=by simp [rws]
theorem eK (e:En α) (l:List α):(l=[]∧sl e l= .imm 1 [])∨(l≠[]∧sl e l= .imm e.esz (rws e l)):=by
 cases l with
 |nil=>exact .inl ⟨rfl,rfl⟩
 |cons x l=>exact .inr ⟨by simp,rfl⟩
theorem XZ:(sl e l).cz=sl e l:=by
 cases l with
 |nil=>rfl
 |cons x l=>rfl
theorem Um:(sl e l).czA=sl e l:=by
 cases l with
 |nil=>rfl
 |cons x l=>rfl
theorem V0:(sl e l).czR=sl e l:=by
 cases l with
 |nil=>rfl
 |cons x l=>rfl
theorem SL:(sl e l).cell=true:=by
 rcases eK e l with ⟨_,h⟩|⟨_,h⟩<;>rw [h]<;>rfl
theorem Xj:(sl e l).cl=true:=by
 rcases eK e l with ⟨_,h⟩|⟨_,h⟩<;>rw [h]<;>rfl
theorem Kt:(sl e l).cells=[sl e l]:=by
 rcases eK e l with ⟨_,h⟩|⟨_,h⟩<;>rw [h]<;>rfl
theorem Rr:cw (sl e l)=[]:=by
 rcases eK e l with ⟨_,h⟩|⟨_,h⟩<;>rw [h]<;>rfl
theorem RI:iS (sl e l)=[]:=by
 rcases eK e l with ⟨_,h⟩|⟨_,h⟩<;>rw [h]<;>rfl
theorem GX {h:ak}:gN h (sl e l)=some (sl e l,[]):=by
 rcases eK e l with ⟨_,h⟩|⟨_,h⟩<;>rw [h]<;>rfl
theorem FH {h:ak} {own:Bool} {ids:List Nat}:bk h own ids (sl e l)=some (sl e l,ids,[]):=by
 rcases eK e l with ⟨_,h⟩|⟨_,h⟩<;>rw [h]<;>rfl
theorem HW {h:ak} {own:Bool} {ids:List Nat}:bS h own ids (sl e l)=some (sl e l,ids,[]):=by
 rcases eK e l with ⟨_,h⟩|⟨_,h⟩<;>rw [h]<;>rfl
theorem VS {ids:List Nat}:unV ids (sl e l)=sl e l:=by
 rcases eK e l with ⟨_,h⟩|⟨_,h⟩<;>rw [h]<;>rfl
theorem Ms {ids:List Nat}:fA ids (sl e l)=sl e l:=by
 rcases eK e l with ⟨_,h⟩|⟨_,h⟩<;>rw [h]<;>rfl
theorem NX {ids:List Nat}:nX ids (sl e l)=sl e l:=by
 rcases eK e l with ⟨_,h⟩|⟨_,h⟩<;>rw [h]<;>rfl
theorem Li:hJ (sl e l)=false:=by
 rcases eK e l with ⟨_,h⟩|⟨_,h⟩<;>rw [h]<;>rfl
theorem Mv:pa (sl e l)=false:=by
 rcases eK e l with ⟨_,h⟩|⟨_,h⟩<;>rw [h]<;>rfl
theorem NQ:ja (sl e l)=false:=by
 rcases eK e l with ⟨_,h⟩|⟨_,h⟩<;>rw [h]<;>rfl
theorem VU {h:ak} {bs:List Nat}:fzC h bs (sl e l)=sl e l:=by
 rcases eK e l with ⟨_,h⟩|⟨_,h⟩<;>rw [h]<;>rfl
theorem Vz {h:ak} {bs:List Nat}:fzA h bs (sl e l)=sl e l:=by
 rcases eK e l with ⟨_,h⟩|⟨_,h⟩<;>rw [h]<;>rfl
theorem Qv {h:ak} {m:Nat} {kp:List Nat}:gU h m kp (sl e l)=some (sl e l):=by
 rcases eK e l with ⟨_,h⟩|⟨_,h⟩<;>rw [h]<;>rfl
theorem Re {h:ak} {m:Nat} {kp:List Nat}:pD h m kp (sl e l)=some (sl e l):=by
 rcases eK e l with ⟨_,h⟩|⟨_,h⟩<;>rw [h]<;>rfl
theorem Pc {h:ak} {m:Nat} {kp:List Nat}:rL h m kp (sl e l)=some (sl e l):=by
 rcases eK e l with ⟨_,h⟩|⟨_,h⟩<;>rw [h]<;>rfl
theorem VT:okC (sl e l)=true:=by
 rcases eK e l with ⟨_,h⟩|⟨_,h⟩<;>rw [h]<;>rfl
theorem zD {h:ak} (m:Nat) (hm:e.esz=m):bA h m (sl e l)=some (rws e l):=by
 subst hm
 rcases eK e l with ⟨rfl,h⟩|⟨hl,h⟩
 ·rw [h];simp [bA,rws]
 ·rw [h];simp [bA]
theorem D5:Hl (sl e l)=false:=by
 rcases eK e l with ⟨_,h⟩|⟨_,h⟩<;>rw [h]<;>rfl
end
end Go.AI
