/- The limit of the abstract machine's runs: more rounds tell the same; the equations of the limit. -/
import Derived.Test.YtgjlndaebhaciaaAiDefs
namespace Go.AI
theorem xw {C C':aM} (hC: ∀f a b r,C f a b=some r→C' f a b=some r) {ow:bK} {h:ak} {new:Nat} {f:FuncId} {args:List V} {r:V×Upd}
 (hr:gZ C ow h new f args=some r):gZ C' ow h new f args=some r:=by
 unfold gZ at hr ⊢
 cases hp:ca ow h f args with
 |none=>rw [hp] at hr;cases hr
 |some p=>
  obtain ⟨args',blks,ids,bor⟩:=p
  rw [hp] at hr
  dsimp only at hr ⊢
  cases hc:C f (kD (ow f) args') (kw (ow f) blks) with
  |none=>rw [hc] at hr;cases hr
  |some q=>rw [hC _ _ _ _ hc];rw [hc] at hr;exact hr
theorem A3 {C C':aM} (hC: ∀f a b r,C f a b=some r→C' f a b=some r) {ow:bK} {o:AOp} {ev:Opd→V} {h:ak} {new:Nat} {r:V×Upd}
 (hr:ag C ow o ev h new=some r):ag C' ow o ev h new=some r:=by
 cases o
 case call f args=>simp only [ag] at hr ⊢;exact xw hC hr
 case dyn f args=>
  simp only [ag] at hr ⊢
  split at hr
  ·exact xw hC hr
  ·cases hr
 all_goals exact hr
theorem BE {C:Nat→aM} {D:aM} (hD: ∀f a b r,D f a b=some r→ ∃n,C n f a b=some r) (n0:Nat) {ow:bK} {o:AOp} {ev:Opd→V} {h:ak} {new:Nat} {r:V×Upd}
 (hr:ag D ow o ev h new=some r): ∃n,ag (C n) ow o ev h new=some r:=by
 have key: ∀f args,gZ D ow h new f args=some r→ ∃n,gZ (C n) ow h new f args=some r:=by
  intro f args hr
  unfold gZ at hr
  cases hp:ca ow h f args with
  |none=>rw [hp] at hr;cases hr
  |some p=>
   obtain ⟨args',blks,ids,bor⟩:=p
   rw [hp] at hr
   dsimp only at hr
   cases hc:D f (kD (ow f) args') (kw (ow f) blks) with
   |none=>rw [hc] at hr;cases hr
   |some q=>
    rw [hc] at hr
    obtain ⟨n,hn⟩:=hD _ _ _ _ hc
    refine ⟨n, ?_⟩
    unfold gZ
    rw [hp]
    dsimp only
    rw [hn]
    exact hr
 cases o
 case call f args=>simp only [ag] at hr ⊢;exact key _ _ hr
 case dyn f args=>
  simp only [ag] at hr ⊢
  split at hr
  ·exact key _ _ hr
  ·cases hr
 all_goals exact ⟨n0,hr⟩
theorem zi {C C':aM} (hC: ∀f a b r,C f a b=some r→C' f a b=some r) {ow:bK} {st:St} {s:aQ} {n:Nat} {r:St}
 (hr:pi C ow st s n=some r):pi C' ow st s n=some r:=by
 unfold pi at hr ⊢
 split at hr
 ·cases hr
 ·exact hr
 ·split at hr
  ·rename_i v u ho;rw [A3 hC ho];exact hr
  ·cases hr
theorem ll {C C':aM} (hC: ∀f a b r,C f a b=some r→C' f a b=some r) {ow:bK}: ∀{l:List aQ} {n:Nat} {st:St} {r:St},
 dM C ow l n st=some r→dM C' ow l n st=some r
 |[],_,_,_,hr=>hr
 |s::l,n,st,r,hr=>by
  simp only [dM] at hr ⊢
  split at hr
  ·rename_i st' h;rw [zi hC h];exact ll hC hr
  ·cases hr
theorem yC {C C':aM} (hC: ∀f a b r,C f a b=some r→C' f a b=some r) {ow:bK} {st:St} {s:aQ} {i n:Nat} {r:St×Rec}
 (hr:mT C ow st s i n=some r):mT C' ow st s i n=some r:=by
 unfold mT at hr ⊢
 split at hr
 ·cases hr
 ·exact hr
 ·split at hr
  ·rename_i v u ho;rw [A3 hC ho];exact hr
  ·cases hr
theorem lf {C C':aM} (hC: ∀f a b r,C f a b=some r→C' f a b=some r) {ow:bK} {base:Nat}: ∀{l:List aQ} {n:Nat} {st:St} {r:St×List Rec},
 dJ C ow base l n st=some r→dJ C' ow base l n st=some r
 |[],_,_,_,hr=>hr
 |s::l,n,st,r,hr=>by
  simp only [dJ] at hr ⊢
  split at hr
  ·rename_i st' rc h
   rw [yC hC h]
   dsimp only
   split at hr
   ·rename_i st2 rs h2;rw [lf hC h2];exact hr
   ·cases hr
  ·cases hr
theorem bw {C C':aM} (hC: ∀f a b r,C f a b=some r→C' f a b=some r) {ow:bK}: ∀(n m:Nat),n≤m→ ∀{c:au} {st:St} {r:aH×St},
 bj C ow n c st=some r→bj C' ow m c st=some r
 |0,_,_,_,_,_,hr=>by simp [bj] at hr
 |n+1,0,h,_,_,_,_=>absurd h (by omega)
 |n+1,m+1,h,c,st,r,hr=>by
  have ih:=fun {c st r}=>bw hC (ow:=ow) n m (by omega) (c:=c) (st:=st) (r:=r)
  cases c with
  |skip=>exact hr
  |region base steps live=>
   simp only [bj,j7] at hr ⊢
   split at hr
   ·rename_i st' h;rw [ll hC h];exact hr
   ·cases hr
  |drawn base steps deps live=>
   simp only [bj,oE] at hr ⊢
   split at hr
   ·rename_i st' rs h;rw [lf hC h];exact hr
   ·cases hr
  |seq a b=>
   simp only [bj] at hr ⊢
   cases ha:bj C ow n a st with
   |none=>rw [ha] at hr;cases hr
   |some p=>
    obtain ⟨e,st'⟩:=p
    rw [ih ha]
    rw [ha] at hr
    cases e with
    |normal=>exact ih hr
    |exit id=>exact hr
    |ret=>exact hr
  |cond c a b=>
   simp only [bj] at hr ⊢
   split at hr
   ·exact ih hr
   ·exact ih hr
   ·cases hr
  |block id c=>
   simp only [bj] at hr ⊢
   cases ha:bj C ow n c st with
   |none=>rw [ha] at hr;cases hr
   |some p=>rw [ih ha];rw [ha] at hr;exact hr
  |loop c=>
   simp only [bj] at hr ⊢
   cases ha:bj C ow n c st with
   |none=>rw [ha] at hr;cases hr
   |some p=>
    obtain ⟨e,st'⟩:=p
    rw [ih ha]
    rw [ha] at hr
    cases e with
    |normal=>exact ih hr
    |exit id=>exact hr
    |ret=>exact hr
  |exit id=>exact hr
  |ret=>exact hr
  |ghost g c=>
   simp only [bj] at hr ⊢
   split at hr
   ·exact ih hr
   ·cases hr
theorem A4 (T:Tab) (ow:bK): ∀(n:Nat) f a b r,cg T ow n f a b=some r→cg T ow (n+1) f a b=some r
 |0,_,_,_,_,h=>by simp [cg] at h
 |n+1,f,a,b,r,h=>by
  simp only [cg] at h ⊢
  split at h
  ·cases h
  rotate_left
  ·exact h
  ·rename_i af haf
   cases he:bj (cg T ow n) ow n af.body (start a b) with
   |none=>rw [he] at h;simp [fa,EP] at h
   |some p=>
    have:=bw (A4 T ow n) (ow:=ow) n (n+1) (by omega) he
    simp only [cg] at this
    rw [this]
    rw [he] at h
    exact h
theorem bB (T:Tab) (ow:bK) {n m:Nat} (h:n≤m): ∀f a b r,cg T ow n f a b=some r→cg T ow m f a b=some r:=by
 induction h with
 |refl=>exact fun _ _ _ _ h=>h
 |step _ ih=>exact fun f a b r h=>A4 T ow _ f a b r (ih f a b r h)
open Classical in
noncomputable def lim {α:Type} (g:Nat→Option α):Option α:=if h: ∃n r,g n=some r then g h.choose else none
theorem HG {α:Type} {g:Nat→Option α} (hm: ∀n m r,n≤m→g n=some r→g m=some r) {n:Nat} {r:α} (h:g n=some r):lim g=some r:=by
 have hx: ∃n r,g n=some r:=⟨n,r,h⟩
 unfold lim
 rw [dif_pos hx]
 obtain ⟨r',hr'⟩:=hx.choose_spec
 have h1:=hm _ (max n hx.choose) _ (Nat.le_max_left _ _) h
 have h2:=hm _ (max n hx.choose) _ (Nat.le_max_right _ _) hr'
 rw [h1] at h2
 rw [hr', ←h2]
theorem HS {α:Type} {g:Nat→Option α} {r:α} (h:lim g=some r): ∃n,g n=some r:=by
 unfold lim at h
 split at h
 ·exact ⟨_,h⟩
 ·cases h
noncomputable def Call (T:Tab) (ow:bK):aM:=fun f a b=>lim fun n=>cg T ow n f a b
noncomputable def cO (T:Tab) (ow:bK) (c:au) (st:St):Option (aH×St):=lim fun n=>bj (cg T ow n) ow n c st
section
variable {T:Tab} {ow:bK}
theorem TG {n m:Nat} (h:n≤m) {c:au} {st:St} {r:aH×St} (hr:bj (cg T ow n) ow n c st=some r):bj (cg T ow m) ow m c st=some r:=
 bw (bB T ow h) n m h hr
theorem cF {n:Nat} {c:au} {st:St} {r:aH×St} (h:bj (cg T ow n) ow n c st=some r):cO T ow c st=some r:=
 HG (g:=fun n=>bj (cg T ow n) ow n c st) (fun _ _ _ hnm h=>TG hnm h) h
theorem ep {c:au} {st:St} {r:aH×St} (h:cO T ow c st=some r): ∃n,bj (cg T ow n) ow n c st=some r:=HS h
theorem Dw {n:Nat} {f:FuncId} {a:List V} {b:List Blk} {r:V×List Blk} (h:cg T ow n f a b=some r):Call T ow f a b=some r:=
 HG (g:=fun n=>cg T ow n f a b) (fun _ _ _ hnm h=>bB T ow hnm _ _ _ _ h) h
theorem yb {f:FuncId} {a:List V} {b:List Blk} {r:V×List Blk} (h:Call T ow f a b=some r): ∃n,cg T ow n f a b=some r:=HS h
theorem mg {α:Type} {a b:Option α} (h1: ∀r,a=some r→b=some r) (h2: ∀r,b=some r→a=some r):a=b:=by
 cases a with
 |none=>cases b with
  |none=>rfl
  |some r=>exact absurd (h2 r rfl) (by simp)
 |some r=>exact (h1 r rfl).symm
theorem yF: ∀{l:List aQ} {n:Nat} {st:St} {r:St},dM (Call T ow) ow l n st=some r→ ∃k,dM (cg T ow k) ow l n st=some r
 |[],_,_,_,h=>⟨0,h⟩
 |s::l,n,st,r,h=>by
  simp only [dM] at h
  cases h1:pi (Call T ow) ow st s n with
  |none=>rw [h1] at h;cases h
  |some st'=>
   rw [h1] at h
   obtain ⟨k2,hk2⟩:=yF h
   have: ∃k,pi (cg T ow k) ow st s n=some st':=by
    unfold pi at h1 ⊢
    split at h1
    ·cases h1
    ·exact ⟨0,h1⟩
    ·split at h1
     ·rename_i v u ho
      obtain ⟨k,hk⟩:=BE (C:=cg T ow) (D:=Call T ow) (fun _ _ _ _ h=>yb h) 0 ho
      exact ⟨k,by rw [hk];exact h1⟩
     ·cases h1
   obtain ⟨k1,hk1⟩:=this
   refine ⟨max k1 k2, ?_⟩
   simp only [dM]
   rw [zi (bB T ow (Nat.le_max_left k1 k2)) hk1]
   exact ll (bB T ow (Nat.le_max_right k1 k2)) hk2
theorem zG {base:Nat}: ∀{l:List aQ} {n:Nat} {st:St} {r:St×List Rec},dJ (Call T ow) ow base l n st=some r→ ∃k,dJ (cg T ow k) ow base l n st=some r
 |[],_,_,_,h=>⟨0,h⟩
 |s::l,n,st,r,h=>by
  simp only [dJ] at h
  cases h1:mT (Call T ow) ow st s n (base+n) with
  |none=>rw [h1] at h;cases h
  |some p=>
   obtain ⟨st',rc⟩:=p
   rw [h1] at h
   dsimp only at h
   cases h2:dJ (Call T ow) ow base l (n+1) st' with
   |none=>rw [h2] at h;cases h
   |some q=>
    obtain ⟨st2,rs⟩:=q
    rw [h2] at h
    obtain ⟨k2,hk2⟩:=zG h2
    have: ∃k,mT (cg T ow k) ow st s n (base+n)=some (st',rc):=by
     unfold mT at h1 ⊢
     split at h1
     ·cases h1
     ·exact ⟨0,h1⟩
     ·split at h1
      ·rename_i v u ho
       obtain ⟨k,hk⟩:=BE (C:=cg T ow) (D:=Call T ow) (fun _ _ _ _ h=>yb h) 0 ho
       exact ⟨k,by rw [hk];exact h1⟩
      ·cases h1
    obtain ⟨k1,hk1⟩:=this
    refine ⟨max k1 k2, ?_⟩
    simp only [dJ]
    rw [yC (bB T ow (Nat.le_max_left k1 k2)) hk1]
    dsimp only
    rw [lf (bB T ow (Nat.le_max_right k1 k2)) hk2]
    exact h
theorem zD (k:Nat): ∀f a b r,cg T ow k f a b=some r→Call T ow f a b=some r:=fun _ _ _ _ h=>Dw h
theorem LV (st:St):cO T ow .skip st=some (.normal,st):=cF (n:=1) rfl
theorem LR (id:Nat) (st:St):cO T ow (.exit id) st=some (.exit id,st):=cF (n:=1) rfl
theorem Q2 (st:St):cO T ow .ret st=some (.ret,st):=cF (n:=1) rfl
theorem xH (base:Nat) (steps:List aQ) (live:List Nat) (st:St):cO T ow (.region base steps live) st=j7 (Call T ow) ow base steps live st:=by
 refine mg (fun r h=> ?_) (fun r h=> ?_)
 ·obtain ⟨n,hn⟩:=ep h
  cases n with
  |zero=>simp [bj] at hn
  |succ n=>
   simp only [bj,j7] at hn ⊢
   split at hn
   ·rename_i st' h';rw [ll (zD (n+1)) h'];exact hn
   ·cases hn
 ·unfold j7 at h
  split at h
  ·rename_i st' h'
   obtain ⟨k,hk⟩:=yF h'
   refine cF (n:=k+1) ?_
   simp only [bj,j7]
   rw [ll (bB T ow (Nat.le_succ k)) hk]
   exact h
  ·cases h
theorem Ib (base:Nat) (steps:List aQ) (deps:List (List Nat)) (live:List Nat) (st:St):
 cO T ow (.drawn base steps deps live) st=oE (Call T ow) ow base steps deps live st:=by
 refine mg (fun r h=> ?_) (fun r h=> ?_)
 ·obtain ⟨n,hn⟩:=ep h
  cases n with
  |zero=>simp [bj] at hn
  |succ n=>
   simp only [bj,oE] at hn ⊢
   split at hn
   ·rename_i st' rs h';rw [lf (zD (n+1)) h'];exact hn
   ·cases hn
 ·unfold oE at h
  split at h
  ·rename_i st' rs h'
   obtain ⟨k,hk⟩:=zG h'
   refine cF (n:=k+1) ?_
   simp only [bj,oE]
   rw [lf (bB T ow (Nat.le_succ k)) hk]
   exact h
  ·cases h
theorem w5 (a b:au) (st:St):cO T ow (.seq a b) st=(match cO T ow a st with
 |some (.normal,st')=>cO T ow b st'
 |r=>r):=by
 refine mg (fun r h=> ?_) (fun r h=> ?_)
 ·obtain ⟨n,hn⟩:=ep h
  cases n with
  |zero=>simp [bj] at hn
  |succ n=>
   simp only [bj] at hn
   cases ha:bj (cg T ow (n+1)) ow n a st with
   |none=>rw [ha] at hn;cases hn
   |some p=>
    obtain ⟨e,st'⟩:=p
    rw [cF (bw (fun _ _ _ _ h=>h) n (n+1) (by omega) ha)]
    rw [ha] at hn
    cases e with
    |normal=>exact cF (bw (fun _ _ _ _ h=>h) n (n+1) (by omega) hn)
    |exit id=>exact hn
    |ret=>exact hn
 ·cases ha:cO T ow a st with
  |none=>rw [ha] at h;cases h
  |some p=>
   obtain ⟨e,st'⟩:=p
   rw [ha] at h
   obtain ⟨n,hn⟩:=ep ha
   cases e with
   |normal=>
    obtain ⟨m,hm⟩:=ep (show cO T ow b st'=some r from h)
    refine cF (n:=max n m+1) ?_
    simp only [bj]
    rw [bw (bB T ow (by omega)) n (max n m) (by omega) hn]
    exact bw (bB T ow (by omega)) m (max n m) (by omega) hm
   |exit id=>
    refine cF (n:=n+1) ?_
    simp only [bj]
    rw [bw (bB T ow (by omega)) n n (by omega) hn]
    exact h
   |ret=>
    refine cF (n:=n+1) ?_
    simp only [bj]
    rw [bw (bB T ow (by omega)) n n (by omega) hn]
    exact h
theorem LQ (c:Opd) (a b:au) (st:St):cO T ow (.cond c a b) st=(match st.ev c with
 | .lit (.bool true)=>cO T ow a st
 | .lit (.bool false)=>cO T ow b st
 |_=>none):=by
 refine mg (fun r h=> ?_) (fun r h=> ?_)
 ·obtain ⟨n,hn⟩:=ep h
  cases n with
  |zero=>simp [bj] at hn
  |succ n=>
   simp only [bj] at hn
   split at hn
   ·rename_i hc;simp only [hc];exact cF (bw (fun _ _ _ _ h=>h) n (n+1) (by omega) hn)
   ·rename_i hc;simp only [hc];exact cF (bw (fun _ _ _ _ h=>h) n (n+1) (by omega) hn)
   ·cases hn
 ·split at h
  ·rename_i hc
   obtain ⟨n,hn⟩:=ep h
   refine cF (n:=n+1) ?_
   simp only [bj,hc]
   exact bw (bB T ow (by omega)) n n (by omega) hn
  ·rename_i hc
   obtain ⟨n,hn⟩:=ep h
   refine cF (n:=n+1) ?_
   simp only [bj,hc]
   exact bw (bB T ow (by omega)) n n (by omega) hn
  ·cases h
theorem uW (id:Nat) (c:au) (st:St):cO T ow (.block id c) st=(match cO T ow c st with
 |some (.exit id',st')=>if id'=id then some (.normal,st') else some (.exit id',st')
 |r=>r):=by
 refine mg (fun r h=> ?_) (fun r h=> ?_)
 ·obtain ⟨n,hn⟩:=ep h
  cases n with
  |zero=>simp [bj] at hn
  |succ n=>
   simp only [bj] at hn
   cases ha:bj (cg T ow (n+1)) ow n c st with
   |none=>rw [ha] at hn;cases hn
   |some p=>
    rw [cF (bw (fun _ _ _ _ h=>h) n (n+1) (by omega) ha)]
    rw [ha] at hn
    exact hn
 ·cases ha:cO T ow c st with
  |none=>rw [ha] at h;cases h
  |some p=>
   obtain ⟨n,hn⟩:=ep ha
   refine cF (n:=n+1) ?_
   simp only [bj]
   rw [bw (bB T ow (by omega)) n n (by omega) hn]
   rw [ha] at h
   exact h
theorem BR (c:au) (st:St):cO T ow (.loop c) st=(match cO T ow c st with
 |some (.normal,st')=>cO T ow (.loop c) st'
 |r=>r):=by
 refine mg (fun r h=> ?_) (fun r h=> ?_)
 ·obtain ⟨n,hn⟩:=ep h
  cases n with
  |zero=>simp [bj] at hn
  |succ n=>
   simp only [bj] at hn
   cases ha:bj (cg T ow (n+1)) ow n c st with
   |none=>rw [ha] at hn;cases hn
   |some p=>
    obtain ⟨e,st'⟩:=p
    rw [cF (bw (fun _ _ _ _ h=>h) n (n+1) (by omega) ha)]
    rw [ha] at hn
    cases e with
    |normal=>exact cF (bw (fun _ _ _ _ h=>h) n (n+1) (by omega) hn)
    |exit id=>exact hn
    |ret=>exact hn
 ·cases ha:cO T ow c st with
  |none=>rw [ha] at h;cases h
  |some p=>
   obtain ⟨e,st'⟩:=p
   rw [ha] at h
   obtain ⟨n,hn⟩:=ep ha
   cases e with
   |normal=>
    obtain ⟨m,hm⟩:=ep (show cO T ow (.loop c) st'=some r from h)
    refine cF (n:=max n m+1) ?_
    simp only [bj]
    rw [bw (bB T ow (by omega)) n (max n m) (by omega) hn]
    exact bw (bB T ow (by omega)) m (max n m) (by omega) hm
   |exit id=>
    refine cF (n:=n+1) ?_
    simp only [bj]
    rw [bw (bB T ow (by omega)) n n (by omega) hn]
    exact h
   |ret=>
    refine cF (n:=n+1) ?_
    simp only [bj]
    rw [bw (bB T ow (by omega)) n n (by omega) hn]
    exact h
theorem fx (g:ci) (c:au) (st:St):cO T ow (.ghost g c) st=(match bc st g with
 |some st'=>cO T ow c st'
 |none=>none):=by
 refine mg (fun r h=> ?_) (fun r h=> ?_)
 ·obtain ⟨n,hn⟩:=ep h
  cases n with
  |zero=>simp [bj] at hn
  |succ n=>
   simp only [bj] at hn
   split at hn
   ·rename_i st' hg;simp only [hg];exact cF (bw (fun _ _ _ _ h=>h) n (n+1) (by omega) hn)
   ·cases hn
 ·split at h
  ·rename_i st' hg
   obtain ⟨n,hn⟩:=ep h
   refine cF (n:=n+1) ?_
   simp only [bj,hg]
   exact bw (bB T ow (by omega)) n n (by omega) hn
  ·cases h
theorem II (f:FuncId) (a:List V) (b:List Blk):Call T ow f a b=(match T f with
 |none=>none
 |some (.code af)=>EP af (fa af b.length (cO T ow af.body (start a b)))
 |some (.ext g)=>g a b):=by
 refine mg (fun r h=> ?_) (fun r h=> ?_)
 ·obtain ⟨n,hn⟩:=yb h
  cases n with
  |zero=>simp [cg] at hn
  |succ n=>
   simp only [cg] at hn
   split at hn
   ·cases hn
   rotate_left
   ·rename_i g hg;simp only [hg];exact hn
   ·rename_i af haf
    cases he:bj (cg T ow n) ow n af.body (start a b) with
    |none=>rw [he] at hn;simp [fa,EP] at hn
    |some p=>simp only [haf];rw [cF he];rw [he] at hn;exact hn
 ·split at h
  ·cases h
  rotate_left
  ·rename_i g hg
   refine Dw (n:=1) ?_
   simp only [cg,hg]
   exact h
  ·rename_i af haf
   cases he:cO T ow af.body (start a b) with
   |none=>rw [he] at h;simp [fa,EP] at h
   |some p=>
    obtain ⟨n,hn⟩:=ep he
    refine Dw (n:=n+1) ?_
    simp only [cg,haf]
    rw [hn]
    rw [he] at h
    exact h
end
end Go.AI
set_option linter.unusedVariables false
set_option linter.unusedSimpArgs false
namespace Go.AI
def br {α:Type} (c:Bool) (x y:α):α:=match c with
 |true=>x
 |false=>y
theorem bR {α:Type} (x y:α):br true x y=x:=rfl
theorem aO {α:Type} (x y:α):br false x y=y:=rfl
theorem a2c {α:Type} (c:Bool) (x y:α):br (!c) x y=br c y x:=by cases c<;>rfl
theorem xR {α:Type} {c:Bool} {x y r:α} (h:c=true) (hx:x=r):br c x y=r:=by subst h;exact hx
theorem L8 {α:Type} {c:Bool} {x y r:α} (h:c=false) (hy:y=r):br c x y=r:=by subst h;exact hy
theorem brc {α:Type} {c:Bool} {x y r:α} (h:br c x y=r):(c=true∧x=r)∨(c=false∧y=r):=by
 cases c
 ·exact .inr ⟨rfl,h⟩
 ·exact .inl ⟨rfl,h⟩
theorem brg {α:Type} {c:Bool} {x:Option α} {r:α} (h:br c x none=some r):c=true∧x=some r:=by
 cases c
 ·cases h
 ·exact ⟨rfl,h⟩
theorem bd {α β:Type} {x:Option α} {g:α→Option β} {r:β} (h:x.bind g=some r): ∃a,x=some a∧g a=some r:=by
 cases x with
 |none=>cases h
 |some a=>exact ⟨a,rfl,h⟩
inductive Fr where
 |code (c:au)
 |steps (n:Nat) (ss:List aQ) (live:List Nat)
 |dr (base i:Nat) (ss:List aQ) (deps:List (List Nat)) (live:List Nat) (rs:List Rec)
 |blk (id:Nat)
section
variable {R:Type}
noncomputable def jR (T:Tab) (ow:bK) (k:aH→St→Option R):List Fr→Option Nat→St→Option R
 |[],none,st=>k .normal st
 |[],some id,st=>k (.exit id) st
 | .blk id'::K,some id,st=>if id'=id then jR T ow k K none st else jR T ow k K (some id) st
 |_::K,some id,st=>jR T ow k K (some id) st
 | .blk _::K,none,st=>jR T ow k K none st
 | .code c::K,none,st=>match cO T ow c st with
   |some (.normal,st')=>jR T ow k K none st'
   |some (.exit id,st')=>jR T ow k K (some id) st'
   |some (.ret,st')=>k .ret st'
   |none=>none
 | .steps n ss live::K,none,st=>match dM (Call T ow) ow ss n st with
   |some st'=>jR T ow k K none (trim live st')
   |none=>none
 | .dr base i ss deps live rs::K,none,st=>match dJ (Call T ow) ow base ss i st with
   |some (st',rs')=>br (iG deps (rs++rs'.filter Rec.loud)) (jR T ow k K none (trim live st')) none
   |none=>none
noncomputable def Rn (T:Tab) (ow:bK) (k:aH→St→Option R) (K:List Fr) (st:St):Option R:=jR T ow k K none st
noncomputable def Unw (T:Tab) (ow:bK) (k:aH→St→Option R) (id:Nat) (K:List Fr) (st:St):Option R:=jR T ow k K (some id) st
noncomputable def goR (T:Tab) (ow:bK) (k:aH→St→Option R) (K:List Fr):Option (aH×St)→Option R
 |some (.normal,st')=>Rn T ow k K st'
 |some (.exit id,st')=>Unw T ow k id K st'
 |some (.ret,st')=>k .ret st'
 |none=>none
variable {T:Tab} {ow:bK} {k:aH→St→Option R}
theorem bN (c:au) (K:List Fr) (st:St):Rn T ow k (.code c::K) st=goR T ow k K (cO T ow c st):=by
 unfold Rn jR goR
 cases cO T ow c st with
 |none=>rfl
 |some p=>obtain ⟨e,st'⟩:=p;cases e<;>rfl
theorem RT (st:St):Rn T ow k [] st=k .normal st:=rfl
theorem TX (id:Nat) (K:List Fr) (st:St):Rn T ow k (.blk id::K) st=Rn T ow k K st:=rfl
theorem QW (K:List Fr) (st:St):Rn T ow k (.code .skip::K) st=Rn T ow k K st:=by rw [bN,LV];rfl
theorem Q8 (id:Nat) (K:List Fr) (st:St):Rn T ow k (.code (.exit id)::K) st=Unw T ow k id K st:=by rw [bN,LR];rfl
theorem TT (K:List Fr) (st:St):Rn T ow k (.code .ret::K) st=k .ret st:=by rw [bN,Q2];rfl
theorem SJ (a b:au) (K:List Fr) (st:St):Rn T ow k (.code (.seq a b)::K) st=Rn T ow k (.code a:: .code b::K) st:=by
 rw [bN,w5,bN]
 cases cO T ow a st with
 |none=>rfl
 |some p=>
  obtain ⟨e,st'⟩:=p
  cases e with
  |normal=>simp only [goR];rw [bN];rfl
  |exit id=>rfl
  |ret=>rfl
theorem L9 (id:Nat) (c:au) (K:List Fr) (st:St):Rn T ow k (.code (.block id c)::K) st=Rn T ow k (.code c:: .blk id::K) st:=by
 rw [bN,uW,bN]
 cases cO T ow c st with
 |none=>rfl
 |some p=>
  obtain ⟨e,st'⟩:=p
  cases e with
  |normal=>rfl
  |exit id'=>
   simp only [goR,Unw,Rn,jR]
   by_cases h:id'=id
   ·subst h;simp
   ·rw [if_neg h,if_neg (fun e=>h e.symm)]
  |ret=>rfl
noncomputable def Pc (T:Tab) (ow:bK) (k:aH→St→Option R) (a b:au) (K:List Fr) (st:St):V→Option R
 | .lit (.bool c)=>br c (Rn T ow k (.code a::K) st) (Rn T ow k (.code b::K) st)
 |_=>none
theorem Pk (c:Opd) (a b:au) (K:List Fr) (st:St):Rn T ow k (.code (.cond c a b)::K) st=Pc T ow k a b K st (st.ev c):=by
 rw [bN,LQ]
 unfold Pc
 split
 ·rename_i h;rw [h];exact (bN _ _ _).symm
 ·rename_i h;rw [h];exact (bN _ _ _).symm
 ·rename_i h1 h2
  split
  ·rename_i c' h;cases c'
   ·exact absurd h h2
   ·exact absurd h h1
  ·rfl
theorem GI (a b:au) (K:List Fr) (st:St) (c:Bool):Pc T ow k a b K st (.lit (.bool c))=br c (Rn T ow k (.code a::K) st) (Rn T ow k (.code b::K) st):=rfl
noncomputable def ghR (T:Tab) (ow:bK) (k:aH→St→Option R) (c:au) (K:List Fr):Option St→Option R
 |some st'=>Rn T ow k (.code c::K) st'
 |none=>none
theorem KR (g:ci) (c:au) (K:List Fr) (st:St):Rn T ow k (.code (.ghost g c)::K) st=ghR T ow k c K (bc st g):=by
 rw [bN,fx]
 cases bc st g with
 |none=>rfl
 |some st'=>simp only [ghR];rw [bN]
theorem MX (c:au) (K:List Fr) (st:St):ghR T ow k c K (some st)=Rn T ow k (.code c::K) st:=rfl
theorem a0B (c:au) (K:List Fr) (st:St):Rn T ow k (.code (.loop c)::K) st=goR T ow k K (cO T ow (.loop c) st):=bN _ _ _
theorem GB (K:List Fr) (st:St):goR T ow k K (some (.normal,st))=Rn T ow k K st:=rfl
theorem NG (id:Nat) (K:List Fr) (st:St):goR T ow k K (some (.exit id,st))=Unw T ow k id K st:=rfl
theorem Um (K:List Fr) (st:St):goR T ow k K (some (.ret,st))=k .ret st:=rfl
theorem U5 (id:Nat) (st:St):Unw T ow k id [] st=k (.exit id) st:=rfl
theorem Nk (id:Nat) (c:au) (K:List Fr) (st:St):Unw T ow k id (.code c::K) st=Unw T ow k id K st:=rfl
theorem Uv (id id':Nat) (K:List Fr) (st:St):Unw T ow k id (.blk id'::K) st=if id'=id then Rn T ow k K st else Unw T ow k id K st:=rfl
theorem Hz (n:Nat) (ss:List aQ) (live:List Nat) (K:List Fr) (st:St):Rn T ow k (.code (.region n ss live)::K) st=Rn T ow k (.steps n ss live::K) st:=by
 rw [bN,xH]
 unfold j7
 simp only [Rn,jR]
 cases dM (Call T ow) ow ss n st<;>rfl
theorem Ld (n:Nat) (ss:List aQ) (deps:List (List Nat)) (live:List Nat) (K:List Fr) (st:St):Rn T ow k (.code (.drawn n ss deps live)::K) st=Rn T ow k (.dr n 0 ss deps live []::K) st:=by
 rw [bN,Ib]
 unfold oE
 simp only [Rn,jR]
 cases dJ (Call T ow) ow n ss 0 st with
 |none=>rfl
 |some p=>
  obtain ⟨st',rs⟩:=p
  simp only [List.nil_append]
  cases iG deps (rs.filter Rec.loud)<;>rfl
theorem AL (n:Nat) (live:List Nat) (K:List Fr) (st:St):Rn T ow k (.steps n [] live::K) st=Rn T ow k K (trim live st):=rfl
noncomputable def aft (T:Tab) (ow:bK) (k:aH→St→Option R) (d:Option Nat) (n:Nat) (ss:List aQ) (live:List Nat) (K:List Fr) (st:St):Option (V×Upd)→Option R
 |some (v,u)=>Rn T ow k (.steps (n+1) ss live::K) ((st.upd u).put d v)
 |none=>none
variable {d:Option Nat} {n:Nat} {ss:List aQ} {live:List Nat} {K:List Fr} {st:St}
theorem Lq (op:AOp):Rn T ow k (.steps n (⟨d,op,none⟩::ss) live::K) st=aft T ow k d n ss live K st (ag (Call T ow) ow op st.ev st.heap n):=by
 unfold aft
 simp only [Rn,jR,dM,pi,St.want]
 cases ag (Call T ow) ow op st.ev st.heap n with
 |none=>rfl
 |some p=>obtain ⟨v,u⟩:=p;rfl
theorem Ny (v:V) (u:Upd):aft T ow k d n ss live K st (some (v,u))=Rn T ow k (.steps (n+1) ss live::K) ((st.upd u).put d v):=rfl
theorem NS:aft T ow k d n ss live K st none=none:=rfl
theorem Xa (c:Bool) (x y:Option (V×Upd)):aft T ow k d n ss live K st (br c x y)=br c (aft T ow k d n ss live K st x) (aft T ow k d n ss live K st y):=by cases c<;>rfl
theorem PB {α:Type} (x:Option α) (f:α→Option (V×Upd)):aft T ow k d n ss live K st (x.bind f)=x.bind (fun a=>aft T ow k d n ss live K st (f a)):=by cases x<;>rfl
noncomputable def gd (T:Tab) (ow:bK) (k:aH→St→Option R) (t:Nat) (b:Bool) (d:Option Nat) (op:AOp) (n:Nat) (ss:List aQ) (live:List Nat) (K:List Fr) (st:St):V→Option R
 | .lit (.bool c)=>br (c==b) (Rn T ow k (.steps n (⟨d,op,none⟩::ss) live::K) { st with e:=dv t (.lit (.bool c)) st.e })
  (Rn T ow k (.steps (n+1) ss live::K) ({ st with e:=dv t (.lit (.bool c)) st.e }.put d (.lit (.tuple #[]))))
 | .lit (.tuple _)=>Rn T ow k (.steps (n+1) ss live::K) (st.put d (.lit (.tuple #[])))
 |_=>none
theorem BT {α:Type}: ∀{l:List (Nat×α)} {t:Nat} {v:α},bC l t=some v→dv t v l=l
 |[],_,_,h=>by simp [bC] at h
 | (j,u)::r,t,v,h=>by
   simp only [bC] at h
   simp only [dv]
   split at h
   ·rename_i e;cases h;subst e;simp
   ·rename_i e;rw [if_neg e,BT h]
theorem F6 {v:V} {t:Nat} (h:st.get t=v) (hv:v≠ .undef):({ st with e:=dv t v st.e }:St)=st:=by
 unfold St.get at h
 cases ha:bC st.e t with
 |none=>rw [ha] at h;exact absurd h.symm hv
 |some u=>
  rw [ha] at h;cases h
  show ({ st with e:=dv t u st.e }:St)=st
  rw [BT ha]
theorem Kc (t:Nat) (b:Bool) (op:AOp):Rn T ow k (.steps n (⟨d,op,some (t,b)⟩::ss) live::K) st=gd T ow k t b d op n ss live K st (st.get t):=by
 cases hg:st.get t with
 |lit v=>
  cases v with
  |bool c=>
   simp only [gd]
   rw [F6 hg (by simp)]
   simp only [Rn,jR,dM,pi,St.want,hg]
   cases hcb:(c==b)
   ·simp [aO,hcb]
   ·simp [bR,hcb]
  |tuple xs=>simp only [gd];simp only [Rn,jR,dM,pi,St.want,hg]
  |_=>simp only [gd];simp only [Rn,jR,dM,pi,St.want,hg]
 |_=>simp only [gd];simp only [Rn,jR,dM,pi,St.want,hg]
theorem VZ (t:Nat) (op:AOp) (c:Bool):gd T ow k t true d op n ss live K st (.lit (.bool c))=
 br c (Rn T ow k (.steps n (⟨d,op,none⟩::ss) live::K) { st with e:=dv t (.lit (.bool true)) st.e })
  (Rn T ow k (.steps (n+1) ss live::K) ({ st with e:=dv t (.lit (.bool false)) st.e }.put d (.lit (.tuple #[])))):=by cases c<;>rfl
theorem Pd (t:Nat) (op:AOp) (c:Bool):gd T ow k t false d op n ss live K st (.lit (.bool c))=
 br c (Rn T ow k (.steps (n+1) ss live::K) ({ st with e:=dv t (.lit (.bool true)) st.e }.put d (.lit (.tuple #[]))))
  (Rn T ow k (.steps n (⟨d,op,none⟩::ss) live::K) { st with e:=dv t (.lit (.bool false)) st.e }):=by cases c<;>rfl
theorem MV (t:Nat) (b:Bool) (op:AOp) (xs:Array Value):gd T ow k t b d op n ss live K st (.lit (.tuple xs))=Rn T ow k (.steps (n+1) ss live::K) (st.put d (.lit (.tuple #[]))):=rfl
variable {base i:Nat} {deps:List (List Nat)} {rs:List Rec} {fp:List Nat}
def KL (rs:List Rec) (i:Nat) (fp wr:List Nat):List Rec:=rs++[Rec.mk i fp wr].filter Rec.loud
theorem Im:Rn T ow k (.dr base i [] deps live rs::K) st=br (iG deps rs) (Rn T ow k K (trim live st)) none:=by
 simp only [Rn,jR,dJ,List.filter_nil,List.append_nil]
noncomputable def y5 (T:Tab) (ow:bK) (k:aH→St→Option R) (d:Option Nat) (base i:Nat) (ss:List aQ) (deps:List (List Nat)) (live:List Nat) (rs:List Rec) (K:List Fr) (st:St) (fp:List Nat):Option (V×Upd)→Option R
 |some (v,u)=>br ((u.map (·.1)).all (fun b=>decide (b∈fp)||(st.heap b).isNone))
  (Rn T ow k (.dr base (i+1) ss deps live (KL rs i fp (u.map (·.1)))::K) ((st.upd u).put d v)) none
 |none=>none
theorem WG (op:AOp):Rn T ow k (.dr base i (⟨d,op,none⟩::ss) deps live rs::K) st=
 y5 T ow k d base i ss deps live rs K st (cU ow op st.ev st.heap) (ag (Call T ow) ow op st.ev (jc st.heap (cU ow op st.ev st.heap)) (base+i)):=by
 unfold y5
 simp only [Rn,jR,dJ,mT,St.want]
 cases ho:ag (Call T ow) ow op st.ev (jc st.heap (cU ow op st.ev st.heap)) (base+i) with
 |none=>rfl
 |some p=>
  obtain ⟨v,u⟩:=p
  dsimp only
  by_cases hc:(u.map (·.1)).all (fun b=>decide (b∈cU ow op st.ev st.heap)||(st.heap b).isNone)=true
  ·rw [hc,bR,if_pos rfl]
   dsimp only
   cases dJ (Call T ow) ow base ss (i+1) ((st.upd u).put d v) with
   |none=>rfl
   |some q=>
    obtain ⟨st2,rs2⟩:=q
    simp only [KL,List.filter_cons,List.filter_nil,List.append_assoc]
    cases Rec.loud ⟨i,cU ow op st.ev st.heap,u.map (·.1)⟩<;>rfl
  ·rw [Bool.not_eq_true] at hc
   rw [hc,aO,if_neg (by decide)]
theorem KM (v:V) (u:Upd):y5 T ow k d base i ss deps live rs K st fp (some (v,u))=br ((u.map (·.1)).all (fun b=>decide (b∈fp)||(st.heap b).isNone))
 (Rn T ow k (.dr base (i+1) ss deps live (KL rs i fp (u.map (·.1)))::K) ((st.upd u).put d v)) none:=rfl
theorem HO (v:V):y5 T ow k d base i ss deps live rs K st fp (some (v,[]))=Rn T ow k (.dr base (i+1) ss deps live (KL rs i fp [])::K) (st.put d v):=rfl
theorem Kv:y5 T ow k d base i ss deps live rs K st fp none=none:=rfl
theorem Sf (c:Bool) (x y:Option (V×Upd)):y5 T ow k d base i ss deps live rs K st fp (br c x y)=br c (y5 T ow k d base i ss deps live rs K st fp x) (y5 T ow k d base i ss deps live rs K st fp y):=by cases c<;>rfl
theorem Lt {α:Type} (x:Option α) (f:α→Option (V×Upd)):y5 T ow k d base i ss deps live rs K st fp (x.bind f)=x.bind (fun a=>y5 T ow k d base i ss deps live rs K st fp (f a)):=by cases x<;>rfl
noncomputable def gdD (T:Tab) (ow:bK) (k:aH→St→Option R) (t:Nat) (b:Bool) (d:Option Nat) (op:AOp) (base i:Nat) (ss:List aQ) (deps:List (List Nat)) (live:List Nat) (rs:List Rec) (K:List Fr) (st:St):V→Option R
 | .lit (.bool c)=>br (c==b) (Rn T ow k (.dr base i (⟨d,op,none⟩::ss) deps live rs::K) { st with e:=dv t (.lit (.bool c)) st.e })
  (Rn T ow k (.dr base (i+1) ss deps live rs::K) ({ st with e:=dv t (.lit (.bool c)) st.e }.put d (.lit (.tuple #[]))))
 | .lit (.tuple _)=>Rn T ow k (.dr base (i+1) ss deps live rs::K) (st.put d (.lit (.tuple #[])))
 |_=>none
theorem JN (op:AOp) (g:Nat×Bool) (h:st.want (some g)=some false):Rn T ow k (.dr base i (⟨d,op,some g⟩::ss) deps live rs::K) st=Rn T ow k (.dr base (i+1) ss deps live rs::K) (st.put d (.lit (.tuple #[]))):=by
 simp only [Rn,jR,dJ,mT,h]
 cases dJ (Call T ow) ow base ss (i+1) (st.put d (.lit (.tuple #[]))) with
 |none=>rfl
 |some q=>obtain ⟨st2,rs2⟩:=q;rfl
theorem a1E (op:AOp) (g:Nat×Bool) (h:st.want (some g)=some true):Rn T ow k (.dr base i (⟨d,op,some g⟩::ss) deps live rs::K) st=Rn T ow k (.dr base i (⟨d,op,none⟩::ss) deps live rs::K) st:=by
 have h2:st.want none=some true:=rfl
 simp only [Rn,jR,dJ,mT,h,h2]
theorem Jl (op:AOp) (g:Nat×Bool) (h:st.want (some g)=none):Rn T ow k (.dr base i (⟨d,op,some g⟩::ss) deps live rs::K) st=none:=by
 simp only [Rn,jR,dJ,mT,h]
theorem D2 (t:Nat) (b:Bool) (op:AOp):Rn T ow k (.dr base i (⟨d,op,some (t,b)⟩::ss) deps live rs::K) st=gdD T ow k t b d op base i ss deps live rs K st (st.get t):=by
 cases hg:st.get t with
 |lit v=>
  cases v with
  |bool c=>
   simp only [gdD]
   rw [F6 hg (by simp)]
   cases hcb:(c==b)
   ·rw [aO];exact JN op (t,b) (by simp [St.want,hg,hcb])
   ·rw [bR];exact a1E op (t,b) (by simp [St.want,hg,hcb])
  |tuple xs=>exact JN op (t,b) (by simp [St.want,hg])
  |_=>exact Jl op (t,b) (by simp [St.want,hg])
 |_=>exact Jl op (t,b) (by simp [St.want,hg])
theorem Qd (t:Nat) (op:AOp) (c:Bool):gdD T ow k t true d op base i ss deps live rs K st (.lit (.bool c))=
 br c (Rn T ow k (.dr base i (⟨d,op,none⟩::ss) deps live rs::K) { st with e:=dv t (.lit (.bool true)) st.e })
  (Rn T ow k (.dr base (i+1) ss deps live rs::K) ({ st with e:=dv t (.lit (.bool false)) st.e }.put d (.lit (.tuple #[])))):=by cases c<;>rfl
theorem JW (t:Nat) (op:AOp) (c:Bool):gdD T ow k t false d op base i ss deps live rs K st (.lit (.bool c))=
 br c (Rn T ow k (.dr base (i+1) ss deps live rs::K) ({ st with e:=dv t (.lit (.bool true)) st.e }.put d (.lit (.tuple #[]))))
  (Rn T ow k (.dr base i (⟨d,op,none⟩::ss) deps live rs::K) { st with e:=dv t (.lit (.bool false)) st.e }):=by cases c<;>rfl
theorem M4 (t:Nat) (b:Bool) (op:AOp) (xs:Array Value):gdD T ow k t b d op base i ss deps live rs K st (.lit (.tuple xs))=Rn T ow k (.dr base (i+1) ss deps live rs::K) (st.put d (.lit (.tuple #[]))):=rfl
end
def H5 (af:aC) (m:Nat) (x:aH) (st:St):Option (V×List Blk):=EP af (fa af m (some (x,st)))
theorem al {T:Tab} {ow:bK} {f:FuncId} {af:aC} (hT:T f=some (.code af)) (a:List V) (b:List Blk):Call T ow f a b=Rn T ow (H5 af b.length) [.code af.body] (start a b):=by
 rw [II,hT]
 dsimp only
 rw [bN]
 cases cO T ow af.body (start a b) with
 |none=>rfl
 |some p=>obtain ⟨e,st⟩:=p;cases e<;>rfl
def uG {S E:Type} (step:S→Option (S⊕E)):Nat→S→Option E
 |0,_=>none
 |n+1,s=>match step s with
  |none=>none
  |some (.inl s')=>uG step n s'
  |some (.inr e)=>some e
theorem Bd {S E:Type} {step:S→Option (S⊕E)}: ∀{n:Nat} {s:S} {e:E},uG step n s=some e→uG step (n+1) s=some e
 |0,_,_,h=>by cases h
 |n+1,s,e,h=>by
  simp only [uG] at h ⊢
  split at h
  ·cases h
  ·rename_i s' hs;exact Bd h
  ·rename_i e' hs;exact h
theorem VL {S E:Type} {step:S→Option (S⊕E)} {n m:Nat} (hnm:n≤m) {s:S} {e:E} (h:uG step n s=some e):uG step m s=some e:=by
 induction hnm with
 |refl=>exact h
 |step _ ih=>exact Bd ih
noncomputable def Loop {S E:Type} (step:S→Option (S⊕E)) (s:S):Option E:=lim (fun n=>uG step n s)
theorem yp {S E:Type} {step:S→Option (S⊕E)} {s:S} {e:E} (h:Loop step s=some e): ∃n,uG step n s=some e:=HS h
theorem CR {S E:Type} {step:S→Option (S⊕E)} {n:Nat} {s:S} {e:E} (h:uG step n s=some e):Loop step s=some e:=
 HG (g:=fun n=>uG step n s) (fun _ _ _ hnm h=>VL hnm h) h
def Jw {S E:Type} (lp:S→Option E):Option (S⊕E)→Option E
 |none=>none
 |some (.inl s')=>lp s'
 |some (.inr e)=>some e
theorem tc {S E:Type} (step:S→Option (S⊕E)) (s:S):Loop step s=Jw (Loop step) (step s):=by
 refine mg (fun r h=> ?_) (fun r h=> ?_)
 ·obtain ⟨n,hn⟩:=yp h
  cases n with
  |zero=>cases hn
  |succ n=>
   simp only [uG] at hn
   split at hn
   ·cases hn
   ·rename_i s' hs;rw [hs];exact CR hn
   ·rename_i e' hs;rw [hs];exact hn
 ·cases hs:step s with
  |none=>rw [hs] at h;cases h
  |some o=>
   rw [hs] at h
   cases o with
   |inl s'=>
    obtain ⟨n,hn⟩:=yp (show Loop step s'=some r from h)
    exact CR (n:=n+1) (by simp only [uG,hs];exact hn)
   |inr e=>exact CR (n:=1) (by simp only [uG,hs];exact h)
def a1j (x:aH) (st:St):Option (aH×St):=some (x,st)
theorem Ou {T:Tab} {ow:bK} (c:au) (st:St):cO T ow c st=Rn T ow a1j [.code c] st:=by
 rw [bN]
 cases cO T ow c st with
 |none=>rfl
 |some p=>obtain ⟨e,st⟩:=p;cases e<;>rfl
theorem a1f {T:Tab} {ow:bK} {S E:Type} {c:au} {step:S→Option (S⊕E)} {eS:S→St} {eE:E→aH×St} (hne: ∀e,(eE e).1≠ .normal)
 (hb: ∀s o,step s=some o→Rn T ow a1j [.code c] (eS s)=some (match o with
  | .inl s'=>(.normal,eS s')
  | .inr e=>eE e)) {s:S} {e:E} (h:Loop step s=some e):cO T ow (.loop c) (eS s)=some (eE e):=by
 obtain ⟨n,hn⟩:=yp h
 clear h
 induction n generalizing s with
 |zero=>cases hn
 |succ n ih=>
  simp only [uG] at hn
  rw [BR,Ou]
  split at hn
  ·cases hn
  ·rename_i s' hs
   rw [hb s _ hs]
   exact ih hn
  ·rename_i e' hs
   rw [hb s _ hs]
   cases hn
   dsimp only
   have:=hne e
   revert this
   generalize eE e=p
   obtain ⟨x,st⟩:=p
   intro this
   cases x with
   |normal=>exact absurd rfl this
   |exit id=>rfl
   |ret=>rfl
def mZ (g:ci):au→au
 | .seq a b=> .seq (mZ g a) b
 | .block id a=> .block id (mZ g a)
 |c=> .ghost g c
section
variable {R:Type} {T:Tab} {ow:bK} {k:aH→St→Option R}
def ghE (T:Tab) (ow:bK) (c:au):Option St→Option (aH×St)→Option (aH×St)
 |some _,r=>r
 |none,_=>none
theorem wz (g:ci): ∀(c:au) (st:St),cO T ow (mZ g c) st=(match bc st g with
 |some st'=>cO T ow c st'
 |none=>none)
 | .seq a b,st=>by
   simp only [mZ]
   rw [w5,wz g a st]
   cases bc st g with
   |none=>rfl
   |some st'=>dsimp only;rw [w5]
 | .block id a,st=>by
   simp only [mZ]
   rw [uW,wz g a st]
   cases bc st g with
   |none=>rfl
   |some st'=>dsimp only;rw [uW]
 | .skip,st=>fx _ _ _
 | .region _ _ _,st=>fx _ _ _
 | .drawn _ _ _ _,st=>fx _ _ _
 | .cond _ _ _,st=>fx _ _ _
 | .loop _,st=>fx _ _ _
 | .exit _,st=>fx _ _ _
 | .ret,st=>fx _ _ _
 | .ghost _ _,st=>fx _ _ _
noncomputable def bL (T:Tab) (ow:bK) (g:ci) (c:au) (st:St):Option (aH×St):=match cO T ow c st with
 |some (.normal,st')=>cO T ow (.loop (mZ g c)) st'
 |r=>r
noncomputable def goL (T:Tab) (ow:bK) (k:aH→St→Option R) (K:List Fr) (g:ci) (c:au):Option St→Option R
 |some st'=>goR T ow k K (bL T ow g c st')
 |none=>none
theorem zq (g:ci) (c:au) (st:St):cO T ow (.loop (mZ g c)) st=(match bc st g with
 |some st'=>bL T ow g c st'
 |none=>none):=by
 rw [BR,wz]
 cases bc st g<;>rfl
theorem L0 (g:ci) (c:au) (K:List Fr) (st:St):Rn T ow k (.code (.loop (mZ g c))::K) st=goL T ow k K g c (bc st g):=by
 rw [bN,zq]
 cases bc st g<;>rfl
theorem QP (K:List Fr) (g:ci) (c:au) (st':St):goL T ow k K g c (some st')=goR T ow k K (bL T ow g c st'):=rfl
def ogM:Option St→Option (aH×St)
 |some st=>some (.normal,st)
 |none=>none
def Ce (g:ci):aH→St→Option (aH×St)
 | .normal,st=>ogM (bc st g)
 |x,st=>some (x,st)
theorem DX (g:ci) (st:St):Ce g .normal st=ogM (bc st g):=rfl
theorem LP (g:ci) (id:Nat) (st:St):Ce g (.exit id) st=some (.exit id,st):=rfl
theorem MI (g:ci) (st:St):Ce g .ret st=some (.ret,st):=rfl
theorem R4 (st:St):ogM (some st)=some (.normal,st):=rfl
theorem KS {S E:Type} {g:ci} {c:au} {step:S→Option (S⊕E)} {eS:S→St} {eE:E→aH×St} (hne: ∀e,(eE e).1≠ .normal)
 (hb: ∀s o,step s=some o→Rn T ow (Ce g) [.code c] (eS s)=some (match o with
  | .inl s'=>(.normal,eS s')
  | .inr e=>eE e)) {s:S} {e:E} (h:Loop step s=some e):bL T ow g c (eS s)=some (eE e):=by
 obtain ⟨n,hn⟩:=yp h
 clear h
 induction n generalizing s with
 |zero=>cases hn
 |succ n ih=>
  simp only [uG] at hn
  unfold bL
  split at hn
  ·cases hn
  ·rename_i s' hs
   have h1:=hb s _ hs
   rw [bN] at h1
   cases hx:cO T ow c (eS s) with
   |none=>rw [hx] at h1;cases h1
   |some p=>
    obtain ⟨x,st'⟩:=p
    rw [hx] at h1
    cases x with
    |normal=>
     dsimp only
     rw [zq]
     simp only [goR,Rn,jR,Ce,ogM] at h1
     cases hg:bc st' g with
     |none=>rw [hg] at h1;cases h1
     |some st2=>rw [hg] at h1;cases h1;exact ih hn
    |exit id=>simp [goR,Unw,jR,Ce] at h1
    |ret=>simp [goR,Ce] at h1
  ·rename_i e' hs
   have h1:=hb s _ hs
   cases hn
   have hn2:=hne e
   rw [bN] at h1
   dsimp only at h1
   revert h1 hn2
   generalize eE e=q
   intro h1 hn2
   cases hx:cO T ow c (eS s) with
   |none=>rw [hx] at h1;cases h1
   |some p=>
    obtain ⟨x,st'⟩:=p
    rw [hx] at h1
    cases x with
    |normal=>
     simp only [goR,Rn,jR,Ce,ogM] at h1
     cases hg:bc st' g with
     |none=>rw [hg] at h1;cases h1
     |some st2=>rw [hg] at h1;cases h1;exact absurd rfl hn2
    |exit id=>exact h1
    |ret=>exact h1
variable {d:Option Nat} {n:Nat} {ss:List aQ} {live:List Nat} {K:List Fr} {st:St} {base i:Nat} {deps:List (List Nat)} {rs:List Rec} {fp:List Nat} {r:R}
theorem It {x:Option (aH×St)} {p:aH×St} (h:x=some p) (hr:goR T ow k K (some p)=some r):goR T ow k K x=some r:=by rw [h];exact hr
theorem MA (g:ci) (c:au):goR T ow k K (bL T ow g c st)=Rn T ow k (.code c:: .code (.loop (mZ g c))::K) st:=by
 rw [bN]
 unfold bL
 cases hx:cO T ow c st with
 |none=>rfl
 |some p=>
  obtain ⟨x,st'⟩:=p
  cases x with
  |normal=>dsimp only;simp only [goR];rw [bN];rfl
  |exit id=>rfl
  |ret=>rfl
theorem ka {g:ci} {c:au} (h:Rn T ow k (.code c:: .code (.loop (mZ g c))::K) st=some r):goR T ow k K (bL T ow g c st)=some r:=by rw [MA];exact h
theorem bind_some {α β:Type} {x:Option α} {a:α} {F:α→Option β} {r:β} (h:x=some a) (hr:F a=some r):x.bind F=some r:=by rw [h];exact hr
end
end Go.AI
set_option linter.unusedVariables false
set_option linter.unusedSimpArgs false
namespace Go.AI
abbrev I (n:Int):V:= .lit (.int .i64 n)
abbrev B (b:Bool):V:= .lit (.bool b)
abbrev S (s:List UInt8):V:= .lit (.string ⟨⟨s⟩⟩)
structure En (α:Type) where
 esz:Nat
 enc:α→List V
def rws {α:Type} (e:En α) (l:List α):List (List V):=l.map e.enc
def sl {α:Type} (e:En α) (l:List α):V:=(V.imm e.esz (rws e l)).cz
theorem PO {α:Type} (e:En α):sl e []= .imm 1 []:=rfl
theorem a1U {α:Type} (e:En α) (x:α) (l:List α):sl e (x::l)= .imm e.esz (rws e (x::l)):=rfl
def eI:En Int:=⟨1,fun n=>[I n]⟩
def eU8:En UInt8:=⟨1,fun b=>[.lit (.int .u8 b.toNat)]⟩
def FB:En Int:=⟨1,fun n=>[.lit (.int .u64 n)]⟩
def eB:En Bool:=⟨1,fun b=>[B b]⟩
def eS:En (List UInt8):=⟨1,fun s=>[S s]⟩
def eL {α:Type} (e:En α):En (List α):=⟨1,fun l=>[sl e l]⟩
theorem Xx:eI.esz=1:=by decide
theorem Yi (n:Int):eI.enc n=[I n]:=rfl
theorem UW:eU8.esz=1:=by decide
theorem T3 (n:UInt8):eU8.enc n=[.lit (.int .u8 n.toNat)]:=rfl
theorem Rh:FB.esz=1:=by decide
theorem QD (n:Int):FB.enc n=[.lit (.int .u64 n)]:=rfl
theorem Zz:eB.esz=1:=by decide
theorem YX (n:Bool):eB.enc n=[B n]:=rfl
theorem Ws:eS.esz=1:=by decide
theorem YL (n:List UInt8):eS.enc n=[S n]:=rfl
theorem WS {α:Type} (e:En α):(eL e).esz=1:=of_decide_eq_true rfl
theorem Y1 {α:Type} (e:En α) (l:List α):(eL e).enc l=[sl e l]:=rfl
def atL {α:Type} (l:List α) (i:Int):Option α:=if 0≤i then l[i.toNat]? else none
def oZ {α:Type} (l:List α) (a b:Int):Option (List α):=if 0≤a∧a≤b∧b≤l.length then some ((l.take b.toNat).drop a.toNat) else none
def inb (i:Int) (n:Nat):Bool:=decide (0≤i)&&decide (i.toNat<n)
def aK (n bytes:Nat):Bool:=decide (n*bytes≤bf)
def DC (l c:Int) (bytes:Nat):Bool:=decide (0≤l)&&decide (l≤c)&&decide (c*bytes≤bf)
def mx (a b:Int):Int:=if b>a then b else a
def mn (a b:Int):Int:=if b<a then b else a
def Ja (r:List (List V)):Nat:=r.length
def app (r q:List (List V)):List (List V):=r++q
def mkR (n:Nat) (r:List (List V)):List (List V):=r
def cA (row:List V) (r:List (List V)):List (List V):=row::r
def Cg (n k:Nat) (row:List V):List (List V):=List.replicate k row
def eo (r:List (List V)) (i:Nat) (row:List V):List (List V):=r.set i row
section
variable {α:Type} {e:En α} {l l2:List α}
theorem My:Ja (rws e l)=l.length:=by simp [Ja,rws]
theorem UA:app (rws e l) (rws e l2)=rws e (l++l2):=by simp [app,rws]
theorem mk0 (e:En α) (n:Nat):mkR n []=rws e []:=rfl
theorem MP (n:Nat) (row:List V) (r:List (List V)):mkR n (row::r)=cA row (mkR n r):=rfl
theorem a0I (a:Int) (l:List Int):cA [I a] (rws eI l)=rws eI (a::l):=rfl
theorem a0J (a:List UInt8) (l:List (List UInt8)):cA [S a] (rws eS l)=rws eS (a::l):=rfl
theorem a1K (a:List α) (l:List (List α)):cA [sl e a] (rws (eL e) l)=rws (eL e) (a::l):=rfl
theorem Xv (l:List (List α)):cA [.imm 1 []] (rws (eL e) l)=rws (eL e) ([]::l):=rfl
theorem a1p (b:Bool) (l:List Bool):cA [B b] (rws eB l)=rws eB (b::l):=rfl
theorem SY (a:Int) (l:List Int):cA [.lit (.int .u64 a)] (rws FB l)=rws FB (a::l):=rfl
theorem Io (b:UInt8) (l:List UInt8):cA [.lit (.int .u8 b.toNat)] (rws eU8 l)=rws eU8 (b::l):=rfl
theorem kv (x:Int):((UInt8.ofInt x).toNat:Int)=IntKind.u8.wrap x:=by
 simp [UInt8.ofInt,IntKind.wrap,IntKind.bits,IntKind.signed]
 omega
theorem vS (x:Int) (l:List UInt8):cA [.lit (.int .u8 (IntKind.u8.wrap x))] (rws eU8 l)=rws eU8 (UInt8.ofInt x::l):=by
 rw [←kv];rfl
theorem a1T (n:Nat) (h:n<256) (l:List UInt8):cA [.lit (.int .u8 (n:Int))] (rws eU8 l)=rws eU8 (UInt8.ofNat n::l):=by
 have:(UInt8.ofNat n).toNat=n:=by simp;omega
 rw [←Io,this]
theorem V8 (n:Nat) (h:Nat.ble n 255=true) (l:List UInt8):cA [.lit (.int .u8 (no_index (OfNat.ofNat n:Int)))] (rws eU8 l)=rws eU8 ((OfNat.ofNat n:UInt8)::l):=by
 have h':=Nat.le_of_ble_eq_true h
 have:((OfNat.ofNat n:UInt8).toNat:Int)=(OfNat.ofNat n:Int):=by
  show ((UInt8.ofNat n).toNat:Int)=(n:Int)
  simp;omega
 rw [←Io,this]
theorem a2e (l:List Int) (i:Nat) (a:Int):eo (rws eI l) i [I a]=rws eI (l.set i a):=by simp [eo,rws,eI]
theorem ZP (l:List Int) (i:Nat) (a:Int):eo (rws FB l) i [.lit (.int .u64 a)]=rws FB (l.set i a):=by simp [eo,rws,FB]
theorem setB (l:List Bool) (i:Nat) (a:Bool):eo (rws eB l) i [B a]=rws eB (l.set i a):=by simp [eo,rws,eB]
theorem Yo (l:List (List UInt8)) (i:Nat) (a:List UInt8):eo (rws eS l) i [S a]=rws eS (l.set i a):=by simp [eo,rws,eS]
theorem a1Z (l:List (List α)) (i:Nat) (a:List α):eo (rws (eL e) l) i [sl e a]=rws (eL e) (l.set i a):=by simp [eo,rws,eL]
theorem Wh (l:List UInt8) (i:Nat) (a:UInt8):eo (rws eU8 l) i [.lit (.int .u8 a.toNat)]=rws eU8 (l.set i a):=by simp [eo,rws,eU8]
theorem A1 (l:List UInt8) (i:Nat) (x:Int):eo (rws eU8 l) i [.lit (.int .u8 (IntKind.u8.wrap x))]=rws eU8 (l.set i (UInt8.ofInt x)):=by
 rw [←kv,Wh]
theorem a0x (e:En α) (x:α) (n k:Nat):Cg n k (e.enc x)=rws e (List.replicate k x):=by simp [Cg,rws]
theorem Zs (m:Nat) (h:e.esz=m):V.cz (.imm m (rws e l))=sl e l:=by subst h;rfl
theorem Jj (r:List (List V)):r.drop 0=r:=rfl
theorem a0e (k:Nat):(rws e l).drop k=rws e (l.drop k):=by simp [rws]
theorem ff (e:En α) (l:List α):(l=[]∧sl e l= .imm 1 [])∨(l≠[]∧sl e l= .imm e.esz (rws e l)):=by
 cases l with
 |nil=>exact .inl ⟨rfl,rfl⟩
 |cons x l=>exact .inr ⟨by simp,rfl⟩
theorem a1P:(sl e l).cz=sl e l:=by
 cases l with
 |nil=>rfl
 |cons x l=>rfl
theorem Zt:(sl e l).czA=sl e l:=by
 cases l with
 |nil=>rfl
 |cons x l=>rfl
theorem Xo:(sl e l).czR=sl e l:=by
 cases l with
 |nil=>rfl
 |cons x l=>rfl
theorem SX:(sl e l).cell=true:=by
 rcases ff e l with ⟨_,h⟩|⟨_,h⟩<;>rw [h]<;>rfl
theorem a1l:(sl e l).cl=true:=by
 rcases ff e l with ⟨_,h⟩|⟨_,h⟩<;>rw [h]<;>rfl
theorem Nb:(sl e l).cells=[sl e l]:=by
 rcases ff e l with ⟨_,h⟩|⟨_,h⟩<;>rw [h]<;>rfl
theorem VI:cH (sl e l)=[]:=by
 rcases ff e l with ⟨_,h⟩|⟨_,h⟩<;>rw [h]<;>rfl
theorem SA:ju (sl e l)=[]:=by
 rcases ff e l with ⟨_,h⟩|⟨_,h⟩<;>rw [h]<;>rfl
theorem IU {h:ak}:ic h (sl e l)=some (sl e l,[]):=by
 rcases ff e l with ⟨_,h⟩|⟨_,h⟩<;>rw [h]<;>rfl
theorem H7 {h:ak} {own:Bool} {ids:List Nat}:bq h own ids (sl e l)=some (sl e l,ids,[]):=by
 rcases ff e l with ⟨_,h⟩|⟨_,h⟩<;>rw [h]<;>rfl
theorem LB {h:ak} {own:Bool} {ids:List Nat}:cc h own ids (sl e l)=some (sl e l,ids,[]):=by
 rcases ff e l with ⟨_,h⟩|⟨_,h⟩<;>rw [h]<;>rfl
theorem ZK {ids:List Nat}:unV ids (sl e l)=sl e l:=by
 rcases ff e l with ⟨_,h⟩|⟨_,h⟩<;>rw [h]<;>rfl
theorem Rf {ids:List Nat}:fR ids (sl e l)=sl e l:=by
 rcases ff e l with ⟨_,h⟩|⟨_,h⟩<;>rw [h]<;>rfl
theorem Nn {ids:List Nat}:pg ids (sl e l)=sl e l:=by
 rcases ff e l with ⟨_,h⟩|⟨_,h⟩<;>rw [h]<;>rfl
theorem MH:ir (sl e l)=false:=by
 rcases ff e l with ⟨_,h⟩|⟨_,h⟩<;>rw [h]<;>rfl
theorem RD:rg (sl e l)=false:=by
 rcases ff e l with ⟨_,h⟩|⟨_,h⟩<;>rw [h]<;>rfl
theorem OS:jG (sl e l)=false:=by
 rcases ff e l with ⟨_,h⟩|⟨_,h⟩<;>rw [h]<;>rfl
theorem Yd {h:ak} {bs:List Nat}:fzC h bs (sl e l)=sl e l:=by
 rcases ff e l with ⟨_,h⟩|⟨_,h⟩<;>rw [h]<;>rfl
theorem ZR {h:ak} {bs:List Nat}:fzA h bs (sl e l)=sl e l:=by
 rcases ff e l with ⟨_,h⟩|⟨_,h⟩<;>rw [h]<;>rfl
theorem V6 {h:ak} {m:Nat} {kp:List Nat}:iu h m kp (sl e l)=some (sl e l):=by
 rcases ff e l with ⟨_,h⟩|⟨_,h⟩<;>rw [h]<;>rfl
theorem VC {h:ak} {m:Nat} {kp:List Nat}:rq h m kp (sl e l)=some (sl e l):=by
 rcases ff e l with ⟨_,h⟩|⟨_,h⟩<;>rw [h]<;>rfl
theorem SQ {h:ak} {m:Nat} {kp:List Nat}:tj h m kp (sl e l)=some (sl e l):=by
 rcases ff e l with ⟨_,h⟩|⟨_,h⟩<;>rw [h]<;>rfl
theorem Zk:okC (sl e l)=true:=by
 rcases ff e l with ⟨_,h⟩|⟨_,h⟩<;>rw [h]<;>rfl
theorem Bx {h:ak} (m:Nat) (hm:e.esz=m):bI h m (sl e l)=some (rws e l):=by
 subst hm
 rcases ff e l with ⟨rfl,h⟩|⟨hl,h⟩
 ·rw [h];simp [bI,rws]
 ·rw [h];simp [bI]
theorem Eu:JI (sl e l)=false:=by
 rcases ff e l with ⟨_,h⟩|⟨_,h⟩<;>rw [h]<;>rfl
end
end Go.AI
