/- The limit of the abstract machine's runs: more rounds tell the same; the equations of the limit. -/
import Derived.Test.YtdmhkkcihecndaaGreatAiExec
namespace Go.AI
theorem IJ {C C':aU} (hC: ∀f a b r,C f a b=some r→C' f a b=some r) {ow:dl} {h:ak} {new:Nat} {f:FuncId} {args:List V} {r:V×Upd}
 (hr:iJ C ow h new f args=some r):iJ C' ow h new f args=some r:=by
 unfold iJ at hr ⊢
 cases hp:cK ow h f args with
 |none=>rw [hp] at hr;cases hr
 |some p=>
  obtain ⟨args',blks,ids,bor⟩:=p
  rw [hp] at hr
  dsimp only at hr ⊢
  cases hc:C f (oh (ow f) args') (nL (ow f) blks) with
  |none=>rw [hc] at hr;cases hr
  |some q=>rw [hC _ _ _ _ hc];rw [hc] at hr;exact hr
theorem Kc {C C':aU} (hC: ∀f a b r,C f a b=some r→C' f a b=some r) {ow:dl} {o:AOp} {ev:Opd→V} {h:ak} {new:Nat} {r:V×Upd}
 (hr:ai C ow o ev h new=some r):ai C' ow o ev h new=some r:=by
 cases o
 case call f args=>simp only [ai] at hr ⊢;exact IJ hC hr
 case dyn f args=>
  simp only [ai] at hr ⊢
  split at hr
  ·exact IJ hC hr
  ·cases hr
 all_goals exact hr
theorem QG {C:Nat→aU} {D:aU} (hD: ∀f a b r,D f a b=some r→ ∃n,C n f a b=some r) (n0:Nat) {ow:dl} {o:AOp} {ev:Opd→V} {h:ak} {new:Nat} {r:V×Upd}
 (hr:ai D ow o ev h new=some r): ∃n,ai (C n) ow o ev h new=some r:=by
 have key: ∀f args,iJ D ow h new f args=some r→ ∃n,iJ (C n) ow h new f args=some r:=by
  intro f args hr
  unfold iJ at hr
  cases hp:cK ow h f args with
  |none=>rw [hp] at hr;cases hr
  |some p=>
   obtain ⟨args',blks,ids,bor⟩:=p
   rw [hp] at hr
   dsimp only at hr
   cases hc:D f (oh (ow f) args') (nL (ow f) blks) with
   |none=>rw [hc] at hr;cases hr
   |some q=>
    rw [hc] at hr
    obtain ⟨n,hn⟩:=hD _ _ _ _ hc
    refine ⟨n, ?_⟩
    unfold iJ
    rw [hp]
    dsimp only
    rw [hn]
    exact hr
 cases o
 case call f args=>simp only [ai] at hr ⊢;exact key _ _ hr
 case dyn f args=>
  simp only [ai] at hr ⊢
  split at hr
  ·exact key _ _ hr
  ·cases hr
 all_goals exact ⟨n0,hr⟩
theorem Kp {C C':aU} (hC: ∀f a b r,C f a b=some r→C' f a b=some r) {ow:dl} {st:St} {s:aY} {n:Nat} {r:St}
 (hr:wL C ow st s n=some r):wL C' ow st s n=some r:=by
 unfold wL at hr ⊢
 split at hr
 ·cases hr
 ·exact hr
 ·split at hr
  ·rename_i v u ho;rw [Kc hC ho];exact hr
  ·cases hr
theorem p6 {C C':aU} (hC: ∀f a b r,C f a b=some r→C' f a b=some r) {ow:dl}: ∀{l:List aY} {n:Nat} {st:St} {r:St},
 hG C ow l n st=some r→hG C' ow l n st=some r
 |[],_,_,_,hr=>hr
 |s::l,n,st,r,hr=>by
  simp only [hG] at hr ⊢
  split at hr
  ·rename_i st' h;rw [Kp hC h];exact p6 hC hr
  ·cases hr
theorem Nl {C C':aU} (hC: ∀f a b r,C f a b=some r→C' f a b=some r) {ow:dl} {st:St} {s:aY} {i n:Nat} {r:St×Rec}
 (hr:tn C ow st s i n=some r):tn C' ow st s i n=some r:=by
 unfold tn at hr ⊢
 split at hr
 ·cases hr
 ·exact hr
 ·split at hr
  ·rename_i v u ho;rw [Kc hC ho];exact hr
  ·cases hr
theorem oI {C C':aU} (hC: ∀f a b r,C f a b=some r→C' f a b=some r) {ow:dl} {base:Nat}: ∀{l:List aY} {n:Nat} {st:St} {r:St×List Rec},
 fm C ow base l n st=some r→fm C' ow base l n st=some r
 |[],_,_,_,hr=>hr
 |s::l,n,st,r,hr=>by
  simp only [fm] at hr ⊢
  split at hr
  ·rename_i st' rc h
   rw [Nl hC h]
   dsimp only
   split at hr
   ·rename_i st2 rs h2;rw [oI hC h2];exact hr
   ·cases hr
  ·cases hr
theorem bT {C C':aU} (hC: ∀f a b r,C f a b=some r→C' f a b=some r) {ow:dl}: ∀(n m:Nat),n≤m→ ∀{c:ae} {st:St} {r:ah×St},
 bA C ow n c st=some r→bA C' ow m c st=some r
 |0,_,_,_,_,_,hr=>by simp [bA] at hr
 |n+1,0,h,_,_,_,_=>absurd h (by omega)
 |n+1,m+1,h,c,st,r,hr=>by
  have ih:=fun {c st r}=>bT hC (ow:=ow) n m (by omega) (c:=c) (st:=st) (r:=r)
  cases c with
  |skip=>exact hr
  |region base steps live=>
   simp only [bA,nO] at hr ⊢
   split at hr
   ·rename_i st' h;rw [p6 hC h];exact hr
   ·cases hr
  |drawn base steps deps live=>
   simp only [bA,uS] at hr ⊢
   split at hr
   ·rename_i st' rs h;rw [oI hC h];exact hr
   ·cases hr
  |seq a b=>
   simp only [bA] at hr ⊢
   cases ha:bA C ow n a st with
   |none=>rw [ha] at hr;cases hr
   |some p=>
    obtain ⟨e,st'⟩:=p
    rw [ih ha]
    rw [ha] at hr
    cases e with
    |normal=>exact ih hr
    |exit id=>exact hr
    |ret=>exact hr
  |cond c a b=>
   simp only [bA] at hr ⊢
   split at hr
   ·exact ih hr
   ·exact ih hr
   ·cases hr
  |block id c=>
   simp only [bA] at hr ⊢
   cases ha:bA C ow n c st with
   |none=>rw [ha] at hr;cases hr
   |some p=>rw [ih ha];rw [ha] at hr;exact hr
  |loop c=>
   simp only [bA] at hr ⊢
   cases ha:bA C ow n c st with
   |none=>rw [ha] at hr;cases hr
   |some p=>
    obtain ⟨e,st'⟩:=p
    rw [ih ha]
    rw [ha] at hr
    cases e with
    |normal=>exact ih hr
    |exit id=>exact hr
    |ret=>exact hr
  |exit id=>exact hr
  |ret=>exact hr
  |ghost g c=>
   simp only [bA] at hr ⊢
   split at hr
   ·exact ih hr
   ·cases hr
theorem Nm (T:Tab) (ow:dl): ∀(n:Nat) f a b r,cJ T ow n f a b=some r→cJ T ow (n+1) f a b=some r
 |0,_,_,_,_,h=>by simp [cJ] at h
 |n+1,f,a,b,r,h=>by
  simp only [cJ] at h ⊢
  split at h
  ·cases h
  rotate_left
  ·exact h
  ·rename_i af haf
   cases he:bA (cJ T ow n) ow n af.body (start a b) with
   |none=>rw [he] at h;simp [jN,UP] at h
   |some p=>
    have:=bT (Nm T ow n) (ow:=ow) n (n+1) (by omega) he
    simp only [cJ] at this
    rw [this]
    rw [he] at h
    exact h
theorem bS (T:Tab) (ow:dl) {n m:Nat} (h:n≤m): ∀f a b r,cJ T ow n f a b=some r→cJ T ow m f a b=some r:=by
 induction h with
 |refl=>exact fun _ _ _ _ h=>h
 |step _ ih=>exact fun f a b r h=>Nm T ow _ f a b r (ih f a b r h)
open Classical in
noncomputable def lim {α:Type} (g:Nat→Option α):Option α:=if h: ∃n r,g n=some r then g h.choose else none
theorem Z4 {α:Type} {g:Nat→Option α} (hm: ∀n m r,n≤m→g n=some r→g m=some r) {n:Nat} {r:α} (h:g n=some r):lim g=some r:=by
 have hx: ∃n r,g n=some r:=⟨n,r,h⟩
 unfold lim
 rw [dif_pos hx]
 obtain ⟨r',hr'⟩:=hx.choose_spec
 have h1:=hm _ (max n hx.choose) _ (Nat.le_max_left _ _) h
 have h2:=hm _ (max n hx.choose) _ (Nat.le_max_right _ _) hr'
 rw [h1] at h2
 rw [hr', ←h2]
theorem YC {α:Type} {g:Nat→Option α} {r:α} (h:lim g=some r): ∃n,g n=some r:=by
 unfold lim at h
 split at h
 ·exact ⟨_,h⟩
 ·cases h
noncomputable def Call (T:Tab) (ow:dl):aU:=fun f a b=>lim fun n=>cJ T ow n f a b
noncomputable def fM (T:Tab) (ow:dl) (c:ae) (st:St):Option (ah×St):=lim fun n=>bA (cJ T ow n) ow n c st
section
variable {T:Tab} {ow:dl}
theorem a8q {n m:Nat} (h:n≤m) {c:ae} {st:St} {r:ah×St} (hr:bA (cJ T ow n) ow n c st=some r):bA (cJ T ow m) ow m c st=some r:=
 bT (bS T ow h) n m h hr
theorem dh {n:Nat} {c:ae} {st:St} {r:ah×St} (h:bA (cJ T ow n) ow n c st=some r):fM T ow c st=some r:=
 Z4 (g:=fun n=>bA (cJ T ow n) ow n c st) (fun _ _ _ hnm h=>a8q hnm h) h
theorem gi {c:ae} {st:St} {r:ah×St} (h:fM T ow c st=some r): ∃n,bA (cJ T ow n) ow n c st=some r:=YC h
theorem R7 {n:Nat} {f:FuncId} {a:List V} {b:List Blk} {r:V×List Blk} (h:cJ T ow n f a b=some r):Call T ow f a b=some r:=
 Z4 (g:=fun n=>cJ T ow n f a b) (fun _ _ _ hnm h=>bS T ow hnm _ _ _ _ h) h
theorem JV {f:FuncId} {a:List V} {b:List Blk} {r:V×List Blk} (h:Call T ow f a b=some r): ∃n,cJ T ow n f a b=some r:=YC h
theorem rd {α:Type} {a b:Option α} (h1: ∀r,a=some r→b=some r) (h2: ∀r,b=some r→a=some r):a=b:=by
 cases a with
 |none=>cases b with
  |none=>rfl
  |some r=>exact absurd (h2 r rfl) (by simp)
 |some r=>exact (h1 r rfl).symm
theorem L8: ∀{l:List aY} {n:Nat} {st:St} {r:St},hG (Call T ow) ow l n st=some r→ ∃k,hG (cJ T ow k) ow l n st=some r
 |[],_,_,_,h=>⟨0,h⟩
 |s::l,n,st,r,h=>by
  simp only [hG] at h
  cases h1:wL (Call T ow) ow st s n with
  |none=>rw [h1] at h;cases h
  |some st'=>
   rw [h1] at h
   obtain ⟨k2,hk2⟩:=L8 h
   have: ∃k,wL (cJ T ow k) ow st s n=some st':=by
    unfold wL at h1 ⊢
    split at h1
    ·cases h1
    ·exact ⟨0,h1⟩
    ·split at h1
     ·rename_i v u ho
      obtain ⟨k,hk⟩:=QG (C:=cJ T ow) (D:=Call T ow) (fun _ _ _ _ h=>JV h) 0 ho
      exact ⟨k,by rw [hk];exact h1⟩
     ·cases h1
   obtain ⟨k1,hk1⟩:=this
   refine ⟨max k1 k2, ?_⟩
   simp only [hG]
   rw [Kp (bS T ow (Nat.le_max_left k1 k2)) hk1]
   exact p6 (bS T ow (Nat.le_max_right k1 k2)) hk2
theorem Ni {base:Nat}: ∀{l:List aY} {n:Nat} {st:St} {r:St×List Rec},fm (Call T ow) ow base l n st=some r→ ∃k,fm (cJ T ow k) ow base l n st=some r
 |[],_,_,_,h=>⟨0,h⟩
 |s::l,n,st,r,h=>by
  simp only [fm] at h
  cases h1:tn (Call T ow) ow st s n (base+n) with
  |none=>rw [h1] at h;cases h
  |some p=>
   obtain ⟨st',rc⟩:=p
   rw [h1] at h
   dsimp only at h
   cases h2:fm (Call T ow) ow base l (n+1) st' with
   |none=>rw [h2] at h;cases h
   |some q=>
    obtain ⟨st2,rs⟩:=q
    rw [h2] at h
    obtain ⟨k2,hk2⟩:=Ni h2
    have: ∃k,tn (cJ T ow k) ow st s n (base+n)=some (st',rc):=by
     unfold tn at h1 ⊢
     split at h1
     ·cases h1
     ·exact ⟨0,h1⟩
     ·split at h1
      ·rename_i v u ho
       obtain ⟨k,hk⟩:=QG (C:=cJ T ow) (D:=Call T ow) (fun _ _ _ _ h=>JV h) 0 ho
       exact ⟨k,by rw [hk];exact h1⟩
      ·cases h1
    obtain ⟨k1,hk1⟩:=this
    refine ⟨max k1 k2, ?_⟩
    simp only [fm]
    rw [Nl (bS T ow (Nat.le_max_left k1 k2)) hk1]
    dsimp only
    rw [oI (bS T ow (Nat.le_max_right k1 k2)) hk2]
    exact h
theorem LG (k:Nat): ∀f a b r,cJ T ow k f a b=some r→Call T ow f a b=some r:=fun _ _ _ _ h=>R7 h
theorem a2g (st:St):fM T ow .skip st=some (.normal,st):=dh (n:=1) rfl
theorem a1F (id:Nat) (st:St):fM T ow (.exit id) st=some (.exit id,st):=dh (n:=1) rfl
theorem a5y (st:St):fM T ow .ret st=some (.ret,st):=dh (n:=1) rfl
theorem VU (base:Nat) (steps:List aY) (live:List Nat) (st:St):fM T ow (.region base steps live) st=nO (Call T ow) ow base steps live st:=by
 refine rd (fun r h=> ?_) (fun r h=> ?_)
 ·obtain ⟨n,hn⟩:=gi h
  cases n with
  |zero=>simp [bA] at hn
  |succ n=>
   simp only [bA,nO] at hn ⊢
   split at hn
   ·rename_i st' h';rw [p6 (LG (n+1)) h'];exact hn
   ·cases hn
 ·unfold nO at h
  split at h
  ·rename_i st' h'
   obtain ⟨k,hk⟩:=L8 h'
   refine dh (n:=k+1) ?_
   simp only [bA,nO]
   rw [p6 (bS T ow (Nat.le_succ k)) hk]
   exact h
  ·cases h
theorem Xn (base:Nat) (steps:List aY) (deps:List (List Nat)) (live:List Nat) (st:St):
 fM T ow (.drawn base steps deps live) st=uS (Call T ow) ow base steps deps live st:=by
 refine rd (fun r h=> ?_) (fun r h=> ?_)
 ·obtain ⟨n,hn⟩:=gi h
  cases n with
  |zero=>simp [bA] at hn
  |succ n=>
   simp only [bA,uS] at hn ⊢
   split at hn
   ·rename_i st' rs h';rw [oI (LG (n+1)) h'];exact hn
   ·cases hn
 ·unfold uS at h
  split at h
  ·rename_i st' rs h'
   obtain ⟨k,hk⟩:=Ni h'
   refine dh (n:=k+1) ?_
   simp only [bA,uS]
   rw [oI (bS T ow (Nat.le_succ k)) hk]
   exact h
  ·cases h
theorem KR (a b:ae) (st:St):fM T ow (.seq a b) st=(match fM T ow a st with
 |some (.normal,st')=>fM T ow b st'
 |r=>r):=by
 refine rd (fun r h=> ?_) (fun r h=> ?_)
 ·obtain ⟨n,hn⟩:=gi h
  cases n with
  |zero=>simp [bA] at hn
  |succ n=>
   simp only [bA] at hn
   cases ha:bA (cJ T ow (n+1)) ow n a st with
   |none=>rw [ha] at hn;cases hn
   |some p=>
    obtain ⟨e,st'⟩:=p
    rw [dh (bT (fun _ _ _ _ h=>h) n (n+1) (by omega) ha)]
    rw [ha] at hn
    cases e with
    |normal=>exact dh (bT (fun _ _ _ _ h=>h) n (n+1) (by omega) hn)
    |exit id=>exact hn
    |ret=>exact hn
 ·cases ha:fM T ow a st with
  |none=>rw [ha] at h;cases h
  |some p=>
   obtain ⟨e,st'⟩:=p
   rw [ha] at h
   obtain ⟨n,hn⟩:=gi ha
   cases e with
   |normal=>
    obtain ⟨m,hm⟩:=gi (show fM T ow b st'=some r from h)
    refine dh (n:=max n m+1) ?_
    simp only [bA]
    rw [bT (bS T ow (by omega)) n (max n m) (by omega) hn]
    exact bT (bS T ow (by omega)) m (max n m) (by omega) hm
   |exit id=>
    refine dh (n:=n+1) ?_
    simp only [bA]
    rw [bT (bS T ow (by omega)) n n (by omega) hn]
    exact h
   |ret=>
    refine dh (n:=n+1) ?_
    simp only [bA]
    rw [bT (bS T ow (by omega)) n n (by omega) hn]
    exact h
theorem a1j (c:Opd) (a b:ae) (st:St):fM T ow (.cond c a b) st=(match st.ev c with
 | .lit (.bool true)=>fM T ow a st
 | .lit (.bool false)=>fM T ow b st
 |_=>none):=by
 refine rd (fun r h=> ?_) (fun r h=> ?_)
 ·obtain ⟨n,hn⟩:=gi h
  cases n with
  |zero=>simp [bA] at hn
  |succ n=>
   simp only [bA] at hn
   split at hn
   ·rename_i hc;simp only [hc];exact dh (bT (fun _ _ _ _ h=>h) n (n+1) (by omega) hn)
   ·rename_i hc;simp only [hc];exact dh (bT (fun _ _ _ _ h=>h) n (n+1) (by omega) hn)
   ·cases hn
 ·split at h
  ·rename_i hc
   obtain ⟨n,hn⟩:=gi h
   refine dh (n:=n+1) ?_
   simp only [bA,hc]
   exact bT (bS T ow (by omega)) n n (by omega) hn
  ·rename_i hc
   obtain ⟨n,hn⟩:=gi h
   refine dh (n:=n+1) ?_
   simp only [bA,hc]
   exact bT (bS T ow (by omega)) n n (by omega) hn
  ·cases h
theorem Dp (id:Nat) (c:ae) (st:St):fM T ow (.block id c) st=(match fM T ow c st with
 |some (.exit id',st')=>if id'=id then some (.normal,st') else some (.exit id',st')
 |r=>r):=by
 refine rd (fun r h=> ?_) (fun r h=> ?_)
 ·obtain ⟨n,hn⟩:=gi h
  cases n with
  |zero=>simp [bA] at hn
  |succ n=>
   simp only [bA] at hn
   cases ha:bA (cJ T ow (n+1)) ow n c st with
   |none=>rw [ha] at hn;cases hn
   |some p=>
    rw [dh (bT (fun _ _ _ _ h=>h) n (n+1) (by omega) ha)]
    rw [ha] at hn
    exact hn
 ·cases ha:fM T ow c st with
  |none=>rw [ha] at h;cases h
  |some p=>
   obtain ⟨n,hn⟩:=gi ha
   refine dh (n:=n+1) ?_
   simp only [bA]
   rw [bT (bS T ow (by omega)) n n (by omega) hn]
   rw [ha] at h
   exact h
theorem Qz (c:ae) (st:St):fM T ow (.loop c) st=(match fM T ow c st with
 |some (.normal,st')=>fM T ow (.loop c) st'
 |r=>r):=by
 refine rd (fun r h=> ?_) (fun r h=> ?_)
 ·obtain ⟨n,hn⟩:=gi h
  cases n with
  |zero=>simp [bA] at hn
  |succ n=>
   simp only [bA] at hn
   cases ha:bA (cJ T ow (n+1)) ow n c st with
   |none=>rw [ha] at hn;cases hn
   |some p=>
    obtain ⟨e,st'⟩:=p
    rw [dh (bT (fun _ _ _ _ h=>h) n (n+1) (by omega) ha)]
    rw [ha] at hn
    cases e with
    |normal=>exact dh (bT (fun _ _ _ _ h=>h) n (n+1) (by omega) hn)
    |exit id=>exact hn
    |ret=>exact hn
 ·cases ha:fM T ow c st with
  |none=>rw [ha] at h;cases h
  |some p=>
   obtain ⟨e,st'⟩:=p
   rw [ha] at h
   obtain ⟨n,hn⟩:=gi ha
   cases e with
   |normal=>
    obtain ⟨m,hm⟩:=gi (show fM T ow (.loop c) st'=some r from h)
    refine dh (n:=max n m+1) ?_
    simp only [bA]
    rw [bT (bS T ow (by omega)) n (max n m) (by omega) hn]
    exact bT (bS T ow (by omega)) m (max n m) (by omega) hm
   |exit id=>
    refine dh (n:=n+1) ?_
    simp only [bA]
    rw [bT (bS T ow (by omega)) n n (by omega) hn]
    exact h
   |ret=>
    refine dh (n:=n+1) ?_
    simp only [bA]
    rw [bT (bS T ow (by omega)) n n (by omega) hn]
    exact h
theorem hI (g:fO) (c:ae) (st:St):fM T ow (.ghost g c) st=(match bB st g with
 |some st'=>fM T ow c st'
 |none=>none):=by
 refine rd (fun r h=> ?_) (fun r h=> ?_)
 ·obtain ⟨n,hn⟩:=gi h
  cases n with
  |zero=>simp [bA] at hn
  |succ n=>
   simp only [bA] at hn
   split at hn
   ·rename_i st' hg;simp only [hg];exact dh (bT (fun _ _ _ _ h=>h) n (n+1) (by omega) hn)
   ·cases hn
 ·split at h
  ·rename_i st' hg
   obtain ⟨n,hn⟩:=gi h
   refine dh (n:=n+1) ?_
   simp only [bA,hg]
   exact bT (bS T ow (by omega)) n n (by omega) hn
  ·cases h
theorem a0s (f:FuncId) (a:List V) (b:List Blk):Call T ow f a b=(match T f with
 |none=>none
 |some (.code af)=>UP af (jN af b.length (fM T ow af.body (start a b)))
 |some (.ext g)=>g a b):=by
 refine rd (fun r h=> ?_) (fun r h=> ?_)
 ·obtain ⟨n,hn⟩:=JV h
  cases n with
  |zero=>simp [cJ] at hn
  |succ n=>
   simp only [cJ] at hn
   split at hn
   ·cases hn
   rotate_left
   ·rename_i g hg;simp only [hg];exact hn
   ·rename_i af haf
    cases he:bA (cJ T ow n) ow n af.body (start a b) with
    |none=>rw [he] at hn;simp [jN,UP] at hn
    |some p=>simp only [haf];rw [dh he];rw [he] at hn;exact hn
 ·split at h
  ·cases h
  rotate_left
  ·rename_i g hg
   refine R7 (n:=1) ?_
   simp only [cJ,hg]
   exact h
  ·rename_i af haf
   cases he:fM T ow af.body (start a b) with
   |none=>rw [he] at h;simp [jN,UP] at h
   |some p=>
    obtain ⟨n,hn⟩:=gi he
    refine R7 (n:=n+1) ?_
    simp only [cJ,haf]
    rw [hn]
    rw [he] at h
    exact h
end
end Go.AI
