/- The limit of the abstract machine's runs: more rounds tell the same; the equations of the limit. -/
import Derived.Test.YtdnkignjanfikaaGreatAiDefs
namespace Go.AI
section
theorem NS {C C':cg} (hC: ∀f a b r,C f a b=some r->C' f a b=some r) {ow:en} {h:aZ} {new:Nat} {f:FuncId} {args:List V} {r:V×Upd}
 (hr:oC C ow h new f args=some r):oC C' ow h new f args=some r:=by
 unfold oC at hr ⊢
 cases hp:ft ow h f args with
 |none=>rw [hp] at hr;cases hr
 |some p=>
  obtain ⟨args',blks,ids,bor⟩:=p
  rw [hp] at hr
  dsimp only at hr ⊢
  cases hc:C f (vv (ow f) args') (vd (ow f) blks) with
  |none=>rw [hc] at hr;cases hr
  |some q=>rw [hC _ _ _ _ hc];rw [hc] at hr;exact hr
theorem TT {C C':cg} (hC: ∀f a b r,C f a b=some r->C' f a b=some r) {ow:en} {o:AOp} {ev:Opd->V} {h:aZ} {new:Nat} {r:V×Upd}
 (hr:aN C ow o ev h new=some r):aN C' ow o ev h new=some r:=by
 cases o
 case call f args=>simp only [aN] at hr ⊢;exact NS hC hr
 case dyn f args=>
  simp only [aN] at hr ⊢
  split at hr
  ·exact NS hC hr
  ·cases hr
 all_goals exact hr
theorem Xe {C:Nat->cg} {D:cg} (hD: ∀f a b r,D f a b=some r-> ∃n,C n f a b=some r) (n0:Nat) {ow:en} {o:AOp} {ev:Opd->V} {h:aZ} {new:Nat} {r:V×Upd}
 (hr:aN D ow o ev h new=some r): ∃n,aN (C n) ow o ev h new=some r:=by
 have key: ∀f args,oC D ow h new f args=some r-> ∃n,oC (C n) ow h new f args=some r:=by
  intro f args hr
  unfold oC at hr
  cases hp:ft ow h f args with
  |none=>rw [hp] at hr;cases hr
  |some p=>
   obtain ⟨args',blks,ids,bor⟩:=p
   rw [hp] at hr
   dsimp only at hr
   cases hc:D f (vv (ow f) args') (vd (ow f) blks) with
   |none=>rw [hc] at hr;cases hr
   |some q=>
    rw [hc] at hr
    obtain ⟨n,hn⟩:=hD _ _ _ _ hc
    refine ⟨n, ?_⟩
    unfold oC
    rw [hp]
    dsimp only
    rw [hn]
    exact hr
 cases o
 case call f args=>simp only [aN] at hr ⊢;exact key _ _ hr
 case dyn f args=>
  simp only [aN] at hr ⊢
  split at hr
  ·exact key _ _ hr
  ·cases hr
 all_goals exact ⟨n0,hr⟩
theorem Qy {C C':cg} (hC: ∀f a b r,C f a b=some r->C' f a b=some r) {ow:en} {st:St} {s:cm} {n:Nat} {r:St}
 (hr:CF C ow st s n=some r):CF C' ow st s n=some r:=by
 unfold CF at hr ⊢
 split at hr
 ·cases hr
 ·exact hr
 ·split at hr
  ·rename_i v u ho;rw [TT hC ho];exact hr
  ·cases hr
theorem vF {C C':cg} (hC: ∀f a b r,C f a b=some r->C' f a b=some r) {ow:en}: ∀{l:List cm} {n:Nat} {st:St} {r:St},
 jP C ow l n st=some r->jP C' ow l n st=some r
 |[],_,_,_,hr=>hr
 |s::l,n,st,r,hr=>by
  simp only [jP] at hr ⊢
  split at hr
  ·rename_i st' h;rw [Qy hC h];exact vF hC hr
  ·cases hr
theorem RL {C C':cg} (hC: ∀f a b r,C f a b=some r->C' f a b=some r) {ow:en} {st:St} {s:cm} {i n:Nat} {r:St×Rec}
 (hr:yO C ow st s i n=some r):yO C' ow st s i n=some r:=by
 unfold yO at hr ⊢
 split at hr
 ·cases hr
 ·exact hr
 ·split at hr
  ·rename_i v u ho;rw [TT hC ho];exact hr
  ·cases hr
theorem vR {C C':cg} (hC: ∀f a b r,C f a b=some r->C' f a b=some r) {ow:en} {base:Nat}: ∀{l:List cm} {n:Nat} {st:St} {r:St×List Rec},
 jC C ow base l n st=some r->jC C' ow base l n st=some r
 |[],_,_,_,hr=>hr
 |s::l,n,st,r,hr=>by
  simp only [jC] at hr ⊢
  split at hr
  ·rename_i st' rc h
   rw [RL hC h]
   dsimp only
   split at hr
   ·rename_i st2 rs h2;rw [vR hC h2];exact hr
   ·cases hr
  ·cases hr
theorem dJ {C C':cg} (hC: ∀f a b r,C f a b=some r->C' f a b=some r) {ow:en}: ∀(n m:Nat),n<=m-> ∀{c:aP} {st:St} {r:bT×St},
 di C ow n c st=some r->di C' ow m c st=some r
 |0,_,_,_,_,_,hr=>by simp [di] at hr
 |n+1,0,h,_,_,_,_=>absurd h (by omega)
 |n+1,m+1,h,c,st,r,hr=>by
  have ih:=fun {c st r}=>dJ hC (ow:=ow) n m (by omega) (c:=c) (st:=st) (r:=r)
  cases c with
  |skip=>exact hr
  |region base steps live=>
   simp only [di,sh] at hr ⊢
   split at hr
   ·rename_i st' h;rw [vF hC h];exact hr
   ·cases hr
  |drawn base steps deps live=>
   simp only [di,Bi] at hr ⊢
   split at hr
   ·rename_i st' rs h;rw [vR hC h];exact hr
   ·cases hr
  |seq a b=>
   simp only [di] at hr ⊢
   cases ha:di C ow n a st with
   |none=>rw [ha] at hr;cases hr
   |some p=>
    obtain ⟨e,st'⟩:=p
    rw [ih ha]
    rw [ha] at hr
    cases e with
    |normal=>exact ih hr
    |exit id=>exact hr
    |ret=>exact hr
  |cond c a b=>
   simp only [di] at hr ⊢
   split at hr
   ·exact ih hr
   ·exact ih hr
   ·cases hr
  |block id c=>
   simp only [di] at hr ⊢
   cases ha:di C ow n c st with
   |none=>rw [ha] at hr;cases hr
   |some p=>rw [ih ha];rw [ha] at hr;exact hr
  |loop c=>
   simp only [di] at hr ⊢
   cases ha:di C ow n c st with
   |none=>rw [ha] at hr;cases hr
   |some p=>
    obtain ⟨e,st'⟩:=p
    rw [ih ha]
    rw [ha] at hr
    cases e with
    |normal=>exact ih hr
    |exit id=>exact hr
    |ret=>exact hr
  |exit id=>exact hr
  |ret=>exact hr
  |ghost g c=>
   simp only [di] at hr ⊢
   split at hr
   ·exact ih hr
   ·cases hr
theorem Sn (T:Tab) (ow:en): ∀(n:Nat) f a b r,fu T ow n f a b=some r->fu T ow (n+1) f a b=some r
 |0,_,_,_,_,h=>by simp [fu] at h
 |n+1,f,a,b,r,h=>by
  simp only [fu] at h ⊢
  split at h
  ·cases h
  rotate_left
  ·exact h
  ·rename_i af haf
   cases he:di (fu T ow n) ow n af.body (start a b) with
   |none=>rw [he] at h;simp [kP,a3Q] at h
   |some p=>
    have:=dJ (Sn T ow n) (ow:=ow) n (n+1) (by omega) he
    simp only [fu] at this
    rw [this]
    rw [he] at h
    exact h
theorem dH (T:Tab) (ow:en) {n m:Nat} (h:n<=m): ∀f a b r,fu T ow n f a b=some r->fu T ow m f a b=some r:=by
 induction h with
 |refl=>exact fun _ _ _ _ h=>h
 |step _ ih=>exact fun f a b r h=>Sn T ow _ f a b r (ih f a b r h)
open Classical in
noncomputable def lim {α:Type} (g:Nat->Option α):Option α:=if h: ∃n r,g n=some r then g h.choose else none
theorem a5A {α:Type} {g:Nat->Option α} (hm: ∀n m r,n<=m->g n=some r->g m=some r) {n:Nat} {r:α} (h:g n=some r):lim g=some r:=by
 have hx: ∃n r,g n=some r:=⟨n,r,h⟩
 unfold lim
 rw [dif_pos hx]
 obtain ⟨r',hr'⟩:=hx.choose_spec
 have h1:=hm _ (max n hx.choose) _ (Nat.le_max_left _ _) h
 have h2:=hm _ (max n hx.choose) _ (Nat.le_max_right _ _) hr'
 rw [h1] at h2
 rw [hr', <-h2]
theorem a7K {α:Type} {g:Nat->Option α} {r:α} (h:lim g=some r): ∃n,g n=some r:=by
 unfold lim at h
 split at h
 ·exact ⟨_,h⟩
 ·cases h
noncomputable def Call (T:Tab) (ow:en):cg:=fun f a b=>lim fun n=>fu T ow n f a b
noncomputable def ir (T:Tab) (ow:en) (c:aP) (st:St):Option (bT×St):=lim fun n=>di (fu T ow n) ow n c st
section
variable {T:Tab} {ow:en}
theorem b9s {n m:Nat} (h:n<=m) {c:aP} {st:St} {r:bT×St} (hr:di (fu T ow n) ow n c st=some r):di (fu T ow m) ow m c st=some r:=
 dJ (dH T ow h) n m h hr
theorem ge {n:Nat} {c:aP} {st:St} {r:bT×St} (h:di (fu T ow n) ow n c st=some r):ir T ow c st=some r:=
 a5A (g:=fun n=>di (fu T ow n) ow n c st) (fun _ _ _ hnm h=>b9s hnm h) h
theorem kx {c:aP} {st:St} {r:bT×St} (h:ir T ow c st=some r): ∃n,di (fu T ow n) ow n c st=some r:=a7K h
theorem YG {n:Nat} {f:FuncId} {a:List V} {b:List Blk} {r:V×List Blk} (h:fu T ow n f a b=some r):Call T ow f a b=some r:=
 a5A (g:=fun n=>fu T ow n f a b) (fun _ _ _ hnm h=>dH T ow hnm _ _ _ _ h) h
theorem Q5 {f:FuncId} {a:List V} {b:List Blk} {r:V×List Blk} (h:Call T ow f a b=some r): ∃n,fu T ow n f a b=some r:=a7K h
theorem xC {α:Type} {a b:Option α} (h1: ∀r,a=some r->b=some r) (h2: ∀r,b=some r->a=some r):a=b:=by
 cases a with
 |none=>cases b with
  |none=>rfl
  |some r=>exact absurd (h2 r rfl) (by simp)
 |some r=>exact (h1 r rfl).symm
theorem Tb: ∀{l:List cm} {n:Nat} {st:St} {r:St},jP (Call T ow) ow l n st=some r-> ∃k,jP (fu T ow k) ow l n st=some r
 |[],_,_,_,h=>⟨0,h⟩
 |s::l,n,st,r,h=>by
  simp only [jP] at h
  cases h1:CF (Call T ow) ow st s n with
  |none=>rw [h1] at h;cases h
  |some st'=>
   rw [h1] at h
   obtain ⟨k2,hk2⟩:=Tb h
   have: ∃k,CF (fu T ow k) ow st s n=some st':=by
    unfold CF at h1 ⊢
    split at h1
    ·cases h1
    ·exact ⟨0,h1⟩
    ·split at h1
     ·rename_i v u ho
      obtain ⟨k,hk⟩:=Xe (C:=fu T ow) (D:=Call T ow) (fun _ _ _ _ h=>Q5 h) 0 ho
      exact ⟨k,by rw [hk];exact h1⟩
     ·cases h1
   obtain ⟨k1,hk1⟩:=this
   refine ⟨max k1 k2, ?_⟩
   simp only [jP]
   rw [Qy (dH T ow (Nat.le_max_left k1 k2)) hk1]
   exact vF (dH T ow (Nat.le_max_right k1 k2)) hk2
theorem Qd {base:Nat}: ∀{l:List cm} {n:Nat} {st:St} {r:St×List Rec},jC (Call T ow) ow base l n st=some r-> ∃k,jC (fu T ow k) ow base l n st=some r
 |[],_,_,_,h=>⟨0,h⟩
 |s::l,n,st,r,h=>by
  simp only [jC] at h
  cases h1:yO (Call T ow) ow st s n (base+n) with
  |none=>rw [h1] at h;cases h
  |some p=>
   obtain ⟨st',rc⟩:=p
   rw [h1] at h
   dsimp only at h
   cases h2:jC (Call T ow) ow base l (n+1) st' with
   |none=>rw [h2] at h;cases h
   |some q=>
    obtain ⟨st2,rs⟩:=q
    rw [h2] at h
    obtain ⟨k2,hk2⟩:=Qd h2
    have: ∃k,yO (fu T ow k) ow st s n (base+n)=some (st',rc):=by
     unfold yO at h1 ⊢
     split at h1
     ·cases h1
     ·exact ⟨0,h1⟩
     ·split at h1
      ·rename_i v u ho
       obtain ⟨k,hk⟩:=Xe (C:=fu T ow) (D:=Call T ow) (fun _ _ _ _ h=>Q5 h) 0 ho
       exact ⟨k,by rw [hk];exact h1⟩
      ·cases h1
    obtain ⟨k1,hk1⟩:=this
    refine ⟨max k1 k2, ?_⟩
    simp only [jC]
    rw [RL (dH T ow (Nat.le_max_left k1 k2)) hk1]
    dsimp only
    rw [vR (dH T ow (Nat.le_max_right k1 k2)) hk2]
    exact h
theorem RU (k:Nat): ∀f a b r,fu T ow k f a b=some r->Call T ow f a b=some r:=fun _ _ _ _ h=>YG h
theorem b0m (st:St):ir T ow .skip st=some (.normal,st):=ge (n:=1) rfl
theorem a9C (id:Nat) (st:St):ir T ow (.exit id) st=some (.exit id,st):=ge (n:=1) rfl
theorem b2s (st:St):ir T ow .ret st=some (.ret,st):=ge (n:=1) rfl
theorem Oo (base:Nat) (steps:List cm) (live:List Nat) (st:St):ir T ow (.region base steps live) st=sh (Call T ow) ow base steps live st:=by
 refine xC (fun r h=> ?_) (fun r h=> ?_)
 ·obtain ⟨n,hn⟩:=kx h
  cases n with
  |zero=>simp [di] at hn
  |succ n=>
   simp only [di,sh] at hn ⊢
   split at hn
   ·rename_i st' h';rw [vF (RU (n+1)) h'];exact hn
   ·cases hn
 ·unfold sh at h
  split at h
  ·rename_i st' h'
   obtain ⟨k,hk⟩:=Tb h'
   refine ge (n:=k+1) ?_
   simp only [di,sh]
   rw [vF (dH T ow (mS k)) hk]
   exact h
  ·cases h
theorem a6j (base:Nat) (steps:List cm) (deps:List (List Nat)) (live:List Nat) (st:St):
 ir T ow (.drawn base steps deps live) st=Bi (Call T ow) ow base steps deps live st:=by
 refine xC (fun r h=> ?_) (fun r h=> ?_)
 ·obtain ⟨n,hn⟩:=kx h
  cases n with
  |zero=>simp [di] at hn
  |succ n=>
   simp only [di,Bi] at hn ⊢
   split at hn
   ·rename_i st' rs h';rw [vR (RU (n+1)) h'];exact hn
   ·cases hn
 ·unfold Bi at h
  split at h
  ·rename_i st' rs h'
   obtain ⟨k,hk⟩:=Qd h'
   refine ge (n:=k+1) ?_
   simp only [di,Bi]
   rw [vR (dH T ow (mS k)) hk]
   exact h
  ·cases h
theorem L4 (a b:aP) (st:St):ir T ow (.seq a b) st=(match ir T ow a st with
 |some (.normal,st')=>ir T ow b st'
 |r=>r):=by
 refine xC (fun r h=> ?_) (fun r h=> ?_)
 ·obtain ⟨n,hn⟩:=kx h
  cases n with
  |zero=>simp [di] at hn
  |succ n=>
   simp only [di] at hn
   cases ha:di (fu T ow (n+1)) ow n a st with
   |none=>rw [ha] at hn;cases hn
   |some p=>
    obtain ⟨e,st'⟩:=p
    rw [ge (dJ (fun _ _ _ _ h=>h) n (n+1) (by omega) ha)]
    rw [ha] at hn
    cases e with
    |normal=>exact ge (dJ (fun _ _ _ _ h=>h) n (n+1) (by omega) hn)
    |exit id=>exact hn
    |ret=>exact hn
 ·cases ha:ir T ow a st with
  |none=>rw [ha] at h;cases h
  |some p=>
   obtain ⟨e,st'⟩:=p
   rw [ha] at h
   obtain ⟨n,hn⟩:=kx ha
   cases e with
   |normal=>
    obtain ⟨m,hm⟩:=kx (show ir T ow b st'=some r from h)
    refine ge (n:=max n m+1) ?_
    simp only [di]
    rw [dJ (dH T ow (by omega)) n (max n m) (by omega) hn]
    exact dJ (dH T ow (by omega)) m (max n m) (by omega) hm
   |exit id=>
    refine ge (n:=n+1) ?_
    simp only [di]
    rw [dJ (dH T ow (by omega)) n n (by omega) hn]
    exact h
   |ret=>
    refine ge (n:=n+1) ?_
    simp only [di]
    rw [dJ (dH T ow (by omega)) n n (by omega) hn]
    exact h
theorem b1r (c:Opd) (a b:aP) (st:St):ir T ow (.cond c a b) st=(match st.ev c with
 | .lit (.bool true)=>ir T ow a st
 | .lit (.bool false)=>ir T ow b st
 |_=>none):=by
 refine xC (fun r h=> ?_) (fun r h=> ?_)
 ·obtain ⟨n,hn⟩:=kx h
  cases n with
  |zero=>simp [di] at hn
  |succ n=>
   simp only [di] at hn
   split at hn
   ·rename_i hc;simp only [hc];exact ge (dJ (fun _ _ _ _ h=>h) n (n+1) (by omega) hn)
   ·rename_i hc;simp only [hc];exact ge (dJ (fun _ _ _ _ h=>h) n (n+1) (by omega) hn)
   ·cases hn
 ·split at h
  ·rename_i hc
   obtain ⟨n,hn⟩:=kx h
   refine ge (n:=n+1) ?_
   simp only [di,hc]
   exact dJ (dH T ow (by omega)) n n (by omega) hn
  ·rename_i hc
   obtain ⟨n,hn⟩:=kx h
   refine ge (n:=n+1) ?_
   simp only [di,hc]
   exact dJ (dH T ow (by omega)) n n (by omega) hn
  ·cases h
theorem JQ (id:Nat) (c:aP) (st:St):ir T ow (.block id c) st=(match ir T ow c st with
 |some (.exit id',st')=>if id'=id then some (.normal,st') else some (.exit id',st')
 |r=>r):=by
 refine xC (fun r h=> ?_) (fun r h=> ?_)
 ·obtain ⟨n,hn⟩:=kx h
  cases n with
  |zero=>simp [di] at hn
  |succ n=>
   simp only [di] at hn
   cases ha:di (fu T ow (n+1)) ow n c st with
   |none=>rw [ha] at hn;cases hn
   |some p=>
    rw [ge (dJ (fun _ _ _ _ h=>h) n (n+1) (by omega) ha)]
    rw [ha] at hn
    exact hn
 ·cases ha:ir T ow c st with
  |none=>rw [ha] at h;cases h
  |some p=>
   obtain ⟨n,hn⟩:=kx ha
   refine ge (n:=n+1) ?_
   simp only [di]
   rw [dJ (dH T ow (by omega)) n n (by omega) hn]
   rw [ha] at h
   exact h
theorem b1i (c:aP) (st:St):ir T ow (.loop c) st=(match ir T ow c st with
 |some (.normal,st')=>ir T ow (.loop c) st'
 |r=>r):=by
 refine xC (fun r h=> ?_) (fun r h=> ?_)
 ·obtain ⟨n,hn⟩:=kx h
  cases n with
  |zero=>simp [di] at hn
  |succ n=>
   simp only [di] at hn
   cases ha:di (fu T ow (n+1)) ow n c st with
   |none=>rw [ha] at hn;cases hn
   |some p=>
    obtain ⟨e,st'⟩:=p
    rw [ge (dJ (fun _ _ _ _ h=>h) n (n+1) (by omega) ha)]
    rw [ha] at hn
    cases e with
    |normal=>exact ge (dJ (fun _ _ _ _ h=>h) n (n+1) (by omega) hn)
    |exit id=>exact hn
    |ret=>exact hn
 ·cases ha:ir T ow c st with
  |none=>rw [ha] at h;cases h
  |some p=>
   obtain ⟨e,st'⟩:=p
   rw [ha] at h
   obtain ⟨n,hn⟩:=kx ha
   cases e with
   |normal=>
    obtain ⟨m,hm⟩:=kx (show ir T ow (.loop c) st'=some r from h)
    refine ge (n:=max n m+1) ?_
    simp only [di]
    rw [dJ (dH T ow (by omega)) n (max n m) (by omega) hn]
    exact dJ (dH T ow (by omega)) m (max n m) (by omega) hm
   |exit id=>
    refine ge (n:=n+1) ?_
    simp only [di]
    rw [dJ (dH T ow (by omega)) n n (by omega) hn]
    exact h
   |ret=>
    refine ge (n:=n+1) ?_
    simp only [di]
    rw [dJ (dH T ow (by omega)) n n (by omega) hn]
    exact h
theorem mO (g:eZ) (c:aP) (st:St):ir T ow (.ghost g c) st=(match dg st g with
 |some st'=>ir T ow c st'
 |none=>none):=by
 refine xC (fun r h=> ?_) (fun r h=> ?_)
 ·obtain ⟨n,hn⟩:=kx h
  cases n with
  |zero=>simp [di] at hn
  |succ n=>
   simp only [di] at hn
   split at hn
   ·rename_i st' hg;simp only [hg];exact ge (dJ (fun _ _ _ _ h=>h) n (n+1) (by omega) hn)
   ·cases hn
 ·split at h
  ·rename_i st' hg
   obtain ⟨n,hn⟩:=kx h
   refine ge (n:=n+1) ?_
   simp only [di,hg]
   exact dJ (dH T ow (by omega)) n n (by omega) hn
  ·cases h
theorem a7R (f:FuncId) (a:List V) (b:List Blk):Call T ow f a b=(match T f with
 |none=>none
 |some (.code af)=>a3Q af (kP af b.length (ir T ow af.body (start a b)))
 |some (.ext g)=>g a b):=by
 refine xC (fun r h=> ?_) (fun r h=> ?_)
 ·obtain ⟨n,hn⟩:=Q5 h
  cases n with
  |zero=>simp [fu] at hn
  |succ n=>
   simp only [fu] at hn
   split at hn
   ·cases hn
   rotate_left
   ·rename_i g hg;simp only [hg];exact hn
   ·rename_i af haf
    cases he:di (fu T ow n) ow n af.body (start a b) with
    |none=>rw [he] at hn;simp [kP,a3Q] at hn
    |some p=>simp only [haf];rw [ge he];rw [he] at hn;exact hn
 ·split at h
  ·cases h
  rotate_left
  ·rename_i g hg
   refine YG (n:=1) ?_
   simp only [fu,hg]
   exact h
  ·rename_i af haf
   cases he:ir T ow af.body (start a b) with
   |none=>rw [he] at h;simp [kP,a3Q] at h
   |some p=>
    obtain ⟨n,hn⟩:=kx he
    refine YG (n:=n+1) ?_
    simp only [fu,haf]
    rw [hn]
    rw [he] at h
    exact h
end
end
set_option linter.unusedVariables false
set_option linter.unusedSimpArgs false
section
def br {α:Type} (c:Bool) (x y:α):α:=match c with
 |true=>x
 |false=>y
theorem cO {α:Type} (x y:α):br true x y=x:=rfl
theorem bf {α:Type} (x y:α):br false x y=y:=rfl
theorem Kc {α:Type} {c:Bool} {x y r:α} (h:c=true) (hx:x=r):br c x y=r:=by subst h;exact hx
theorem b1y {α:Type} {c:Bool} {x y r:α} (h:c=false) (hy:y=r):br c x y=r:=by subst h;exact hy
theorem brc {α:Type} {c:Bool} {x y r:α} (h:br c x y=r):(c=true/\x=r)\/(c=false/\y=r):=by
 cases c
 ·exact .inr ⟨rfl,h⟩
 ·exact .inl ⟨rfl,h⟩
theorem brg {α:Type} {c:Bool} {x:Option α} {r:α} (h:br c x none=some r):c=true/\x=some r:=by
 cases c
 ·cases h
 ·exact ⟨rfl,h⟩
theorem bd {α β:Type} {x:Option α} {g:α->Option β} {r:β} (h:x.bind g=some r): ∃a,x=some a/\g a=some r:=by
 cases x with
 |none=>cases h
 |some a=>exact ⟨a,rfl,h⟩
inductive Fr where
 |code (c:aP)
 |steps (n:Nat) (ss:List cm) (live:List Nat)
 |dr (base i:Nat) (ss:List cm) (deps:List (List Nat)) (live:List Nat) (rs:List Rec)
 |blk (id:Nat)
section
variable {R:Type}
noncomputable def u6 (T:Tab) (ow:en) (k:bT->St->Option R):List Fr->Option Nat->St->Option R
 |[],none,st=>k .normal st
 |[],some id,st=>k (.exit id) st
 | .blk id'::K,some id,st=>if id'=id then u6 T ow k K none st else u6 T ow k K (some id) st
 |_::K,some id,st=>u6 T ow k K (some id) st
 | .blk _::K,none,st=>u6 T ow k K none st
 | .code c::K,none,st=>match ir T ow c st with
   |some (.normal,st')=>u6 T ow k K none st'
   |some (.exit id,st')=>u6 T ow k K (some id) st'
   |some (.ret,st')=>k .ret st'
   |none=>none
 | .steps n ss live::K,none,st=>match jP (Call T ow) ow ss n st with
   |some st'=>u6 T ow k K none (trim live st')
   |none=>none
 | .dr base i ss deps live rs::K,none,st=>match jC (Call T ow) ow base ss i st with
   |some (st',rs')=>br (qM deps (rs++rs'.filter Rec.loud)) (u6 T ow k K none (trim live st')) none
   |none=>none
noncomputable def Rn (T:Tab) (ow:en) (k:bT->St->Option R) (K:List Fr) (st:St):Option R:=u6 T ow k K none st
noncomputable def Unw (T:Tab) (ow:en) (k:bT->St->Option R) (id:Nat) (K:List Fr) (st:St):Option R:=u6 T ow k K (some id) st
noncomputable def goR (T:Tab) (ow:en) (k:bT->St->Option R) (K:List Fr):Option (bT×St)->Option R
 |some (.normal,st')=>Rn T ow k K st'
 |some (.exit id,st')=>Unw T ow k id K st'
 |some (.ret,st')=>k .ret st'
 |none=>none
variable {T:Tab} {ow:en} {k:bT->St->Option R}
theorem fm (c:aP) (K:List Fr) (st:St):Rn T ow k (.code c::K) st=goR T ow k K (ir T ow c st):=by
 unfold Rn u6 goR
 cases ir T ow c st with
 |none=>rfl
 |some p=>obtain ⟨e,st'⟩:=p;cases e<;>rfl
theorem b7m (st:St):Rn T ow k [] st=k .normal st:=rfl
theorem b9S (id:Nat) (K:List Fr) (st:St):Rn T ow k (.blk id::K) st=Rn T ow k K st:=rfl
theorem b3a (K:List Fr) (st:St):Rn T ow k (.code .skip::K) st=Rn T ow k K st:=by rw [fm,b0m];rfl
theorem b43 (id:Nat) (K:List Fr) (st:St):Rn T ow k (.code (.exit id)::K) st=Unw T ow k id K st:=by rw [fm,a9C];rfl
theorem b9D (K:List Fr) (st:St):Rn T ow k (.code .ret::K) st=k .ret st:=by rw [fm,b2s];rfl
theorem b9U (a b:aP) (K:List Fr) (st:St):Rn T ow k (.code (.seq a b)::K) st=Rn T ow k (.code a:: .code b::K) st:=by
 rw [fm,L4,fm]
 cases ir T ow a st with
 |none=>rfl
 |some p=>
  obtain ⟨e,st'⟩:=p
  cases e with
  |normal=>simp only [goR];rw [fm];rfl
  |exit id=>rfl
  |ret=>rfl
theorem a9H (id:Nat) (c:aP) (K:List Fr) (st:St):Rn T ow k (.code (.block id c)::K) st=Rn T ow k (.code c:: .blk id::K) st:=by
 rw [fm,JQ,fm]
 cases ir T ow c st with
 |none=>rfl
 |some p=>
  obtain ⟨e,st'⟩:=p
  cases e with
  |normal=>rfl
  |exit id'=>
   simp only [goR,Unw,Rn,u6]
   by_cases h:id'=id
   ·subst h;simp
   ·rw [aa h,aa (fun e=>h e.symm)]
  |ret=>rfl
noncomputable def b5B (T:Tab) (ow:en) (k:bT->St->Option R) (a b:aP) (K:List Fr) (st:St):V->Option R
 | .lit (.bool c)=>br c (Rn T ow k (.code a::K) st) (Rn T ow k (.code b::K) st)
 |_=>none
theorem b2n (c:Opd) (a b:aP) (K:List Fr) (st:St):Rn T ow k (.code (.cond c a b)::K) st=b5B T ow k a b K st (st.ev c):=by
 rw [fm,b1r]
 unfold b5B
 split
 ·rename_i h;rw [h];exact (fm _ _ _).symm
 ·rename_i h;rw [h];exact (fm _ _ _).symm
 ·rename_i h1 h2
  split
  ·rename_i c' h;cases c'
   ·exact absurd h h2
   ·exact absurd h h1
  ·rfl
theorem a5M (a b:aP) (K:List Fr) (st:St) (c:Bool):b5B T ow k a b K st (.lit (.bool c))=br c (Rn T ow k (.code a::K) st) (Rn T ow k (.code b::K) st):=rfl
noncomputable def ghR (T:Tab) (ow:en) (k:bT->St->Option R) (c:aP) (K:List Fr):Option St->Option R
 |some st'=>Rn T ow k (.code c::K) st'
 |none=>none
theorem b0R (g:eZ) (c:aP) (K:List Fr) (st:St):Rn T ow k (.code (.ghost g c)::K) st=ghR T ow k c K (dg st g):=by
 rw [fm,mO]
 cases dg st g with
 |none=>rfl
 |some st'=>simp only [ghR];rw [fm]
theorem b68 (c:aP) (K:List Fr) (st:St):ghR T ow k c K (some st)=Rn T ow k (.code c::K) st:=rfl
theorem b3T (id:Nat) (K:List Fr) (st:St):goR T ow k K (some (.exit id,st))=Unw T ow k id K st:=rfl
theorem b6Y (K:List Fr) (st:St):goR T ow k K (some (.ret,st))=k .ret st:=rfl
theorem b96 (id:Nat) (st:St):Unw T ow k id [] st=k (.exit id) st:=rfl
theorem b4B (id:Nat) (c:aP) (K:List Fr) (st:St):Unw T ow k id (.code c::K) st=Unw T ow k id K st:=rfl
theorem b7j (id id':Nat) (K:List Fr) (st:St):Unw T ow k id (.blk id'::K) st=if id'=id then Rn T ow k K st else Unw T ow k id K st:=rfl
theorem a64 (n:Nat) (ss:List cm) (live:List Nat) (K:List Fr) (st:St):Rn T ow k (.code (.region n ss live)::K) st=Rn T ow k (.steps n ss live::K) st:=by
 rw [fm,Oo]
 unfold sh
 simp only [Rn,u6]
 cases jP (Call T ow) ow ss n st<;>rfl
theorem b09 (n:Nat) (ss:List cm) (deps:List (List Nat)) (live:List Nat) (K:List Fr) (st:St):Rn T ow k (.code (.drawn n ss deps live)::K) st=Rn T ow k (.dr n 0 ss deps live []::K) st:=by
 rw [fm,a6j]
 unfold Bi
 simp only [Rn,u6]
 cases jC (Call T ow) ow n ss 0 st with
 |none=>rfl
 |some p=>
  obtain ⟨st',rs⟩:=p
  simp only [bj]
  cases qM deps (rs.filter Rec.loud)<;>rfl
theorem UV (n:Nat) (live:List Nat) (K:List Fr) (st:St):Rn T ow k (.steps n [] live::K) st=Rn T ow k K (trim live st):=rfl
noncomputable def aft (T:Tab) (ow:en) (k:bT->St->Option R) (d:Option Nat) (n:Nat) (ss:List cm) (live:List Nat) (K:List Fr) (st:St):Option (V×Upd)->Option R
 |some (v,u)=>Rn T ow k (.steps (n+1) ss live::K) ((st.upd u).put d v)
 |none=>none
variable {d:Option Nat} {n:Nat} {ss:List cm} {live:List Nat} {K:List Fr} {st:St}
theorem a9Y (op:AOp):Rn T ow k (.steps n (⟨d,op,none⟩::ss) live::K) st=aft T ow k d n ss live K st (aN (Call T ow) ow op st.ev st.heap n):=by
 unfold aft
 simp only [Rn,u6,jP,CF,St.want]
 cases aN (Call T ow) ow op st.ev st.heap n with
 |none=>rfl
 |some p=>obtain ⟨v,u⟩:=p;rfl
theorem b47 (v:V) (u:Upd):aft T ow k d n ss live K st (some (v,u))=Rn T ow k (.steps (n+1) ss live::K) ((st.upd u).put d v):=rfl
theorem b5p:aft T ow k d n ss live K st none=none:=rfl
theorem c2t (c:Bool) (x y:Option (V×Upd)):aft T ow k d n ss live K st (br c x y)=br c (aft T ow k d n ss live K st x) (aft T ow k d n ss live K st y):=by cases c<;>rfl
theorem b5K {α:Type} (x:Option α) (f:α->Option (V×Upd)):aft T ow k d n ss live K st (x.bind f)=x.bind (fun a=>aft T ow k d n ss live K st (f a)):=by cases x<;>rfl
noncomputable def gd (T:Tab) (ow:en) (k:bT->St->Option R) (t:Nat) (b:Bool) (d:Option Nat) (op:AOp) (n:Nat) (ss:List cm) (live:List Nat) (K:List Fr) (st:St):V->Option R
 | .lit (.bool c)=>br (c==b) (Rn T ow k (.steps n (⟨d,op,none⟩::ss) live::K) { st with e:=jf t (.lit (.bool c)) st.e })
  (Rn T ow k (.steps (n+1) ss live::K) ({ st with e:=jf t (.lit (.bool c)) st.e }.put d (.lit (.tuple #[]))))
 | .lit (.tuple _)=>Rn T ow k (.steps (n+1) ss live::K) (st.put d (.lit (.tuple #[])))
 |_=>none
theorem XG {α:Type}: ∀{l:List (Nat×α)} {t:Nat} {v:α},dO l t=some v->jf t v l=l
 |[],_,_,h=>by simp [dO] at h
 | (j,u)::r,t,v,h=>by
   simp only [dO] at h
   simp only [jf]
   split at h
   ·rename_i e;cases h;subst e;simp
   ·rename_i e;rw [aa e,XG h]
theorem a3W {v:V} {t:Nat} (h:st.get t=v) (hv:v≠ .undef):({ st with e:=jf t v st.e }:St)=st:=by
 unfold St.get at h
 cases ha:dO st.e t with
 |none=>rw [ha] at h;exact absurd h.symm hv
 |some u=>
  rw [ha] at h;cases h
  show ({ st with e:=jf t u st.e }:St)=st
  rw [XG ha]
theorem b1I (t:Nat) (b:Bool) (op:AOp):Rn T ow k (.steps n (⟨d,op,some (t,b)⟩::ss) live::K) st=gd T ow k t b d op n ss live K st (st.get t):=by
 cases hg:st.get t with
 |lit v=>
  cases v with
  |bool c=>
   simp only [gd]
   rw [a3W hg (by simp)]
   simp only [Rn,u6,jP,CF,St.want,hg]
   cases hcb:(c==b)
   ·simp [bf,hcb]
   ·simp [cO,hcb]
  |tuple xs=>simp only [gd];simp only [Rn,u6,jP,CF,St.want,hg]
  |_=>simp only [gd];simp only [Rn,u6,jP,CF,St.want,hg]
 |_=>simp only [gd];simp only [Rn,u6,jP,CF,St.want,hg]
theorem b8Q (t:Nat) (op:AOp) (c:Bool):gd T ow k t true d op n ss live K st (.lit (.bool c))=
 br c (Rn T ow k (.steps n (⟨d,op,none⟩::ss) live::K) { st with e:=jf t (.lit (.bool true)) st.e })
  (Rn T ow k (.steps (n+1) ss live::K) ({ st with e:=jf t (.lit (.bool false)) st.e }.put d (.lit (.tuple #[])))):=by cases c<;>rfl
theorem b40 (t:Nat) (op:AOp) (c:Bool):gd T ow k t false d op n ss live K st (.lit (.bool c))=
 br c (Rn T ow k (.steps (n+1) ss live::K) ({ st with e:=jf t (.lit (.bool true)) st.e }.put d (.lit (.tuple #[]))))
  (Rn T ow k (.steps n (⟨d,op,none⟩::ss) live::K) { st with e:=jf t (.lit (.bool false)) st.e }):=by cases c<;>rfl
theorem b52 (t:Nat) (b:Bool) (op:AOp) (xs:Array Value):gd T ow k t b d op n ss live K st (.lit (.tuple xs))=Rn T ow k (.steps (n+1) ss live::K) (st.put d (.lit (.tuple #[]))):=rfl
variable {base i:Nat} {deps:List (List Nat)} {rs:List Rec} {fp:List Nat}
def b5l (rs:List Rec) (i:Nat) (fp wr:List Nat):List Rec:=rs++[Rec.mk i fp wr].filter Rec.loud
theorem a6n:Rn T ow k (.dr base i [] deps live rs::K) st=br (qM deps rs) (Rn T ow k K (trim live st)) none:=by
 simp only [Rn,u6,jC,pM,bW]
noncomputable def Qo (T:Tab) (ow:en) (k:bT->St->Option R) (d:Option Nat) (base i:Nat) (ss:List cm) (deps:List (List Nat)) (live:List Nat) (rs:List Rec) (K:List Fr) (st:St) (fp:List Nat):Option (V×Upd)->Option R
 |some (v,u)=>br ((u.map (·.1)).all (fun b=>decide (b∈fp)||(st.heap b).isNone))
  (Rn T ow k (.dr base (i+1) ss deps live (b5l rs i fp (u.map (·.1)))::K) ((st.upd u).put d v)) none
 |none=>none
theorem c3p (op:AOp):Rn T ow k (.dr base i (⟨d,op,none⟩::ss) deps live rs::K) st=
 Qo T ow k d base i ss deps live rs K st (m4 ow op st.ev st.heap) (aN (Call T ow) ow op st.ev (sM st.heap (m4 ow op st.ev st.heap)) (base+i)):=by
 unfold Qo
 simp only [Rn,u6,jC,yO,St.want]
 cases ho:aN (Call T ow) ow op st.ev (sM st.heap (m4 ow op st.ev st.heap)) (base+i) with
 |none=>rfl
 |some p=>
  obtain ⟨v,u⟩:=p
  dsimp only
  by_cases hc:(u.map (·.1)).all (fun b=>decide (b∈m4 ow op st.ev st.heap)||(st.heap b).isNone)=true
  ·rw [hc,cO,ae rfl]
   dsimp only
   cases jC (Call T ow) ow base ss (i+1) ((st.upd u).put d v) with
   |none=>rfl
   |some q=>
    obtain ⟨st2,rs2⟩:=q
    simp only [b5l,kn,pM,ba]
    cases Rec.loud ⟨i,m4 ow op st.ev st.heap,u.map (·.1)⟩<;>rfl
  ·rw [Bool.not_eq_true] at hc
   rw [hc,bf,aa (by decide)]
theorem b1P (v:V) (u:Upd):Qo T ow k d base i ss deps live rs K st fp (some (v,u))=br ((u.map (·.1)).all (fun b=>decide (b∈fp)||(st.heap b).isNone))
 (Rn T ow k (.dr base (i+1) ss deps live (b5l rs i fp (u.map (·.1)))::K) ((st.upd u).put d v)) none:=rfl
theorem a9J:Qo T ow k d base i ss deps live rs K st fp none=none:=rfl
theorem b7L (c:Bool) (x y:Option (V×Upd)):Qo T ow k d base i ss deps live rs K st fp (br c x y)=br c (Qo T ow k d base i ss deps live rs K st fp x) (Qo T ow k d base i ss deps live rs K st fp y):=by cases c<;>rfl
theorem b0K {α:Type} (x:Option α) (f:α->Option (V×Upd)):Qo T ow k d base i ss deps live rs K st fp (x.bind f)=x.bind (fun a=>Qo T ow k d base i ss deps live rs K st fp (f a)):=by cases x<;>rfl
noncomputable def gdD (T:Tab) (ow:en) (k:bT->St->Option R) (t:Nat) (b:Bool) (d:Option Nat) (op:AOp) (base i:Nat) (ss:List cm) (deps:List (List Nat)) (live:List Nat) (rs:List Rec) (K:List Fr) (st:St):V->Option R
 | .lit (.bool c)=>br (c==b) (Rn T ow k (.dr base i (⟨d,op,none⟩::ss) deps live rs::K) { st with e:=jf t (.lit (.bool c)) st.e })
  (Rn T ow k (.dr base (i+1) ss deps live rs::K) ({ st with e:=jf t (.lit (.bool c)) st.e }.put d (.lit (.tuple #[]))))
 | .lit (.tuple _)=>Rn T ow k (.dr base (i+1) ss deps live rs::K) (st.put d (.lit (.tuple #[])))
 |_=>none
theorem a8W (op:AOp) (g:Nat×Bool) (h:st.want (some g)=some false):Rn T ow k (.dr base i (⟨d,op,some g⟩::ss) deps live rs::K) st=Rn T ow k (.dr base (i+1) ss deps live rs::K) (st.put d (.lit (.tuple #[]))):=by
 simp only [Rn,u6,jC,yO,h]
 cases jC (Call T ow) ow base ss (i+1) (st.put d (.lit (.tuple #[]))) with
 |none=>rfl
 |some q=>obtain ⟨st2,rs2⟩:=q;rfl
theorem c5v (op:AOp) (g:Nat×Bool) (h:st.want (some g)=some true):Rn T ow k (.dr base i (⟨d,op,some g⟩::ss) deps live rs::K) st=Rn T ow k (.dr base i (⟨d,op,none⟩::ss) deps live rs::K) st:=by
 have h2:st.want none=some true:=rfl
 simp only [Rn,u6,jC,yO,h,h2]
theorem a8G (op:AOp) (g:Nat×Bool) (h:st.want (some g)=none):Rn T ow k (.dr base i (⟨d,op,some g⟩::ss) deps live rs::K) st=none:=by
 simp only [Rn,u6,jC,yO,h]
theorem a08 (t:Nat) (b:Bool) (op:AOp):Rn T ow k (.dr base i (⟨d,op,some (t,b)⟩::ss) deps live rs::K) st=gdD T ow k t b d op base i ss deps live rs K st (st.get t):=by
 cases hg:st.get t with
 |lit v=>
  cases v with
  |bool c=>
   simp only [gdD]
   rw [a3W hg (by simp)]
   cases hcb:(c==b)
   ·rw [bf];exact a8W op (t,b) (by simp [St.want,hg,hcb])
   ·rw [cO];exact c5v op (t,b) (by simp [St.want,hg,hcb])
  |tuple xs=>exact a8W op (t,b) (by simp [St.want,hg])
  |_=>exact a8G op (t,b) (by simp [St.want,hg])
 |_=>exact a8G op (t,b) (by simp [St.want,hg])
theorem b3l (t:Nat) (op:AOp) (c:Bool):gdD T ow k t true d op base i ss deps live rs K st (.lit (.bool c))=
 br c (Rn T ow k (.dr base i (⟨d,op,none⟩::ss) deps live rs::K) { st with e:=jf t (.lit (.bool true)) st.e })
  (Rn T ow k (.dr base (i+1) ss deps live rs::K) ({ st with e:=jf t (.lit (.bool false)) st.e }.put d (.lit (.tuple #[])))):=by cases c<;>rfl
theorem b2a (t:Nat) (op:AOp) (c:Bool):gdD T ow k t false d op base i ss deps live rs K st (.lit (.bool c))=
 br c (Rn T ow k (.dr base (i+1) ss deps live rs::K) ({ st with e:=jf t (.lit (.bool true)) st.e }.put d (.lit (.tuple #[]))))
  (Rn T ow k (.dr base i (⟨d,op,none⟩::ss) deps live rs::K) { st with e:=jf t (.lit (.bool false)) st.e }):=by cases c<;>rfl
theorem b0r (t:Nat) (b:Bool) (op:AOp) (xs:Array Value):gdD T ow k t b d op base i ss deps live rs K st (.lit (.tuple xs))=Rn T ow k (.dr base (i+1) ss deps live rs::K) (st.put d (.lit (.tuple #[]))):=rfl
end
def a6v (af:aJ) (m:Nat) (x:bT) (st:St):Option (V×List Blk):=a3Q af (kP af m (some (x,st)))
theorem aj {T:Tab} {ow:en} {f:FuncId} {af:aJ} (hT:T f=some (.code af)) (a:List V) (b:List Blk):Call T ow f a b=Rn T ow (a6v af b.length) [.code af.body] (start a b):=by
 rw [a7R,hT]
 dsimp only
 rw [fm]
 cases ir T ow af.body (start a b) with
 |none=>rfl
 |some p=>obtain ⟨e,st⟩:=p;cases e<;>rfl
def L3 {S E:Type} (step:S->Option (S⊕E)):Nat->S->Option E
 |0,_=>none
 |n+1,s=>match step s with
  |none=>none
  |some (.inl s')=>L3 step n s'
  |some (.inr e)=>some e
theorem XQ {S E:Type} {step:S->Option (S⊕E)}: ∀{n:Nat} {s:S} {e:E},L3 step n s=some e->L3 step (n+1) s=some e
 |0,_,_,h=>by cases h
 |n+1,s,e,h=>by
  simp only [L3] at h ⊢
  split at h
  ·cases h
  ·rename_i s' hs;exact XQ h
  ·rename_i e' hs;exact h
theorem b8x {S E:Type} {step:S->Option (S⊕E)} {n m:Nat} (hnm:n<=m) {s:S} {e:E} (h:L3 step n s=some e):L3 step m s=some e:=by
 induction hnm with
 |refl=>exact h
 |step _ ih=>exact XQ ih
noncomputable def Loop {S E:Type} (step:S->Option (S⊕E)) (s:S):Option E:=lim (fun n=>L3 step n s)
theorem ZA {S E:Type} {step:S->Option (S⊕E)} {s:S} {e:E} (h:Loop step s=some e): ∃n,L3 step n s=some e:=a7K h
theorem a1n {S E:Type} {step:S->Option (S⊕E)} {n:Nat} {s:S} {e:E} (h:L3 step n s=some e):Loop step s=some e:=
 a5A (g:=fun n=>L3 step n s) (fun _ _ _ hnm h=>b8x hnm h) h
def a8i {S E:Type} (lp:S->Option E):Option (S⊕E)->Option E
 |none=>none
 |some (.inl s')=>lp s'
 |some (.inr e)=>some e
theorem HF {S E:Type} (step:S->Option (S⊕E)) (s:S):Loop step s=a8i (Loop step) (step s):=by
 refine xC (fun r h=> ?_) (fun r h=> ?_)
 ·obtain ⟨n,hn⟩:=ZA h
  cases n with
  |zero=>cases hn
  |succ n=>
   simp only [L3] at hn
   split at hn
   ·cases hn
   ·rename_i s' hs;rw [hs];exact a1n hn
   ·rename_i e' hs;rw [hs];exact hn
 ·cases hs:step s with
  |none=>rw [hs] at h;cases h
  |some o=>
   rw [hs] at h
   cases o with
   |inl s'=>
    obtain ⟨n,hn⟩:=ZA (show Loop step s'=some r from h)
    exact a1n (n:=n+1) (by simp only [L3,hs];exact hn)
   |inr e=>exact a1n (n:=1) (by simp only [L3,hs];exact h)
def c64 (x:bT) (st:St):Option (bT×St):=some (x,st)
def qj (g:eZ):aP->aP
 | .seq a b=> .seq (qj g a) b
 | .block id a=> .block id (qj g a)
 |c=> .ghost g c
section
variable {R:Type} {T:Tab} {ow:en} {k:bT->St->Option R}
def ghE (T:Tab) (ow:en) (c:aP):Option St->Option (bT×St)->Option (bT×St)
 |some _,r=>r
 |none,_=>none
theorem N1 (g:eZ): ∀(c:aP) (st:St),ir T ow (qj g c) st=(match dg st g with
 |some st'=>ir T ow c st'
 |none=>none)
 | .seq a b,st=>by
   simp only [qj]
   rw [L4,N1 g a st]
   cases dg st g with
   |none=>rfl
   |some st'=>dsimp only;rw [L4]
 | .block id a,st=>by
   simp only [qj]
   rw [JQ,N1 g a st]
   cases dg st g with
   |none=>rfl
   |some st'=>dsimp only;rw [JQ]
 | .skip,st=>mO _ _ _
 | .region _ _ _,st=>mO _ _ _
 | .drawn _ _ _ _,st=>mO _ _ _
 | .cond _ _ _,st=>mO _ _ _
 | .loop _,st=>mO _ _ _
 | .exit _,st=>mO _ _ _
 | .ret,st=>mO _ _ _
 | .ghost _ _,st=>mO _ _ _
noncomputable def Fw (T:Tab) (ow:en) (g:eZ) (c:aP) (st:St):Option (bT×St):=match ir T ow c st with
 |some (.normal,st')=>ir T ow (.loop (qj g c)) st'
 |r=>r
noncomputable def goL (T:Tab) (ow:en) (k:bT->St->Option R) (K:List Fr) (g:eZ) (c:aP):Option St->Option R
 |some st'=>goR T ow k K (Fw T ow g c st')
 |none=>none
theorem Qs (g:eZ) (c:aP) (st:St):ir T ow (.loop (qj g c)) st=(match dg st g with
 |some st'=>Fw T ow g c st'
 |none=>none):=by
 rw [b1i,N1]
 cases dg st g<;>rfl
theorem b0c (g:eZ) (c:aP) (K:List Fr) (st:St):Rn T ow k (.code (.loop (qj g c))::K) st=goL T ow k K g c (dg st g):=by
 rw [fm,Qs]
 cases dg st g<;>rfl
theorem b5n (K:List Fr) (g:eZ) (c:aP) (st':St):goL T ow k K g c (some st')=goR T ow k K (Fw T ow g c st'):=rfl
def ogM:Option St->Option (bT×St)
 |some st=>some (.normal,st)
 |none=>none
def UW (g:eZ):bT->St->Option (bT×St)
 | .normal,st=>ogM (dg st g)
 |x,st=>some (x,st)
theorem a4q (g:eZ) (st:St):UW g .normal st=ogM (dg st g):=rfl
theorem b1Z (g:eZ) (id:Nat) (st:St):UW g (.exit id) st=some (.exit id,st):=rfl
theorem b5L (g:eZ) (st:St):UW g .ret st=some (.ret,st):=rfl
theorem b31 (st:St):ogM (some st)=some (.normal,st):=rfl
theorem b0A {S E:Type} {g:eZ} {c:aP} {step:S->Option (S⊕E)} {eS:S->St} {eE:E->bT×St} (hne: ∀e,(eE e).1≠ .normal)
 (hb: ∀s o,step s=some o->Rn T ow (UW g) [.code c] (eS s)=some (match o with
  | .inl s'=>(.normal,eS s')
  | .inr e=>eE e)) {s:S} {e:E} (h:Loop step s=some e):Fw T ow g c (eS s)=some (eE e):=by
 obtain ⟨n,hn⟩:=ZA h
 clear h
 induction n generalizing s with
 |zero=>cases hn
 |succ n ih=>
  simp only [L3] at hn
  unfold Fw
  split at hn
  ·cases hn
  ·rename_i s' hs
   have h1:=hb s _ hs
   rw [fm] at h1
   cases hx:ir T ow c (eS s) with
   |none=>rw [hx] at h1;cases h1
   |some p=>
    obtain ⟨x,st'⟩:=p
    rw [hx] at h1
    cases x with
    |normal=>
     dsimp only
     rw [Qs]
     simp only [goR,Rn,u6,UW,ogM] at h1
     cases hg:dg st' g with
     |none=>rw [hg] at h1;cases h1
     |some st2=>rw [hg] at h1;cases h1;exact ih hn
    |exit id=>simp [goR,Unw,u6,UW] at h1
    |ret=>simp [goR,UW] at h1
  ·rename_i e' hs
   have h1:=hb s _ hs
   cases hn
   have hn2:=hne e
   rw [fm] at h1
   dsimp only at h1
   revert h1 hn2
   generalize eE e=q
   intro h1 hn2
   cases hx:ir T ow c (eS s) with
   |none=>rw [hx] at h1;cases h1
   |some p=>
    obtain ⟨x,st'⟩:=p
    rw [hx] at h1
    cases x with
    |normal=>
     simp only [goR,Rn,u6,UW,ogM] at h1
     cases hg:dg st' g with
     |none=>rw [hg] at h1;cases h1
     |some st2=>rw [hg] at h1;cases h1;exact absurd rfl hn2
    |exit id=>exact h1
    |ret=>exact h1
variable {d:Option Nat} {n:Nat} {ss:List cm} {live:List Nat} {K:List Fr} {st:St} {base i:Nat} {deps:List (List Nat)} {rs:List Rec} {fp:List Nat} {r:R}
theorem K1 {x:Option (bT×St)} {p:bT×St} (h:x=some p) (hr:goR T ow k K (some p)=some r):goR T ow k K x=some r:=by rw [h];exact hr
theorem a9m (g:eZ) (c:aP):goR T ow k K (Fw T ow g c st)=Rn T ow k (.code c:: .code (.loop (qj g c))::K) st:=by
 rw [fm]
 unfold Fw
 cases hx:ir T ow c st with
 |none=>rfl
 |some p=>
  obtain ⟨x,st'⟩:=p
  cases x with
  |normal=>dsimp only;simp only [goR];rw [fm];rfl
  |exit id=>rfl
  |ret=>rfl
theorem kj {g:eZ} {c:aP} (h:Rn T ow k (.code c:: .code (.loop (qj g c))::K) st=some r):goR T ow k K (Fw T ow g c st)=some r:=by rw [a9m];exact h
theorem bind_some {α β:Type} {x:Option α} {a:α} {F:α->Option β} {r:β} (h:x=some a) (hr:F a=some r):x.bind F=some r:=by rw [h];exact hr
end
end
section
abbrev I (n:Int):V:= .lit (.int .i64 n)
abbrev B (b:Bool):V:= .lit (.bool b)
abbrev S (s:List UInt8):V:= .lit (.string ⟨⟨s⟩⟩)
structure En (α:Type) where
 esz:Nat
 enc:α->List V
def rws {α:Type} (e:En α) (l:List α):List (List V):=l.map e.enc
def sl {α:Type} (e:En α) (l:List α):V:=(V.imm e.esz (rws e l)).cz
theorem c3B {α:Type} (e:En α):sl e []= .imm 1 []:=rfl
def eI:En Int:=⟨1,fun n=>[I n]⟩
def eU8:En UInt8:=⟨1,fun b=>[.lit (.int .u8 b.toNat)]⟩
def c6a:En Int:=⟨1,fun n=>[.lit (.int .u64 n)]⟩
def eB:En Bool:=⟨1,fun b=>[B b]⟩
def eS:En (List UInt8):=⟨1,fun s=>[S s]⟩
def eL {α:Type} (e:En α):En (List α):=⟨1,fun l=>[sl e l]⟩
theorem c0T:eI.esz=1:=by decide
theorem c3c (n:Int):eI.enc n=[I n]:=rfl
theorem b7J:eU8.esz=1:=by decide
theorem b99 (n:UInt8):eU8.enc n=[.lit (.int .u8 n.toNat)]:=rfl
theorem c2z:eS.esz=1:=by decide
theorem c1a (n:List UInt8):eS.enc n=[S n]:=rfl
theorem c3k {α:Type} (e:En α):(eL e).esz=1:=jX rfl
theorem c2m {α:Type} (e:En α) (l:List α):(eL e).enc l=[sl e l]:=rfl
def atL {α:Type} (l:List α) (i:Int):Option α:=if 0<=i then l[i.toNat]? else none
def lh {α:Type} (l:List α) (a b:Int):Option (List α):=if 0<=a/\a<=b/\b<=l.length then some ((l.take b.toNat).drop a.toNat) else none
def inb (i:Int) (n:Nat):Bool:=decide (0<=i)&&decide (i.toNat<n)
def cP (n bytes:Nat):Bool:=decide (n*bytes<=cU)
def zJ (l c:Int) (bytes:Nat):Bool:=decide (0<=l)&&decide (l<=c)&&decide (c*bytes<=cU)
def mx (a b:Int):Int:=if b>a then b else a
def mn (a b:Int):Int:=if b<a then b else a
def a8k (r:List (List V)):Nat:=r.length
def app (r q:List (List V)):List (List V):=r++q
def mkR (n:Nat) (r:List (List V)):List (List V):=r
def dU (row:List V) (r:List (List V)):List (List V):=row::r
def Ck (n k:Nat) (row:List V):List (List V):=List.replicate k row
def iV (r:List (List V)) (i:Nat) (row:List V):List (List V):=r.set i row
section
variable {α:Type} {e:En α} {l l2:List α}
theorem b0y:a8k (rws e l)=l.length:=by simp [a8k,rws]
theorem mk0 (e:En α) (n:Nat):mkR n []=rws e []:=rfl
theorem b3U (n:Nat) (row:List V) (r:List (List V)):mkR n (row::r)=dU row (mkR n r):=rfl
theorem c4p (a:Int) (l:List Int):dU [I a] (rws eI l)=rws eI (a::l):=rfl
theorem c41 (a:List UInt8) (l:List (List UInt8)):dU [S a] (rws eS l)=rws eS (a::l):=rfl
theorem c4b (a:List α) (l:List (List α)):dU [sl e a] (rws (eL e) l)=rws (eL e) (a::l):=rfl
theorem b5z (b:UInt8) (l:List UInt8):dU [.lit (.int .u8 b.toNat)] (rws eU8 l)=rws eU8 (b::l):=rfl
theorem vn (x:Int):((UInt8.ofInt x).toNat:Int)=IntKind.u8.wrap x:=by
 simp [UInt8.ofInt,IntKind.wrap,IntKind.bits,IntKind.signed]
 omega
theorem b6L (x:Int) (l:List UInt8):dU [.lit (.int .u8 (IntKind.u8.wrap x))] (rws eU8 l)=rws eU8 (UInt8.ofInt x::l):=by
 rw [<-vn];rfl
theorem c02 (n:Nat) (h:Nat.ble n 255=true) (l:List UInt8):dU [.lit (.int .u8 (no_index (OfNat.ofNat n:Int)))] (rws eU8 l)=rws eU8 ((OfNat.ofNat n:UInt8)::l):=by
 have h':=dl h
 have:((OfNat.ofNat n:UInt8).toNat:Int)=(OfNat.ofNat n:Int):=by
  show ((UInt8.ofNat n).toNat:Int)=(n:Int)
  simp;omega
 rw [<-b5z,this]
theorem c5A (l:List Int) (i:Nat) (a:Int):iV (rws eI l) i [I a]=rws eI (l.set i a):=by simp [iV,rws,eI]
theorem setB (l:List Bool) (i:Nat) (a:Bool):iV (rws eB l) i [B a]=rws eB (l.set i a):=by simp [iV,rws,eB]
theorem c1e (l:List (List UInt8)) (i:Nat) (a:List UInt8):iV (rws eS l) i [S a]=rws eS (l.set i a):=by simp [iV,rws,eS]
theorem c5X (l:List (List α)) (i:Nat) (a:List α):iV (rws (eL e) l) i [sl e a]=rws (eL e) (l.set i a):=by simp [iV,rws,eL]
theorem c0p (l:List UInt8) (i:Nat) (a:UInt8):iV (rws eU8 l) i [.lit (.int .u8 a.toNat)]=rws eU8 (l.set i a):=by simp [iV,rws,eU8]
theorem b5Q (l:List UInt8) (i:Nat) (x:Int):iV (rws eU8 l) i [.lit (.int .u8 (IntKind.u8.wrap x))]=rws eU8 (l.set i (UInt8.ofInt x)):=by
 rw [<-vn,c0p]
theorem Nh (e:En α) (x:α) (n k:Nat):Ck n k (e.enc x)=rws e (List.replicate k x):=by simp [Ck,rws]
theorem c3P (m:Nat) (h:e.esz=m):V.cz (.imm m (rws e l))=sl e l:=by subst h;rfl
theorem nH (e:En α) (l:List α):(l=[]/\sl e l= .imm 1 [])\/(l≠[]/\sl e l= .imm e.esz (rws e l)):=by
 cases l with
 |nil=>exact .inl ⟨rfl,rfl⟩
 |cons x l=>exact .inr ⟨by simp,rfl⟩
theorem c5d:(sl e l).cz=sl e l:=by
 cases l with
 |nil=>rfl
 |cons x l=>rfl
theorem c2i:(sl e l).czA=sl e l:=by
 cases l with
 |nil=>rfl
 |cons x l=>rfl
theorem c2P:(sl e l).czR=sl e l:=by
 cases l with
 |nil=>rfl
 |cons x l=>rfl
theorem b85:(sl e l).cell=true:=by
 rcases nH e l with ⟨_,h⟩|⟨_,h⟩<;>rw [h]<;>rfl
theorem b4J:(sl e l).cells=[sl e l]:=by
 rcases nH e l with ⟨_,h⟩|⟨_,h⟩<;>rw [h]<;>rfl
theorem b6S:n7 (sl e l)=[]:=by
 rcases nH e l with ⟨_,h⟩|⟨_,h⟩<;>rw [h]<;>rfl
theorem b7t:Bb (sl e l)=[]:=by
 rcases nH e l with ⟨_,h⟩|⟨_,h⟩<;>rw [h]<;>rfl
theorem b8X {h:aZ}:rZ h (sl e l)=some (sl e l,[]):=by
 rcases nH e l with ⟨_,h⟩|⟨_,h⟩<;>rw [h]<;>rfl
theorem a6Q {h:aZ} {own:Bool} {ids:List Nat}:dZ h own ids (sl e l)=some (sl e l,ids,[]):=by
 rcases nH e l with ⟨_,h⟩|⟨_,h⟩<;>rw [h]<;>rfl
theorem b0d {h:aZ} {own:Bool} {ids:List Nat}:fU h own ids (sl e l)=some (sl e l,ids,[]):=by
 rcases nH e l with ⟨_,h⟩|⟨_,h⟩<;>rw [h]<;>rfl
theorem c2A {ids:List Nat}:unV ids (sl e l)=sl e l:=by
 rcases nH e l with ⟨_,h⟩|⟨_,h⟩<;>rw [h]<;>rfl
theorem b3E {ids:List Nat}:nK ids (sl e l)=sl e l:=by
 rcases nH e l with ⟨_,h⟩|⟨_,h⟩<;>rw [h]<;>rfl
theorem b32 {ids:List Nat}:GV ids (sl e l)=sl e l:=by
 rcases nH e l with ⟨_,h⟩|⟨_,h⟩<;>rw [h]<;>rfl
theorem b3r:su (sl e l)=false:=by
 rcases nH e l with ⟨_,h⟩|⟨_,h⟩<;>rw [h]<;>rfl
theorem b2Q:ON (sl e l)=false:=by
 rcases nH e l with ⟨_,h⟩|⟨_,h⟩<;>rw [h]<;>rfl
theorem b2m:zp (sl e l)=false:=by
 rcases nH e l with ⟨_,h⟩|⟨_,h⟩<;>rw [h]<;>rfl
theorem c1s {h:aZ} {bs:List Nat}:fzC h bs (sl e l)=sl e l:=by
 rcases nH e l with ⟨_,h⟩|⟨_,h⟩<;>rw [h]<;>rfl
theorem c3J {h:aZ} {bs:List Nat}:fzA h bs (sl e l)=sl e l:=by
 rcases nH e l with ⟨_,h⟩|⟨_,h⟩<;>rw [h]<;>rfl
theorem b8S {h:aZ} {m:Nat} {kp:List Nat}:sH h m kp (sl e l)=some (sl e l):=by
 rcases nH e l with ⟨_,h⟩|⟨_,h⟩<;>rw [h]<;>rfl
theorem b9A {h:aZ} {m:Nat} {kp:List Nat}:K9 h m kp (sl e l)=some (sl e l):=by
 rcases nH e l with ⟨_,h⟩|⟨_,h⟩<;>rw [h]<;>rfl
theorem b93 {h:aZ} {m:Nat} {kp:List Nat}:Nd h m kp (sl e l)=some (sl e l):=by
 rcases nH e l with ⟨_,h⟩|⟨_,h⟩<;>rw [h]<;>rfl
theorem Xd {h:aZ} (m:Nat) (hm:e.esz=m):eu h m (sl e l)=some (rws e l):=by
 subst hm
 rcases nH e l with ⟨rfl,h⟩|⟨hl,h⟩
 ·rw [h];simp [eu,rws]
 ·rw [h];simp [eu]
theorem a3K:a8v (sl e l)=false:=by
 rcases nH e l with ⟨_,h⟩|⟨_,h⟩<;>rw [h]<;>rfl
end
end
end Go.AI
