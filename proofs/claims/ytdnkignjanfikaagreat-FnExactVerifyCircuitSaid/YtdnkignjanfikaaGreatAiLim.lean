/- Part. -/
import Derived.Test.YtdnkignjanfikaaGreatAiDefs
namespace Go.AI
section
theorem O1 {C C':ce} (e: ∀f a b r,C f a b=some r->C' f a b=some r) {ow:ec} {h:b8} {new:Nat} {f:FuncId} {args:List V} {r:V×Upd}
 (c:nV C ow h new f args=some r):nV C' ow h new f args=some r:=by
 unfold nV at c ⊢
 cases d:fi ow h f args with
 |none=>rw [d] at c;cases c
 |some p=>
  obtain ⟨args',blks,ids,bor⟩:=p
  rw [d] at c
  dsimp only at c ⊢
  cases hc:C f (ul (ow f) args') (tY (ow f) blks) with
  |none=>rw [hc] at c;cases c
  |some q=>rw [e _ _ _ _ hc];rw [hc] at c;exact c
theorem PL {C C':ce} (d: ∀f a b r,C f a b=some r->C' f a b=some r) {ow:ec} {o:AOp} {ev:Opd->V} {h:b8} {new:Nat} {r:V×Upd}
 (c:aM C ow o ev h new=some r):aM C' ow o ev h new=some r:=by
 cases o
 case call f args=>simp only [aM] at c ⊢;exact O1 d c
 case dyn f args=>
  simp only [aM] at c ⊢
  split at c
  ·exact O1 d c
  ·cases c
 all_goals exact c
theorem VK {C:Nat->ce} {D:ce} (e: ∀f a b r,D f a b=some r-> ∃n,C n f a b=some r) (i:Nat) {ow:ec} {o:AOp} {ev:Opd->V} {h:b8} {new:Nat} {r:V×Upd}
 (c:aM D ow o ev h new=some r): ∃n,aM (C n) ow o ev h new=some r:=by
 have key: ∀f args,nV D ow h new f args=some r-> ∃n,nV (C n) ow h new f args=some r:=by
  intro f args c
  unfold nV at c
  cases d:fi ow h f args with
  |none=>rw [d] at c;cases c
  |some p=>
   obtain ⟨args',blks,ids,bor⟩:=p
   rw [d] at c
   dsimp only at c
   cases hc:D f (ul (ow f) args') (tY (ow f) blks) with
   |none=>rw [hc] at c;cases c
   |some q=>
    rw [hc] at c
    obtain ⟨n,hn⟩:=e _ _ _ _ hc
    refine ⟨n, ?_⟩
    unfold nV
    rw [d]
    dsimp only
    rw [hn]
    exact c
 cases o
 case call f args=>simp only [aM] at c ⊢;exact key _ _ c
 case dyn f args=>
  simp only [aM] at c ⊢
  split at c
  ·exact key _ _ c
  ·cases c
 all_goals exact ⟨i,c⟩
theorem Qb {C C':ce} (d: ∀f a b r,C f a b=some r->C' f a b=some r) {ow:ec} {st:St} {s:cn} {n:Nat} {r:St}
 (c:Cm C ow st s n=some r):Cm C' ow st s n=some r:=by
 unfold Cm at c ⊢
 split at c
 ·cases c
 ·exact c
 ·split at c
  ·rename_i v u e;rw [PL d e];exact c
  ·cases c
theorem v6 {C C':ce} (d: ∀f a b r,C f a b=some r->C' f a b=some r) {ow:ec}: ∀{l:List cn} {n:Nat} {st:St} {r:St},
 jE C ow l n st=some r->jE C' ow l n st=some r
 |[],_,_,_,c=>c
 |s::l,n,st,r,c=>by
  simp only [jE] at c ⊢
  split at c
  ·rename_i st' h;rw [Qb d h];exact v6 d c
  ·cases c
theorem QU {C C':ce} (d: ∀f a b r,C f a b=some r->C' f a b=some r) {ow:ec} {st:St} {s:cn} {i n:Nat} {r:St×Rec}
 (c:yb C ow st s i n=some r):yb C' ow st s i n=some r:=by
 unfold yb at c ⊢
 split at c
 ·cases c
 ·exact c
 ·split at c
  ·rename_i v u e;rw [PL d e];exact c
  ·cases c
theorem vY {C C':ce} (d: ∀f a b r,C f a b=some r->C' f a b=some r) {ow:ec} {base:Nat}: ∀{l:List cn} {n:Nat} {st:St} {r:St×List Rec},
 jx C ow base l n st=some r->jx C' ow base l n st=some r
 |[],_,_,_,c=>c
 |s::l,n,st,r,c=>by
  simp only [jx] at c ⊢
  split at c
  ·rename_i st' rc h
   rw [QU d h]
   dsimp only
   split at c
   ·rename_i st2 rs e;rw [vY d e];exact c
   ·cases c
  ·cases c
theorem dK {C C':ce} (hC: ∀f a b r,C f a b=some r->C' f a b=some r) {ow:ec}: ∀(n m:Nat),n<=m-> ∀{c:aQ} {st:St} {r:bR×St},
 dh C ow n c st=some r->dh C' ow m c st=some r
 |0,_,_,_,_,_,hr=>by simp [dh] at hr
 |n+1,0,h,_,_,_,_=>absurd h (by omega)
 |n+1,m+1,h,c,st,r,hr=>by
  have ih:=fun {c st r}=>dK hC (ow:=ow) n m (by omega) (c:=c) (st:=st) (r:=r)
  cases c with
  |skip=>exact hr
  |region base steps live=>
   simp only [dh,s5] at hr ⊢
   split at hr
   ·rename_i st' h;rw [v6 hC h];exact hr
   ·cases hr
  |drawn base steps deps live=>
   simp only [dh,Az] at hr ⊢
   split at hr
   ·rename_i st' rs h;rw [vY hC h];exact hr
   ·cases hr
  |seq a b=>
   simp only [dh] at hr ⊢
   cases ha:dh C ow n a st with
   |none=>rw [ha] at hr;cases hr
   |some p=>
    obtain ⟨e,st'⟩:=p
    rw [ih ha]
    rw [ha] at hr
    cases e with
    |normal=>exact ih hr
    |exit id=>exact hr
    |ret=>exact hr
  |cond c a b=>
   simp only [dh] at hr ⊢
   split at hr
   ·exact ih hr
   ·exact ih hr
   ·cases hr
  |block id c=>
   simp only [dh] at hr ⊢
   cases ha:dh C ow n c st with
   |none=>rw [ha] at hr;cases hr
   |some p=>rw [ih ha];rw [ha] at hr;exact hr
  |loop c=>
   simp only [dh] at hr ⊢
   cases ha:dh C ow n c st with
   |none=>rw [ha] at hr;cases hr
   |some p=>
    obtain ⟨e,st'⟩:=p
    rw [ih ha]
    rw [ha] at hr
    cases e with
    |normal=>exact ih hr
    |exit id=>exact hr
    |ret=>exact hr
  |exit id=>exact hr
  |ret=>exact hr
  |ghost g c=>
   simp only [dh] at hr ⊢
   split at hr
   ·exact ih hr
   ·cases hr
theorem Qe (T:Tab) (ow:ec): ∀(n:Nat) f a b r,fg T ow n f a b=some r->fg T ow (n+1) f a b=some r
 |0,_,_,_,_,h=>by simp [fg] at h
 |n+1,f,a,b,r,h=>by
  simp only [fg] at h ⊢
  split at h
  ·cases h
  rotate_left
  ·exact h
  ·rename_i af d
   cases c:dh (fg T ow n) ow n af.body (start a b) with
   |none=>rw [c] at h;simp [kK,a1v] at h
   |some p=>
    have:=dK (Qe T ow n) (ow:=ow) n (n+1) (by omega) c
    simp only [fg] at this
    rw [this]
    rw [c] at h
    exact h
theorem dL (T:Tab) (ow:ec) {n m:Nat} (h:n<=m): ∀f a b r,fg T ow n f a b=some r->fg T ow m f a b=some r:=by
 induction h with
 |refl=>exact fun _ _ _ _ h=>h
 |step _ ih=>exact fun f a b r h=>Qe T ow _ f a b r (ih f a b r h)
open Classical in
noncomputable def lim {α:Type} (g:Nat->Option α):Option α:=if h: ∃n r,g n=some r then g h.choose else none
theorem a5Y {α:Type} {g:Nat->Option α} (c: ∀n m r,n<=m->g n=some r->g m=some r) {n:Nat} {r:α} (h:g n=some r):lim g=some r:=by
 have b: ∃n r,g n=some r:=⟨n,r,h⟩
 unfold lim
 rw [dif_pos b]
 obtain ⟨r',a⟩:=b.choose_spec
 have e:=c _ (max n b.choose) _ (Nat.le_max_left _ _) h
 have d:=c _ (max n b.choose) _ (Nat.le_max_right _ _) a
 rw [e] at d
 rw [a, <-d]
theorem a5X {α:Type} {g:Nat->Option α} {r:α} (h:lim g=some r): ∃n,g n=some r:=by
 unfold lim at h
 split at h
 ·exact ⟨_,h⟩
 ·cases h
noncomputable def Call (T:Tab) (ow:ec):ce:=fun f a b=>lim fun n=>fg T ow n f a b
noncomputable def ip (T:Tab) (ow:ec) (c:aQ) (st:St):Option (bR×St):=lim fun n=>dh (fg T ow n) ow n c st
section
variable {T:Tab} {ow:ec}
theorem c1s {n m:Nat} (h:n<=m) {c:aQ} {st:St} {r:bR×St} (a:dh (fg T ow n) ow n c st=some r):dh (fg T ow m) ow m c st=some r:=
 dK (dL T ow h) n m h a
theorem ge {n:Nat} {c:aQ} {st:St} {r:bR×St} (h:dh (fg T ow n) ow n c st=some r):ip T ow c st=some r:=
 a5Y (g:=fun n=>dh (fg T ow n) ow n c st) (fun _ _ _ a h=>c1s a h) h
theorem kw {c:aQ} {st:St} {r:bR×St} (h:ip T ow c st=some r): ∃n,dh (fg T ow n) ow n c st=some r:=a5X h
theorem YO {n:Nat} {f:FuncId} {a:List V} {b:List Blk} {r:V×List Blk} (h:fg T ow n f a b=some r):Call T ow f a b=some r:=
 a5Y (g:=fun n=>fg T ow n f a b) (fun _ _ _ c h=>dL T ow c _ _ _ _ h) h
theorem Pr {f:FuncId} {a:List V} {b:List Blk} {r:V×List Blk} (h:Call T ow f a b=some r): ∃n,fg T ow n f a b=some r:=a5X h
theorem xe {α:Type} {a b:Option α} (c: ∀r,a=some r->b=some r) (d: ∀r,b=some r->a=some r):a=b:=by
 cases a with
 |none=>cases b with
  |none=>rfl
  |some r=>exact absurd (d r rfl) (by simp)
 |some r=>exact (c r rfl).symm
theorem Re: ∀{l:List cn} {n:Nat} {st:St} {r:St},jE (Call T ow) ow l n st=some r-> ∃k,jE (fg T ow k) ow l n st=some r
 |[],_,_,_,h=>⟨0,h⟩
 |s::l,n,st,r,h=>by
  simp only [jE] at h
  cases a:Cm (Call T ow) ow st s n with
  |none=>rw [a] at h;cases h
  |some st'=>
   rw [a] at h
   obtain ⟨b,c⟩:=Re h
   have: ∃k,Cm (fg T ow k) ow st s n=some st':=by
    unfold Cm at a ⊢
    split at a
    ·cases a
    ·exact ⟨0,a⟩
    ·split at a
     ·rename_i v u f
      obtain ⟨k,i⟩:=VK (C:=fg T ow) (D:=Call T ow) (fun _ _ _ _ h=>Pr h) 0 f
      exact ⟨k,by rw [i];exact a⟩
     ·cases a
   obtain ⟨d,e⟩:=this
   refine ⟨max d b, ?_⟩
   simp only [jE]
   rw [Qb (dL T ow (Nat.le_max_left d b)) e]
   exact v6 (dL T ow (Nat.le_max_right d b)) c
theorem Qq {base:Nat}: ∀{l:List cn} {n:Nat} {st:St} {r:St×List Rec},jx (Call T ow) ow base l n st=some r-> ∃k,jx (fg T ow k) ow base l n st=some r
 |[],_,_,_,h=>⟨0,h⟩
 |s::l,n,st,r,h=>by
  simp only [jx] at h
  cases a:yb (Call T ow) ow st s n (base+n) with
  |none=>rw [a] at h;cases h
  |some p=>
   obtain ⟨st',rc⟩:=p
   rw [a] at h
   dsimp only at h
   cases b:jx (Call T ow) ow base l (n+1) st' with
   |none=>rw [b] at h;cases h
   |some q=>
    obtain ⟨st2,rs⟩:=q
    rw [b] at h
    obtain ⟨c,d⟩:=Qq b
    have: ∃k,yb (fg T ow k) ow st s n (base+n)=some (st',rc):=by
     unfold yb at a ⊢
     split at a
     ·cases a
     ·exact ⟨0,a⟩
     ·split at a
      ·rename_i v u i
       obtain ⟨k,j⟩:=VK (C:=fg T ow) (D:=Call T ow) (fun _ _ _ _ h=>Pr h) 0 i
       exact ⟨k,by rw [j];exact a⟩
      ·cases a
    obtain ⟨e,f⟩:=this
    refine ⟨max e c, ?_⟩
    simp only [jx]
    rw [QU (dL T ow (Nat.le_max_left e c)) f]
    dsimp only
    rw [vY (dL T ow (Nat.le_max_right e c)) d]
    exact h
theorem QO (k:Nat): ∀f a b r,fg T ow k f a b=some r->Call T ow f a b=some r:=fun _ _ _ _ h=>YO h
theorem b0r (st:St):ip T ow .skip st=some (.normal,st):=ge (n:=1) rfl
theorem a9E (id:Nat) (st:St):ip T ow (.exit id) st=some (.exit id,st):=ge (n:=1) rfl
theorem b5J (st:St):ip T ow .ret st=some (.ret,st):=ge (n:=1) rfl
theorem Nx (base:Nat) (steps:List cn) (live:List Nat) (st:St):ip T ow (.region base steps live) st=s5 (Call T ow) ow base steps live st:=by
 refine xe (fun r h=> ?_) (fun r h=> ?_)
 ·obtain ⟨n,hn⟩:=kw h
  cases n with
  |zero=>simp [dh] at hn
  |succ n=>
   simp only [dh,s5] at hn ⊢
   split at hn
   ·rename_i st' h';rw [v6 (QO (n+1)) h'];exact hn
   ·cases hn
 ·unfold s5 at h
  split at h
  ·rename_i st' h'
   obtain ⟨k,a⟩:=Re h'
   refine ge (n:=k+1) ?_
   simp only [dh,s5]
   rw [v6 (dL T ow (ms k)) a]
   exact h
  ·cases h
theorem a4c (base:Nat) (steps:List cn) (deps:List (List Nat)) (live:List Nat) (st:St):
 ip T ow (.drawn base steps deps live) st=Az (Call T ow) ow base steps deps live st:=by
 refine xe (fun r h=> ?_) (fun r h=> ?_)
 ·obtain ⟨n,hn⟩:=kw h
  cases n with
  |zero=>simp [dh] at hn
  |succ n=>
   simp only [dh,Az] at hn ⊢
   split at hn
   ·rename_i st' rs h';rw [vY (QO (n+1)) h'];exact hn
   ·cases hn
 ·unfold Az at h
  split at h
  ·rename_i st' rs h'
   obtain ⟨k,a⟩:=Qq h'
   refine ge (n:=k+1) ?_
   simp only [dh,Az]
   rw [vY (dL T ow (ms k)) a]
   exact h
  ·cases h
theorem Ks (a b:aQ) (st:St):ip T ow (.seq a b) st=(match ip T ow a st with
 |some (.normal,st')=>ip T ow b st'
 |r=>r):=by
 refine xe (fun r h=> ?_) (fun r h=> ?_)
 ·obtain ⟨n,hn⟩:=kw h
  cases n with
  |zero=>simp [dh] at hn
  |succ n=>
   simp only [dh] at hn
   cases c:dh (fg T ow (n+1)) ow n a st with
   |none=>rw [c] at hn;cases hn
   |some p=>
    obtain ⟨e,st'⟩:=p
    rw [ge (dK (fun _ _ _ _ h=>h) n (n+1) (by omega) c)]
    rw [c] at hn
    cases e with
    |normal=>exact ge (dK (fun _ _ _ _ h=>h) n (n+1) (by omega) hn)
    |exit id=>exact hn
    |ret=>exact hn
 ·cases c:ip T ow a st with
  |none=>rw [c] at h;cases h
  |some p=>
   obtain ⟨e,st'⟩:=p
   rw [c] at h
   obtain ⟨n,hn⟩:=kw c
   cases e with
   |normal=>
    obtain ⟨m,d⟩:=kw (show ip T ow b st'=some r from h)
    refine ge (n:=max n m+1) ?_
    simp only [dh]
    rw [dK (dL T ow (by omega)) n (max n m) (by omega) hn]
    exact dK (dL T ow (by omega)) m (max n m) (by omega) d
   |exit id=>
    refine ge (n:=n+1) ?_
    simp only [dh]
    rw [dK (dL T ow (by omega)) n n (by omega) hn]
    exact h
   |ret=>
    refine ge (n:=n+1) ?_
    simp only [dh]
    rw [dK (dL T ow (by omega)) n n (by omega) hn]
    exact h
theorem a8U (c:Opd) (a b:aQ) (st:St):ip T ow (.cond c a b) st=(match st.ev c with
 | .lit (.bool true)=>ip T ow a st
 | .lit (.bool false)=>ip T ow b st
 |_=>none):=by
 refine xe (fun r h=> ?_) (fun r h=> ?_)
 ·obtain ⟨n,hn⟩:=kw h
  cases n with
  |zero=>simp [dh] at hn
  |succ n=>
   simp only [dh] at hn
   split at hn
   ·rename_i hc;simp only [hc];exact ge (dK (fun _ _ _ _ h=>h) n (n+1) (by omega) hn)
   ·rename_i hc;simp only [hc];exact ge (dK (fun _ _ _ _ h=>h) n (n+1) (by omega) hn)
   ·cases hn
 ·split at h
  ·rename_i hc
   obtain ⟨n,hn⟩:=kw h
   refine ge (n:=n+1) ?_
   simp only [dh,hc]
   exact dK (dL T ow (by omega)) n n (by omega) hn
  ·rename_i hc
   obtain ⟨n,hn⟩:=kw h
   refine ge (n:=n+1) ?_
   simp only [dh,hc]
   exact dK (dL T ow (by omega)) n n (by omega) hn
  ·cases h
theorem Jn (id:Nat) (c:aQ) (st:St):ip T ow (.block id c) st=(match ip T ow c st with
 |some (.exit id',st')=>if id'=id then some (.normal,st') else some (.exit id',st')
 |r=>r):=by
 refine xe (fun r h=> ?_) (fun r h=> ?_)
 ·obtain ⟨n,hn⟩:=kw h
  cases n with
  |zero=>simp [dh] at hn
  |succ n=>
   simp only [dh] at hn
   cases a:dh (fg T ow (n+1)) ow n c st with
   |none=>rw [a] at hn;cases hn
   |some p=>
    rw [ge (dK (fun _ _ _ _ h=>h) n (n+1) (by omega) a)]
    rw [a] at hn
    exact hn
 ·cases a:ip T ow c st with
  |none=>rw [a] at h;cases h
  |some p=>
   obtain ⟨n,hn⟩:=kw a
   refine ge (n:=n+1) ?_
   simp only [dh]
   rw [dK (dL T ow (by omega)) n n (by omega) hn]
   rw [a] at h
   exact h
theorem b0V (c:aQ) (st:St):ip T ow (.loop c) st=(match ip T ow c st with
 |some (.normal,st')=>ip T ow (.loop c) st'
 |r=>r):=by
 refine xe (fun r h=> ?_) (fun r h=> ?_)
 ·obtain ⟨n,hn⟩:=kw h
  cases n with
  |zero=>simp [dh] at hn
  |succ n=>
   simp only [dh] at hn
   cases a:dh (fg T ow (n+1)) ow n c st with
   |none=>rw [a] at hn;cases hn
   |some p=>
    obtain ⟨e,st'⟩:=p
    rw [ge (dK (fun _ _ _ _ h=>h) n (n+1) (by omega) a)]
    rw [a] at hn
    cases e with
    |normal=>exact ge (dK (fun _ _ _ _ h=>h) n (n+1) (by omega) hn)
    |exit id=>exact hn
    |ret=>exact hn
 ·cases a:ip T ow c st with
  |none=>rw [a] at h;cases h
  |some p=>
   obtain ⟨e,st'⟩:=p
   rw [a] at h
   obtain ⟨n,hn⟩:=kw a
   cases e with
   |normal=>
    obtain ⟨m,b⟩:=kw (show ip T ow (.loop c) st'=some r from h)
    refine ge (n:=max n m+1) ?_
    simp only [dh]
    rw [dK (dL T ow (by omega)) n (max n m) (by omega) hn]
    exact dK (dL T ow (by omega)) m (max n m) (by omega) b
   |exit id=>
    refine ge (n:=n+1) ?_
    simp only [dh]
    rw [dK (dL T ow (by omega)) n n (by omega) hn]
    exact h
   |ret=>
    refine ge (n:=n+1) ?_
    simp only [dh]
    rw [dK (dL T ow (by omega)) n n (by omega) hn]
    exact h
theorem md (g:eU) (c:aQ) (st:St):ip T ow (.ghost g c) st=(match de st g with
 |some st'=>ip T ow c st'
 |none=>none):=by
 refine xe (fun r h=> ?_) (fun r h=> ?_)
 ·obtain ⟨n,hn⟩:=kw h
  cases n with
  |zero=>simp [dh] at hn
  |succ n=>
   simp only [dh] at hn
   split at hn
   ·rename_i st' a;simp only [a];exact ge (dK (fun _ _ _ _ h=>h) n (n+1) (by omega) hn)
   ·cases hn
 ·split at h
  ·rename_i st' a
   obtain ⟨n,hn⟩:=kw h
   refine ge (n:=n+1) ?_
   simp only [dh,a]
   exact dK (dL T ow (by omega)) n n (by omega) hn
  ·cases h
theorem a6D (f:FuncId) (a:List V) (b:List Blk):Call T ow f a b=(match T f with
 |none=>none
 |some (.code af)=>a1v af (kK af b.length (ip T ow af.body (start a b)))
 |some (.ext g)=>g a b):=by
 refine xe (fun r h=> ?_) (fun r h=> ?_)
 ·obtain ⟨n,hn⟩:=Pr h
  cases n with
  |zero=>simp [fg] at hn
  |succ n=>
   simp only [fg] at hn
   split at hn
   ·cases hn
   rotate_left
   ·rename_i g e;simp only [e];exact hn
   ·rename_i af c
    cases d:dh (fg T ow n) ow n af.body (start a b) with
    |none=>rw [d] at hn;simp [kK,a1v] at hn
    |some p=>simp only [c];rw [ge d];rw [d] at hn;exact hn
 ·split at h
  ·cases h
  rotate_left
  ·rename_i g e
   refine YO (n:=1) ?_
   simp only [fg,e]
   exact h
  ·rename_i af c
   cases d:ip T ow af.body (start a b) with
   |none=>rw [d] at h;simp [kK,a1v] at h
   |some p=>
    obtain ⟨n,hn⟩:=kw d
    refine YO (n:=n+1) ?_
    simp only [fg,c]
    rw [hn]
    rw [d] at h
    exact h
end
end
set_option linter.unusedVariables false
set_option linter.unusedSimpArgs false
section
def br {α:Type} (c:Bool) (x y:α):α:=match c with
 |true=>x
 |false=>y
theorem cK {α:Type} (x y:α):br true x y=x:=rfl
theorem ba {α:Type} (x y:α):br false x y=y:=rfl
theorem JY {α:Type} {c:Bool} {x y r:α} (h:c=true) (a:x=r):br c x y=r:=by subst h;exact a
theorem b0k {α:Type} {c:Bool} {x y r:α} (h:c=false) (a:y=r):br c x y=r:=by subst h;exact a
theorem brc {α:Type} {c:Bool} {x y r:α} (h:br c x y=r):(c=true/\x=r)\/(c=false/\y=r):=by
 cases c
 ·exact .inr ⟨rfl,h⟩
 ·exact .inl ⟨rfl,h⟩
theorem brg {α:Type} {c:Bool} {x:Option α} {r:α} (h:br c x none=some r):c=true/\x=some r:=by
 cases c
 ·cases h
 ·exact ⟨rfl,h⟩
theorem bd {α β:Type} {x:Option α} {g:α->Option β} {r:β} (h:x.bind g=some r): ∃a,x=some a/\g a=some r:=by
 cases x with
 |none=>cases h
 |some a=>exact ⟨a,rfl,h⟩
inductive Fr where
 |code (c:aQ)
 |steps (n:Nat) (ss:List cn) (live:List Nat)
 |dr (base i:Nat) (ss:List cn) (deps:List (List Nat)) (live:List Nat) (rs:List Rec)
 |blk (id:Nat)
section
variable {R:Type}
noncomputable def ti (T:Tab) (ow:ec) (k:bR->St->Option R):List Fr->Option Nat->St->Option R
 |[],none,st=>k .normal st
 |[],some id,st=>k (.exit id) st
 | .blk id'::K,some id,st=>if id'=id then ti T ow k K none st else ti T ow k K (some id) st
 |_::K,some id,st=>ti T ow k K (some id) st
 | .blk _::K,none,st=>ti T ow k K none st
 | .code c::K,none,st=>match ip T ow c st with
   |some (.normal,st')=>ti T ow k K none st'
   |some (.exit id,st')=>ti T ow k K (some id) st'
   |some (.ret,st')=>k .ret st'
   |none=>none
 | .steps n ss live::K,none,st=>match jE (Call T ow) ow ss n st with
   |some st'=>ti T ow k K none (trim live st')
   |none=>none
 | .dr base i ss deps live rs::K,none,st=>match jx (Call T ow) ow base ss i st with
   |some (st',rs')=>br (qE deps (rs++rs'.filter Rec.loud)) (ti T ow k K none (trim live st')) none
   |none=>none
noncomputable def Rn (T:Tab) (ow:ec) (k:bR->St->Option R) (K:List Fr) (st:St):Option R:=ti T ow k K none st
noncomputable def Unw (T:Tab) (ow:ec) (k:bR->St->Option R) (id:Nat) (K:List Fr) (st:St):Option R:=ti T ow k K (some id) st
noncomputable def goR (T:Tab) (ow:ec) (k:bR->St->Option R) (K:List Fr):Option (bR×St)->Option R
 |some (.normal,st')=>Rn T ow k K st'
 |some (.exit id,st')=>Unw T ow k id K st'
 |some (.ret,st')=>k .ret st'
 |none=>none
variable {T:Tab} {ow:ec} {k:bR->St->Option R}
theorem fh (c:aQ) (K:List Fr) (st:St):Rn T ow k (.code c::K) st=goR T ow k K (ip T ow c st):=by
 unfold Rn ti goR
 cases ip T ow c st with
 |none=>rfl
 |some p=>obtain ⟨e,st'⟩:=p;cases e<;>rfl
theorem b7n (st:St):Rn T ow k [] st=k .normal st:=rfl
theorem c0j (id:Nat) (K:List Fr) (st:St):Rn T ow k (.blk id::K) st=Rn T ow k K st:=rfl
theorem b5U (K:List Fr) (st:St):Rn T ow k (.code .skip::K) st=Rn T ow k K st:=by rw [fh,b0r];rfl
theorem b4R (id:Nat) (K:List Fr) (st:St):Rn T ow k (.code (.exit id)::K) st=Unw T ow k id K st:=by rw [fh,a9E];rfl
theorem b8o (K:List Fr) (st:St):Rn T ow k (.code .ret::K) st=k .ret st:=by rw [fh,b5J];rfl
theorem c03 (a b:aQ) (K:List Fr) (st:St):Rn T ow k (.code (.seq a b)::K) st=Rn T ow k (.code a:: .code b::K) st:=by
 rw [fh,Ks,fh]
 cases ip T ow a st with
 |none=>rfl
 |some p=>
  obtain ⟨e,st'⟩:=p
  cases e with
  |normal=>simp only [goR];rw [fh];rfl
  |exit id=>rfl
  |ret=>rfl
theorem b0u (id:Nat) (c:aQ) (K:List Fr) (st:St):Rn T ow k (.code (.block id c)::K) st=Rn T ow k (.code c:: .blk id::K) st:=by
 rw [fh,Jn,fh]
 cases ip T ow c st with
 |none=>rfl
 |some p=>
  obtain ⟨e,st'⟩:=p
  cases e with
  |normal=>rfl
  |exit id'=>
   simp only [goR,Unw,Rn,ti]
   by_cases h:id'=id
   ·subst h;simp
   ·rw [aa h,aa (fun e=>h e.symm)]
  |ret=>rfl
noncomputable def b1E (T:Tab) (ow:ec) (k:bR->St->Option R) (a b:aQ) (K:List Fr) (st:St):V->Option R
 | .lit (.bool c)=>br c (Rn T ow k (.code a::K) st) (Rn T ow k (.code b::K) st)
 |_=>none
theorem b3f (c:Opd) (a b:aQ) (K:List Fr) (st:St):Rn T ow k (.code (.cond c a b)::K) st=b1E T ow k a b K st (st.ev c):=by
 rw [fh,a8U]
 unfold b1E
 split
 ·rename_i h;rw [h];exact (fh _ _ _).symm
 ·rename_i h;rw [h];exact (fh _ _ _).symm
 ·rename_i d e
  split
  ·rename_i c' h;cases c'
   ·exact absurd h e
   ·exact absurd h d
  ·rfl
theorem a4z (a b:aQ) (K:List Fr) (st:St) (c:Bool):b1E T ow k a b K st (.lit (.bool c))=br c (Rn T ow k (.code a::K) st) (Rn T ow k (.code b::K) st):=rfl
noncomputable def ghR (T:Tab) (ow:ec) (k:bR->St->Option R) (c:aQ) (K:List Fr):Option St->Option R
 |some st'=>Rn T ow k (.code c::K) st'
 |none=>none
theorem a9a (g:eU) (c:aQ) (K:List Fr) (st:St):Rn T ow k (.code (.ghost g c)::K) st=ghR T ow k c K (de st g):=by
 rw [fh,md]
 cases de st g with
 |none=>rfl
 |some st'=>simp only [ghR];rw [fh]
theorem b6t (c:aQ) (K:List Fr) (st:St):ghR T ow k c K (some st)=Rn T ow k (.code c::K) st:=rfl
theorem a42 (K:List Fr) (st:St):goR T ow k K (some (.normal,st))=Rn T ow k K st:=rfl
theorem b5s (id:Nat) (K:List Fr) (st:St):goR T ow k K (some (.exit id,st))=Unw T ow k id K st:=rfl
theorem b7g (K:List Fr) (st:St):goR T ow k K (some (.ret,st))=k .ret st:=rfl
theorem b8w (id:Nat) (st:St):Unw T ow k id [] st=k (.exit id) st:=rfl
theorem b4Y (id:Nat) (c:aQ) (K:List Fr) (st:St):Unw T ow k id (.code c::K) st=Unw T ow k id K st:=rfl
theorem b9D (id id':Nat) (K:List Fr) (st:St):Unw T ow k id (.blk id'::K) st=if id'=id then Rn T ow k K st else Unw T ow k id K st:=rfl
theorem a48 (n:Nat) (ss:List cn) (live:List Nat) (K:List Fr) (st:St):Rn T ow k (.code (.region n ss live)::K) st=Rn T ow k (.steps n ss live::K) st:=by
 rw [fh,Nx]
 unfold s5
 simp only [Rn,ti]
 cases jE (Call T ow) ow ss n st<;>rfl
theorem b0z (n:Nat) (ss:List cn) (deps:List (List Nat)) (live:List Nat) (K:List Fr) (st:St):Rn T ow k (.code (.drawn n ss deps live)::K) st=Rn T ow k (.dr n 0 ss deps live []::K) st:=by
 rw [fh,a4c]
 unfold Az
 simp only [Rn,ti]
 cases jx (Call T ow) ow n ss 0 st with
 |none=>rfl
 |some p=>
  obtain ⟨st',rs⟩:=p
  simp only [bg]
  cases qE deps (rs.filter Rec.loud)<;>rfl
theorem Vc (n:Nat) (live:List Nat) (K:List Fr) (st:St):Rn T ow k (.steps n [] live::K) st=Rn T ow k K (trim live st):=rfl
noncomputable def aft (T:Tab) (ow:ec) (k:bR->St->Option R) (d:Option Nat) (n:Nat) (ss:List cn) (live:List Nat) (K:List Fr) (st:St):Option (V×Upd)->Option R
 |some (v,u)=>Rn T ow k (.steps (n+1) ss live::K) ((st.upd u).put d v)
 |none=>none
variable {d:Option Nat} {n:Nat} {ss:List cn} {live:List Nat} {K:List Fr} {st:St}
theorem a92 (op:AOp):Rn T ow k (.steps n (⟨d,op,none⟩::ss) live::K) st=aft T ow k d n ss live K st (aM (Call T ow) ow op st.ev st.heap n):=by
 unfold aft
 simp only [Rn,ti,jE,Cm,St.want]
 cases aM (Call T ow) ow op st.ev st.heap n with
 |none=>rfl
 |some p=>obtain ⟨v,u⟩:=p;rfl
theorem b3w (v:V) (u:Upd):aft T ow k d n ss live K st (some (v,u))=Rn T ow k (.steps (n+1) ss live::K) ((st.upd u).put d v):=rfl
theorem b3n:aft T ow k d n ss live K st none=none:=rfl
theorem c4l (c:Bool) (x y:Option (V×Upd)):aft T ow k d n ss live K st (br c x y)=br c (aft T ow k d n ss live K st x) (aft T ow k d n ss live K st y):=by cases c<;>rfl
theorem b52 {α:Type} (x:Option α) (f:α->Option (V×Upd)):aft T ow k d n ss live K st (x.bind f)=x.bind (fun a=>aft T ow k d n ss live K st (f a)):=by cases x<;>rfl
noncomputable def gd (T:Tab) (ow:ec) (k:bR->St->Option R) (t:Nat) (b:Bool) (d:Option Nat) (op:AOp) (n:Nat) (ss:List cn) (live:List Nat) (K:List Fr) (st:St):V->Option R
 | .lit (.bool c)=>br (c==b) (Rn T ow k (.steps n (⟨d,op,none⟩::ss) live::K) { st with e:=j7 t (.lit (.bool c)) st.e })
  (Rn T ow k (.steps (n+1) ss live::K) ({ st with e:=j7 t (.lit (.bool c)) st.e }.put d (.lit (.tuple #[]))))
 | .lit (.tuple _)=>Rn T ow k (.steps (n+1) ss live::K) (st.put d (.lit (.tuple #[])))
 |_=>none
theorem Vm {α:Type}: ∀{l:List (Nat×α)} {t:Nat} {v:α},dP l t=some v->j7 t v l=l
 |[],_,_,h=>by simp [dP] at h
 | (j,u)::r,t,v,h=>by
   simp only [dP] at h
   simp only [j7]
   split at h
   ·rename_i e;cases h;subst e;simp
   ·rename_i e;rw [aa e,Vm h]
theorem a1C {v:V} {t:Nat} (h:st.get t=v) (b:v≠ .undef):({ st with e:=j7 t v st.e }:St)=st:=by
 unfold St.get at h
 cases a:dP st.e t with
 |none=>rw [a] at h;exact absurd h.symm b
 |some u=>
  rw [a] at h;cases h
  show ({ st with e:=j7 t u st.e }:St)=st
  rw [Vm a]
theorem a8r (t:Nat) (b:Bool) (op:AOp):Rn T ow k (.steps n (⟨d,op,some (t,b)⟩::ss) live::K) st=gd T ow k t b d op n ss live K st (st.get t):=by
 cases a:st.get t with
 |lit v=>
  cases v with
  |bool c=>
   simp only [gd]
   rw [a1C a (by simp)]
   simp only [Rn,ti,jE,Cm,St.want,a]
   cases e:(c==b)
   ·simp [ba,e]
   ·simp [cK,e]
  |tuple xs=>simp only [gd];simp only [Rn,ti,jE,Cm,St.want,a]
  |_=>simp only [gd];simp only [Rn,ti,jE,Cm,St.want,a]
 |_=>simp only [gd];simp only [Rn,ti,jE,Cm,St.want,a]
theorem c1r (t:Nat) (op:AOp) (c:Bool):gd T ow k t true d op n ss live K st (.lit (.bool c))=
 br c (Rn T ow k (.steps n (⟨d,op,none⟩::ss) live::K) { st with e:=j7 t (.lit (.bool true)) st.e })
  (Rn T ow k (.steps (n+1) ss live::K) ({ st with e:=j7 t (.lit (.bool false)) st.e }.put d (.lit (.tuple #[])))):=by cases c<;>rfl
theorem b6H (t:Nat) (op:AOp) (c:Bool):gd T ow k t false d op n ss live K st (.lit (.bool c))=
 br c (Rn T ow k (.steps (n+1) ss live::K) ({ st with e:=j7 t (.lit (.bool true)) st.e }.put d (.lit (.tuple #[]))))
  (Rn T ow k (.steps n (⟨d,op,none⟩::ss) live::K) { st with e:=j7 t (.lit (.bool false)) st.e }):=by cases c<;>rfl
theorem b4l (t:Nat) (b:Bool) (op:AOp) (xs:Array Value):gd T ow k t b d op n ss live K st (.lit (.tuple xs))=Rn T ow k (.steps (n+1) ss live::K) (st.put d (.lit (.tuple #[]))):=rfl
variable {base i:Nat} {deps:List (List Nat)} {rs:List Rec} {fp:List Nat}
def a9J (rs:List Rec) (i:Nat) (fp wr:List Nat):List Rec:=rs++[Rec.mk i fp wr].filter Rec.loud
theorem a41:Rn T ow k (.dr base i [] deps live rs::K) st=br (qE deps rs) (Rn T ow k K (trim live st)) none:=by
 simp only [Rn,ti,jx,ph,bU]
noncomputable def Om (T:Tab) (ow:ec) (k:bR->St->Option R) (d:Option Nat) (base i:Nat) (ss:List cn) (deps:List (List Nat)) (live:List Nat) (rs:List Rec) (K:List Fr) (st:St) (fp:List Nat):Option (V×Upd)->Option R
 |some (v,u)=>br ((u.map (·.1)).all (fun b=>decide (b∈fp)||(st.heap b).isNone))
  (Rn T ow k (.dr base (i+1) ss deps live (a9J rs i fp (u.map (·.1)))::K) ((st.upd u).put d v)) none
 |none=>none
theorem c5j (op:AOp):Rn T ow k (.dr base i (⟨d,op,none⟩::ss) deps live rs::K) st=
 Om T ow k d base i ss deps live rs K st (im ow op st.ev st.heap) (aM (Call T ow) ow op st.ev (sj st.heap (im ow op st.ev st.heap)) (base+i)):=by
 unfold Om
 simp only [Rn,ti,jx,yb,St.want]
 cases a:aM (Call T ow) ow op st.ev (sj st.heap (im ow op st.ev st.heap)) (base+i) with
 |none=>rfl
 |some p=>
  obtain ⟨v,u⟩:=p
  dsimp only
  by_cases hc:(u.map (·.1)).all (fun b=>decide (b∈im ow op st.ev st.heap)||(st.heap b).isNone)=true
  ·rw [hc,cK,ae rfl]
   dsimp only
   cases jx (Call T ow) ow base ss (i+1) ((st.upd u).put d v) with
   |none=>rfl
   |some q=>
    obtain ⟨st2,rs2⟩:=q
    simp only [a9J,kh,ph,aV]
    cases Rec.loud ⟨i,im ow op st.ev st.heap,u.map (·.1)⟩<;>rfl
  ·rw [Bool.not_eq_true] at hc
   rw [hc,ba,aa (by decide)]
theorem a8d (v:V) (u:Upd):Om T ow k d base i ss deps live rs K st fp (some (v,u))=br ((u.map (·.1)).all (fun b=>decide (b∈fp)||(st.heap b).isNone))
 (Rn T ow k (.dr base (i+1) ss deps live (a9J rs i fp (u.map (·.1)))::K) ((st.upd u).put d v)) none:=rfl
theorem a4u (v:V):Om T ow k d base i ss deps live rs K st fp (some (v,[]))=Rn T ow k (.dr base (i+1) ss deps live (a9J rs i fp [])::K) (st.put d v):=rfl
theorem a9u:Om T ow k d base i ss deps live rs K st fp none=none:=rfl
theorem b7P (c:Bool) (x y:Option (V×Upd)):Om T ow k d base i ss deps live rs K st fp (br c x y)=br c (Om T ow k d base i ss deps live rs K st fp x) (Om T ow k d base i ss deps live rs K st fp y):=by cases c<;>rfl
theorem a9Z {α:Type} (x:Option α) (f:α->Option (V×Upd)):Om T ow k d base i ss deps live rs K st fp (x.bind f)=x.bind (fun a=>Om T ow k d base i ss deps live rs K st fp (f a)):=by cases x<;>rfl
noncomputable def gdD (T:Tab) (ow:ec) (k:bR->St->Option R) (t:Nat) (b:Bool) (d:Option Nat) (op:AOp) (base i:Nat) (ss:List cn) (deps:List (List Nat)) (live:List Nat) (rs:List Rec) (K:List Fr) (st:St):V->Option R
 | .lit (.bool c)=>br (c==b) (Rn T ow k (.dr base i (⟨d,op,none⟩::ss) deps live rs::K) { st with e:=j7 t (.lit (.bool c)) st.e })
  (Rn T ow k (.dr base (i+1) ss deps live rs::K) ({ st with e:=j7 t (.lit (.bool c)) st.e }.put d (.lit (.tuple #[]))))
 | .lit (.tuple _)=>Rn T ow k (.dr base (i+1) ss deps live rs::K) (st.put d (.lit (.tuple #[])))
 |_=>none
theorem a6J (op:AOp) (g:Nat×Bool) (h:st.want (some g)=some false):Rn T ow k (.dr base i (⟨d,op,some g⟩::ss) deps live rs::K) st=Rn T ow k (.dr base (i+1) ss deps live rs::K) (st.put d (.lit (.tuple #[]))):=by
 simp only [Rn,ti,jx,yb,h]
 cases jx (Call T ow) ow base ss (i+1) (st.put d (.lit (.tuple #[]))) with
 |none=>rfl
 |some q=>obtain ⟨st2,rs2⟩:=q;rfl
theorem c7k (op:AOp) (g:Nat×Bool) (h:st.want (some g)=some true):Rn T ow k (.dr base i (⟨d,op,some g⟩::ss) deps live rs::K) st=Rn T ow k (.dr base i (⟨d,op,none⟩::ss) deps live rs::K) st:=by
 have a:st.want none=some true:=rfl
 simp only [Rn,ti,jx,yb,h,a]
theorem a6L (op:AOp) (g:Nat×Bool) (h:st.want (some g)=none):Rn T ow k (.dr base i (⟨d,op,some g⟩::ss) deps live rs::K) st=none:=by
 simp only [Rn,ti,jx,yb,h]
theorem WG (t:Nat) (b:Bool) (op:AOp):Rn T ow k (.dr base i (⟨d,op,some (t,b)⟩::ss) deps live rs::K) st=gdD T ow k t b d op base i ss deps live rs K st (st.get t):=by
 cases a:st.get t with
 |lit v=>
  cases v with
  |bool c=>
   simp only [gdD]
   rw [a1C a (by simp)]
   cases e:(c==b)
   ·rw [ba];exact a6J op (t,b) (by simp [St.want,a,e])
   ·rw [cK];exact c7k op (t,b) (by simp [St.want,a,e])
  |tuple xs=>exact a6J op (t,b) (by simp [St.want,a])
  |_=>exact a6L op (t,b) (by simp [St.want,a])
 |_=>exact a6L op (t,b) (by simp [St.want,a])
theorem b5Q (t:Nat) (op:AOp) (c:Bool):gdD T ow k t true d op base i ss deps live rs K st (.lit (.bool c))=
 br c (Rn T ow k (.dr base i (⟨d,op,none⟩::ss) deps live rs::K) { st with e:=j7 t (.lit (.bool true)) st.e })
  (Rn T ow k (.dr base (i+1) ss deps live rs::K) ({ st with e:=j7 t (.lit (.bool false)) st.e }.put d (.lit (.tuple #[])))):=by cases c<;>rfl
theorem a8X (t:Nat) (op:AOp) (c:Bool):gdD T ow k t false d op base i ss deps live rs K st (.lit (.bool c))=
 br c (Rn T ow k (.dr base (i+1) ss deps live rs::K) ({ st with e:=j7 t (.lit (.bool true)) st.e }.put d (.lit (.tuple #[]))))
  (Rn T ow k (.dr base i (⟨d,op,none⟩::ss) deps live rs::K) { st with e:=j7 t (.lit (.bool false)) st.e }):=by cases c<;>rfl
theorem a9c (t:Nat) (b:Bool) (op:AOp) (xs:Array Value):gdD T ow k t b d op base i ss deps live rs K st (.lit (.tuple xs))=Rn T ow k (.dr base (i+1) ss deps live rs::K) (st.put d (.lit (.tuple #[]))):=rfl
end
def a5I (af:aJ) (m:Nat) (x:bR) (st:St):Option (V×List Blk):=a1v af (kK af m (some (x,st)))
theorem aj {T:Tab} {ow:ec} {f:FuncId} {af:aJ} (c:T f=some (.code af)) (a:List V) (b:List Blk):Call T ow f a b=Rn T ow (a5I af b.length) [.code af.body] (start a b):=by
 rw [a6D,c]
 dsimp only
 rw [fh]
 cases ip T ow af.body (start a b) with
 |none=>rfl
 |some p=>obtain ⟨e,st⟩:=p;cases e<;>rfl
def L1 {S E:Type} (step:S->Option (S⊕E)):Nat->S->Option E
 |0,_=>none
 |n+1,s=>match step s with
  |none=>none
  |some (.inl s')=>L1 step n s'
  |some (.inr e)=>some e
theorem Vk {S E:Type} {step:S->Option (S⊕E)}: ∀{n:Nat} {s:S} {e:E},L1 step n s=some e->L1 step (n+1) s=some e
 |0,_,_,h=>by cases h
 |n+1,s,e,h=>by
  simp only [L1] at h ⊢
  split at h
  ·cases h
  ·rename_i s' a;exact Vk h
  ·rename_i e' a;exact h
theorem b9Z {S E:Type} {step:S->Option (S⊕E)} {n m:Nat} (a:n<=m) {s:S} {e:E} (h:L1 step n s=some e):L1 step m s=some e:=by
 induction a with
 |refl=>exact h
 |step _ ih=>exact Vk ih
noncomputable def Loop {S E:Type} (step:S->Option (S⊕E)) (s:S):Option E:=lim (fun n=>L1 step n s)
theorem XV {S E:Type} {step:S->Option (S⊕E)} {s:S} {e:E} (h:Loop step s=some e): ∃n,L1 step n s=some e:=a5X h
theorem Ya {S E:Type} {step:S->Option (S⊕E)} {n:Nat} {s:S} {e:E} (h:L1 step n s=some e):Loop step s=some e:=
 a5Y (g:=fun n=>L1 step n s) (fun _ _ _ a h=>b9Z a h) h
def a7a {S E:Type} (lp:S->Option E):Option (S⊕E)->Option E
 |none=>none
 |some (.inl s')=>lp s'
 |some (.inr e)=>some e
theorem Hj {S E:Type} (step:S->Option (S⊕E)) (s:S):Loop step s=a7a (Loop step) (step s):=by
 refine xe (fun r h=> ?_) (fun r h=> ?_)
 ·obtain ⟨n,hn⟩:=XV h
  cases n with
  |zero=>cases hn
  |succ n=>
   simp only [L1] at hn
   split at hn
   ·cases hn
   ·rename_i s' a;rw [a];exact Ya hn
   ·rename_i e' a;rw [a];exact hn
 ·cases a:step s with
  |none=>rw [a] at h;cases h
  |some o=>
   rw [a] at h
   cases o with
   |inl s'=>
    obtain ⟨n,hn⟩:=XV (show Loop step s'=some r from h)
    exact Ya (n:=n+1) (by simp only [L1,a];exact hn)
   |inr e=>exact Ya (n:=1) (by simp only [L1,a];exact h)
def c8N (x:bR) (st:St):Option (bR×St):=some (x,st)
def pO (g:eU):aQ->aQ
 | .seq a b=> .seq (pO g a) b
 | .block id a=> .block id (pO g a)
 |c=> .ghost g c
section
variable {R:Type} {T:Tab} {ow:ec} {k:bR->St->Option R}
def ghE (T:Tab) (ow:ec) (c:aQ):Option St->Option (bR×St)->Option (bR×St)
 |some _,r=>r
 |none,_=>none
theorem Mk (g:eU): ∀(c:aQ) (st:St),ip T ow (pO g c) st=(match de st g with
 |some st'=>ip T ow c st'
 |none=>none)
 | .seq a b,st=>by
   simp only [pO]
   rw [Ks,Mk g a st]
   cases de st g with
   |none=>rfl
   |some st'=>dsimp only;rw [Ks]
 | .block id a,st=>by
   simp only [pO]
   rw [Jn,Mk g a st]
   cases de st g with
   |none=>rfl
   |some st'=>dsimp only;rw [Jn]
 | .skip,st=>md _ _ _
 | .region _ _ _,st=>md _ _ _
 | .drawn _ _ _ _,st=>md _ _ _
 | .cond _ _ _,st=>md _ _ _
 | .loop _,st=>md _ _ _
 | .exit _,st=>md _ _ _
 | .ret,st=>md _ _ _
 | .ghost _ _,st=>md _ _ _
noncomputable def FM (T:Tab) (ow:ec) (g:eU) (c:aQ) (st:St):Option (bR×St):=match ip T ow c st with
 |some (.normal,st')=>ip T ow (.loop (pO g c)) st'
 |r=>r
noncomputable def goL (T:Tab) (ow:ec) (k:bR->St->Option R) (K:List Fr) (g:eU) (c:aQ):Option St->Option R
 |some st'=>goR T ow k K (FM T ow g c st')
 |none=>none
theorem RM (g:eU) (c:aQ) (st:St):ip T ow (.loop (pO g c)) st=(match de st g with
 |some st'=>FM T ow g c st'
 |none=>none):=by
 rw [b0V,Mk]
 cases de st g<;>rfl
theorem b1a (g:eU) (c:aQ) (K:List Fr) (st:St):Rn T ow k (.code (.loop (pO g c))::K) st=goL T ow k K g c (de st g):=by
 rw [fh,RM]
 cases de st g<;>rfl
theorem b2J (K:List Fr) (g:eU) (c:aQ) (st':St):goL T ow k K g c (some st')=goR T ow k K (FM T ow g c st'):=rfl
def ogM:Option St->Option (bR×St)
 |some st=>some (.normal,st)
 |none=>none
def UT (g:eU):bR->St->Option (bR×St)
 | .normal,st=>ogM (de st g)
 |x,st=>some (x,st)
theorem a1B (g:eU) (st:St):UT g .normal st=ogM (de st g):=rfl
theorem b1i (g:eU) (id:Nat) (st:St):UT g (.exit id) st=some (.exit id,st):=rfl
theorem b4i (g:eU) (st:St):UT g .ret st=some (.ret,st):=rfl
theorem b2E (st:St):ogM (some st)=some (.normal,st):=rfl
theorem a8c {S E:Type} {g:eU} {c:aQ} {step:S->Option (S⊕E)} {eS:S->St} {eE:E->bR×St} (i: ∀e,(eE e).1≠ .normal)
 (k: ∀s o,step s=some o->Rn T ow (UT g) [.code c] (eS s)=some (match o with
  | .inl s'=>(.normal,eS s')
  | .inr e=>eE e)) {s:S} {e:E} (h:Loop step s=some e):FM T ow g c (eS s)=some (eE e):=by
 obtain ⟨n,hn⟩:=XV h
 clear h
 induction n generalizing s with
 |zero=>cases hn
 |succ n ih=>
  simp only [L1] at hn
  unfold FM
  split at hn
  ·cases hn
  ·rename_i s' j
   have a:=k s _ j
   rw [fh] at a
   cases d:ip T ow c (eS s) with
   |none=>rw [d] at a;cases a
   |some p=>
    obtain ⟨x,st'⟩:=p
    rw [d] at a
    cases x with
    |normal=>
     dsimp only
     rw [RM]
     simp only [goR,Rn,ti,UT,ogM] at a
     cases f:de st' g with
     |none=>rw [f] at a;cases a
     |some st2=>rw [f] at a;cases a;exact ih hn
    |exit id=>simp [goR,Unw,ti,UT] at a
    |ret=>simp [goR,UT] at a
  ·rename_i e' j
   have a:=k s _ j
   cases hn
   have b:=i e
   rw [fh] at a
   dsimp only at a
   revert a b
   generalize eE e=q
   intro a b
   cases d:ip T ow c (eS s) with
   |none=>rw [d] at a;cases a
   |some p=>
    obtain ⟨x,st'⟩:=p
    rw [d] at a
    cases x with
    |normal=>
     simp only [goR,Rn,ti,UT,ogM] at a
     cases f:de st' g with
     |none=>rw [f] at a;cases a
     |some st2=>rw [f] at a;cases a;exact absurd rfl b
    |exit id=>exact a
    |ret=>exact a
variable {d:Option Nat} {n:Nat} {ss:List cn} {live:List Nat} {K:List Fr} {st:St} {base i:Nat} {deps:List (List Nat)} {rs:List Rec} {fp:List Nat} {r:R}
theorem JI {x:Option (bR×St)} {p:bR×St} (h:x=some p) (a:goR T ow k K (some p)=some r):goR T ow k K x=some r:=by rw [h];exact a
theorem a9f (g:eU) (c:aQ):goR T ow k K (FM T ow g c st)=Rn T ow k (.code c:: .code (.loop (pO g c))::K) st:=by
 rw [fh]
 unfold FM
 cases a:ip T ow c st with
 |none=>rfl
 |some p=>
  obtain ⟨x,st'⟩:=p
  cases x with
  |normal=>dsimp only;simp only [goR];rw [fh];rfl
  |exit id=>rfl
  |ret=>rfl
theorem k8 {g:eU} {c:aQ} (h:Rn T ow k (.code c:: .code (.loop (pO g c))::K) st=some r):goR T ow k K (FM T ow g c st)=some r:=by rw [a9f];exact h
theorem bind_some {α β:Type} {x:Option α} {a:α} {F:α->Option β} {r:β} (h:x=some a) (b:F a=some r):x.bind F=some r:=by rw [h];exact b
end
end
section
abbrev I (n:Int):V:= .lit (.int .i64 n)
abbrev B (b:Bool):V:= .lit (.bool b)
abbrev S (s:List UInt8):V:= .lit (.string ⟨⟨s⟩⟩)
structure En (α:Type) where
 esz:Nat
 enc:α->List V
def rws {α:Type} (e:En α) (l:List α):List (List V):=l.map e.enc
def sl {α:Type} (e:En α) (l:List α):V:=(V.imm e.esz (rws e l)).cz
theorem c2W {α:Type} (e:En α):sl e []= .imm 1 []:=rfl
def eI:En Int:=⟨1,fun n=>[I n]⟩
def eU8:En UInt8:=⟨1,fun b=>[.lit (.int .u8 b.toNat)]⟩
def a2M:En Int:=⟨1,fun n=>[.lit (.int .u64 n)]⟩
def eB:En Bool:=⟨1,fun b=>[B b]⟩
def eS:En (List UInt8):=⟨1,fun s=>[S s]⟩
def eL {α:Type} (e:En α):En (List α):=⟨1,fun l=>[sl e l]⟩
theorem c3v:eI.esz=1:=by decide
theorem c3U (n:Int):eI.enc n=[I n]:=rfl
theorem b89:eU8.esz=1:=by decide
theorem c1H (n:UInt8):eU8.enc n=[.lit (.int .u8 n.toNat)]:=rfl
theorem b5h:a2M.esz=1:=by decide
theorem b4Q (n:Int):a2M.enc n=[.lit (.int .u64 n)]:=rfl
theorem c4N:eB.esz=1:=by decide
theorem c3V (n:Bool):eB.enc n=[B n]:=rfl
theorem c6j:eS.esz=1:=by decide
theorem c2B (n:List UInt8):eS.enc n=[S n]:=rfl
theorem c53 {α:Type} (e:En α):(eL e).esz=1:=jN rfl
theorem c4A {α:Type} (e:En α) (l:List α):(eL e).enc l=[sl e l]:=rfl
def atL {α:Type} (l:List α) (i:Int):Option α:=if 0<=i then l[i.toNat]? else none
def lr {α:Type} (l:List α) (a b:Int):Option (List α):=if 0<=a/\a<=b/\b<=l.length then some ((l.take b.toNat).drop a.toNat) else none
def inb (i:Int) (n:Nat):Bool:=decide (0<=i)&&decide (i.toNat<n)
def cP (n bytes:Nat):Bool:=decide (n*bytes<=cX)
def zf (l c:Int) (bytes:Nat):Bool:=decide (0<=l)&&decide (l<=c)&&decide (c*bytes<=cX)
def mx (a b:Int):Int:=if b>a then b else a
def mn (a b:Int):Int:=if b<a then b else a
def a7v (r:List (List V)):Nat:=r.length
def app (r q:List (List V)):List (List V):=r++q
def mkR (n:Nat) (r:List (List V)):List (List V):=r
def dj (row:List V) (r:List (List V)):List (List V):=row::r
def Bi (n k:Nat) (row:List V):List (List V):=List.replicate k row
def i4 (r:List (List V)) (i:Nat) (row:List V):List (List V):=r.set i row
section
variable {α:Type} {e:En α} {l l2:List α}
theorem b01:a7v (rws e l)=l.length:=by simp [a7v,rws]
theorem c0E:app (rws e l) (rws e l2)=rws e (l++l2):=by simp [app,rws]
theorem mk0 (e:En α) (n:Nat):mkR n []=rws e []:=rfl
theorem b54 (n:Nat) (row:List V) (r:List (List V)):mkR n (row::r)=dj row (mkR n r):=rfl
theorem c7I (a:Int) (l:List Int):dj [I a] (rws eI l)=rws eI (a::l):=rfl
theorem c6F (a:List UInt8) (l:List (List UInt8)):dj [S a] (rws eS l)=rws eS (a::l):=rfl
theorem c7U (a:List α) (l:List (List α)):dj [sl e a] (rws (eL e) l)=rws (eL e) (a::l):=rfl
theorem c2M (l:List (List α)):dj [.imm 1 []] (rws (eL e) l)=rws (eL e) ([]::l):=rfl
theorem c7z (b:Bool) (l:List Bool):dj [B b] (rws eB l)=rws eB (b::l):=rfl
theorem b7C (a:Int) (l:List Int):dj [.lit (.int .u64 a)] (rws a2M l)=rws a2M (a::l):=rfl
theorem b4A (b:UInt8) (l:List UInt8):dj [.lit (.int .u8 b.toNat)] (rws eU8 l)=rws eU8 (b::l):=rfl
theorem ua (x:Int):((UInt8.ofInt x).toNat:Int)=IntKind.u8.wrap x:=by
 simp [UInt8.ofInt,IntKind.wrap,IntKind.bits,IntKind.signed]
 omega
theorem L9 (x:Int) (l:List UInt8):dj [.lit (.int .u8 (IntKind.u8.wrap x))] (rws eU8 l)=rws eU8 (UInt8.ofInt x::l):=by
 rw [<-ua];rfl
theorem b8a (n:Nat) (h:Nat.ble n 255=true) (l:List UInt8):dj [.lit (.int .u8 (no_index (OfNat.ofNat n:Int)))] (rws eU8 l)=rws eU8 ((OfNat.ofNat n:UInt8)::l):=by
 have h':=cD h
 have:((OfNat.ofNat n:UInt8).toNat:Int)=(OfNat.ofNat n:Int):=by
  show ((UInt8.ofNat n).toNat:Int)=(n:Int)
  simp;omega
 rw [<-b4A,this]
theorem c8p (l:List Int) (i:Nat) (a:Int):i4 (rws eI l) i [I a]=rws eI (l.set i a):=by simp [i4,rws,eI]
theorem c5A (l:List Int) (i:Nat) (a:Int):i4 (rws a2M l) i [.lit (.int .u64 a)]=rws a2M (l.set i a):=by simp [i4,rws,a2M]
theorem setB (l:List Bool) (i:Nat) (a:Bool):i4 (rws eB l) i [B a]=rws eB (l.set i a):=by simp [i4,rws,eB]
theorem c3l (l:List (List UInt8)) (i:Nat) (a:List UInt8):i4 (rws eS l) i [S a]=rws eS (l.set i a):=by simp [i4,rws,eS]
theorem c8L (l:List (List α)) (i:Nat) (a:List α):i4 (rws (eL e) l) i [sl e a]=rws (eL e) (l.set i a):=by simp [i4,rws,eL]
theorem c1P (l:List UInt8) (i:Nat) (a:UInt8):i4 (rws eU8 l) i [.lit (.int .u8 a.toNat)]=rws eU8 (l.set i a):=by simp [i4,rws,eU8]
theorem QQ (l:List UInt8) (i:Nat) (x:Int):i4 (rws eU8 l) i [.lit (.int .u8 (IntKind.u8.wrap x))]=rws eU8 (l.set i (UInt8.ofInt x)):=by
 rw [<-ua,c1P]
theorem MD (e:En α) (x:α) (n k:Nat):Bi n k (e.enc x)=rws e (List.replicate k x):=by simp [Bi,rws]
theorem c62 (m:Nat) (h:e.esz=m):V.cz (.imm m (rws e l))=sl e l:=by subst h;rfl
theorem c80 (r:List (List V)):r.drop 0=r:=rfl
theorem l6 (e:En α) (l:List α):(l=[]/\sl e l= .imm 1 [])\/(l≠[]/\sl e l= .imm e.esz (rws e l)):=by
 cases l with
 |nil=>exact .inl ⟨rfl,rfl⟩
 |cons x l=>exact .inr ⟨by simp,rfl⟩
theorem c71:(sl e l).cz=sl e l:=by
 cases l with
 |nil=>rfl
 |cons x l=>rfl
theorem c5b:(sl e l).czA=sl e l:=by
 cases l with
 |nil=>rfl
 |cons x l=>rfl
theorem c6m:(sl e l).czR=sl e l:=by
 cases l with
 |nil=>rfl
 |cons x l=>rfl
theorem b8q:(sl e l).cell=true:=by
 rcases l6 e l with ⟨_,h⟩|⟨_,h⟩<;>rw [h]<;>rfl
theorem c6R:(sl e l).cl=true:=by
 rcases l6 e l with ⟨_,h⟩|⟨_,h⟩<;>rw [h]<;>rfl
theorem b3c:(sl e l).cells=[sl e l]:=by
 rcases l6 e l with ⟨_,h⟩|⟨_,h⟩<;>rw [h]<;>rfl
theorem b9H:gN (sl e l)=[]:=by
 rcases l6 e l with ⟨_,h⟩|⟨_,h⟩<;>rw [h]<;>rfl
theorem c0a:rF (sl e l)=[]:=by
 rcases l6 e l with ⟨_,h⟩|⟨_,h⟩<;>rw [h]<;>rfl
theorem a6A {h:b8}:pi h (sl e l)=some (sl e l,[]):=by
 rcases l6 e l with ⟨_,h⟩|⟨_,h⟩<;>rw [h]<;>rfl
theorem a5m {h:b8} {own:Bool} {ids:List Nat}:dv h own ids (sl e l)=some (sl e l,ids,[]):=by
 rcases l6 e l with ⟨_,h⟩|⟨_,h⟩<;>rw [h]<;>rfl
theorem b0C {h:b8} {own:Bool} {ids:List Nat}:fm h own ids (sl e l)=some (sl e l,ids,[]):=by
 rcases l6 e l with ⟨_,h⟩|⟨_,h⟩<;>rw [h]<;>rfl
theorem c6f {ids:List Nat}:unV ids (sl e l)=sl e l:=by
 rcases l6 e l with ⟨_,h⟩|⟨_,h⟩<;>rw [h]<;>rfl
theorem b49 {ids:List Nat}:mG ids (sl e l)=sl e l:=by
 rcases l6 e l with ⟨_,h⟩|⟨_,h⟩<;>rw [h]<;>rfl
theorem b5X {ids:List Nat}:Bo ids (sl e l)=sl e l:=by
 rcases l6 e l with ⟨_,h⟩|⟨_,h⟩<;>rw [h]<;>rfl
theorem b3x:pC (sl e l)=false:=by
 rcases l6 e l with ⟨_,h⟩|⟨_,h⟩<;>rw [h]<;>rfl
theorem b6z:Et (sl e l)=false:=by
 rcases l6 e l with ⟨_,h⟩|⟨_,h⟩<;>rw [h]<;>rfl
theorem b3S:sQ (sl e l)=false:=by
 rcases l6 e l with ⟨_,h⟩|⟨_,h⟩<;>rw [h]<;>rfl
theorem c3r {h:b8} {bs:List Nat}:fzC h bs (sl e l)=sl e l:=by
 rcases l6 e l with ⟨_,h⟩|⟨_,h⟩<;>rw [h]<;>rfl
theorem c4R {h:b8} {bs:List Nat}:fzA h bs (sl e l)=sl e l:=by
 rcases l6 e l with ⟨_,h⟩|⟨_,h⟩<;>rw [h]<;>rfl
theorem c1w {h:b8} {m:Nat} {kp:List Nat}:pK h m kp (sl e l)=some (sl e l):=by
 rcases l6 e l with ⟨_,h⟩|⟨_,h⟩<;>rw [h]<;>rfl
theorem b8S {h:b8} {m:Nat} {kp:List Nat}:ES h m kp (sl e l)=some (sl e l):=by
 rcases l6 e l with ⟨_,h⟩|⟨_,h⟩<;>rw [h]<;>rfl
theorem c1e {h:b8} {m:Nat} {kp:List Nat}:Hw h m kp (sl e l)=some (sl e l):=by
 rcases l6 e l with ⟨_,h⟩|⟨_,h⟩<;>rw [h]<;>rfl
theorem c3E:okC (sl e l)=true:=by
 rcases l6 e l with ⟨_,h⟩|⟨_,h⟩<;>rw [h]<;>rfl
theorem VU {h:b8} (m:Nat) (a:e.esz=m):ed h m (sl e l)=some (rws e l):=by
 subst a
 rcases l6 e l with ⟨rfl,h⟩|⟨b,h⟩
 ·rw [h];simp [ed,rws]
 ·rw [h];simp [ed]
theorem a3n:a6M (sl e l)=false:=by
 rcases l6 e l with ⟨_,h⟩|⟨_,h⟩<;>rw [h]<;>rfl
end
end
end Go.AI
