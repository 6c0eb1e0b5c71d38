/- Part. -/
import Derived.Test.YtdnkignjanfikaaGreatAiDefs
namespace Go.AI
section
theorem N1 {C C':ce} (i: ∀f a b r,C f a b=some r->C' f a b=some r) {ow:ec} {h:b8} {new:Nat} {f:FuncId} {args:List V} {r:V×Upd}
 (c:nR C ow h new f args=some r):nR C' ow h new f args=some r:=by
 unfold nR at c ⊢
 cases e:fi ow h f args with
 |none=>rw [e] at c;cases c
 |some p=>
  obtain ⟨args',blks,ids,bor⟩:=p
  rw [e] at c
  dsimp only at c ⊢
  cases d:C f (u5 (ow f) args') (uR (ow f) blks) with
  |none=>rw [d] at c;cases c
  |some q=>rw [i _ _ _ _ d];rw [d] at c;exact c
theorem Sf {C C':ce} (d: ∀f a b r,C f a b=some r->C' f a b=some r) {ow:ec} {o:AOp} {ev:Opd->V} {h:b8} {new:Nat} {r:V×Upd}
 (c:aM C ow o ev h new=some r):aM C' ow o ev h new=some r:=by
 cases o
 case call f args=>simp only [aM] at c ⊢;exact N1 d c
 case dyn f args=>
  simp only [aM] at c ⊢
  split at c
  ·exact N1 d c
  ·cases c
 all_goals exact c
theorem VK {C:Nat->ce} {D:ce} (j: ∀f a b r,D f a b=some r-> ∃n,C n f a b=some r) (k:Nat) {ow:ec} {o:AOp} {ev:Opd->V} {h:b8} {new:Nat} {r:V×Upd}
 (c:aM D ow o ev h new=some r): ∃n,aM (C n) ow o ev h new=some r:=by
 i key: ∀f args,nR D ow h new f args=some r-> ∃n,nR (C n) ow h new f args=some r:=by
   intro f args c
   unfold nR at c
   cases d:fi ow h f args with
   |none=>rw [d] at c;cases c
   |some p=>
    obtain ⟨args',blks,ids,bor⟩:=p
    rw [d] at c
    dsimp only at c
    cases e:D f (u5 (ow f) args') (uR (ow f) blks) with
    |none=>rw [e] at c;cases c
    |some q=>
     rw [e] at c
     obtain ⟨n,l⟩:=j _ _ _ _ e
     refine ⟨n, ?_⟩
     unfold nR
     rw [d]
     dsimp only
     rw [l]
     exact c
 cases o
 case call f args=>simp only [aM] at c ⊢;exact key _ _ c
 case dyn f args=>
  simp only [aM] at c ⊢
  split at c
  ·exact key _ _ c
  ·cases c
 all_goals exact ⟨k,c⟩
theorem Rd {C C':ce} (d: ∀f a b r,C f a b=some r->C' f a b=some r) {ow:ec} {st:St} {s:cn} {n:Nat} {r:St}
 (c:BS C ow st s n=some r):BS C' ow st s n=some r:=by
 unfold BS at c ⊢
 split at c
 ·cases c
 ·exact c
 ·split at c
  ·rename_i v u e;rw [Sf d e];exact c
  ·cases c
theorem vG {C C':ce} (d: ∀f a b r,C f a b=some r->C' f a b=some r) {ow:ec}: ∀{l:List cn} {n:Nat} {st:St} {r:St},
 jH C ow l n st=some r->jH C' ow l n st=some r
 |[],_,_,_,c=>c
 |s::l,n,st,r,c=>by
  simp only [jH] at c ⊢
  split at c
  ·rename_i st' h;rw [Rd d h];exact vG d c
  ·cases c
theorem Qq {C C':ce} (d: ∀f a b r,C f a b=some r->C' f a b=some r) {ow:ec} {st:St} {s:cn} {i n:Nat} {r:St×Rec}
 (c:z6 C ow st s i n=some r):z6 C' ow st s i n=some r:=by
 unfold z6 at c ⊢
 split at c
 ·cases c
 ·exact c
 ·split at c
  ·rename_i v u e;rw [Sf d e];exact c
  ·cases c
theorem vR {C C':ce} (d: ∀f a b r,C f a b=some r->C' f a b=some r) {ow:ec} {base:Nat}: ∀{l:List cn} {n:Nat} {st:St} {r:St×List Rec},
 jD C ow base l n st=some r->jD C' ow base l n st=some r
 |[],_,_,_,c=>c
 |s::l,n,st,r,c=>by
  simp only [jD] at c ⊢
  split at c
  ·rename_i st' rc h
   rw [Qq d h]
   dsimp only
   split at c
   ·rename_i st2 rs e;rw [vR d e];exact c
   ·cases c
  ·cases c
theorem dH {C C':ce} (j: ∀f a b r,C f a b=some r->C' f a b=some r) {ow:ec}: ∀(n m:Nat),n<=m-> ∀{c:aQ} {st:St} {r:bR×St},
 dh C ow n c st=some r->dh C' ow m c st=some r
 |0,_,_,_,_,_,d=>by simp [dh] at d
 |n+1,0,h,_,_,_,_=>absurd h (by omega)
 |n+1,m+1,h,c,st,r,d=>by
  k ih:=fun {c st r}=>dH j (ow:=ow) n m (by omega) (c:=c) (st:=st) (r:=r)
  cases c with
  |skip=>exact d
  |region base steps live=>
   simp only [dh,sE] at d ⊢
   split at d
   ·rename_i st' h;rw [vG j h];exact d
   ·cases d
  |drawn base steps deps live=>
   simp only [dh,B8] at d ⊢
   split at d
   ·rename_i st' rs h;rw [vR j h];exact d
   ·cases d
  |seq a b=>
   simp only [dh] at d ⊢
   cases i:dh C ow n a st with
   |none=>rw [i] at d;cases d
   |some p=>
    obtain ⟨e,st'⟩:=p
    rw [ih i]
    rw [i] at d
    cases e with
    |normal=>exact ih d
    |exit id=>exact d
    |ret=>exact d
  |cond c a b=>
   simp only [dh] at d ⊢
   split at d
   ·exact ih d
   ·exact ih d
   ·cases d
  |block id c=>
   simp only [dh] at d ⊢
   cases i:dh C ow n c st with
   |none=>rw [i] at d;cases d
   |some p=>rw [ih i];rw [i] at d;exact d
  |loop c=>
   simp only [dh] at d ⊢
   cases i:dh C ow n c st with
   |none=>rw [i] at d;cases d
   |some p=>
    obtain ⟨e,st'⟩:=p
    rw [ih i]
    rw [i] at d
    cases e with
    |normal=>exact ih d
    |exit id=>exact d
    |ret=>exact d
  |exit id=>exact d
  |ret=>exact d
  |ghost g c=>
   simp only [dh] at d ⊢
   split at d
   ·exact ih d
   ·cases d
theorem RI (T:Tab) (ow:ec): ∀(n:Nat) f a b r,fh T ow n f a b=some r->fh T ow (n+1) f a b=some r
 |0,_,_,_,_,h=>by simp [fh] at h
 |n+1,f,a,b,r,h=>by
  simp only [fh] at h ⊢
  split at h
  ·cases h
  rotate_left
  ·exact h
  ·rename_i af e
   cases c:dh (fh T ow n) ow n af.body (start a b) with
   |none=>rw [c] at h;simp [kG,a1L] at h
   |some p=>
    d:=dH (RI T ow n) (ow:=ow) n (n+1) (by omega) c
    simp only [fh] at this
    rw [this]
    rw [c] at h
    exact h
theorem dG (T:Tab) (ow:ec) {n m:Nat} (h:n<=m): ∀f a b r,fh T ow n f a b=some r->fh T ow m f a b=some r:=by
 induction h with
 |refl=>exact fun _ _ _ _ h=>h
 |step _ ih=>exact fun f a b r h=>RI T ow _ f a b r (ih f a b r h)
open Classical in
noncomputable def lim {α:Type} (g:Nat->Option α):Option α:=if h: ∃n r,g n=some r then g h.choose else none
theorem a5w {α:Type} {g:Nat->Option α} (d: ∀n m r,n<=m->g n=some r->g m=some r) {n:Nat} {r:α} (h:g n=some r):lim g=some r:=by
 a c: ∃n r,g n=some r:=⟨n,r,h⟩
 unfold lim
 rw [dif_pos c]
 obtain ⟨r',b⟩:=c.choose_spec
 a f:=d _ (max n c.choose) _ (Nat.le_max_left _ _) h
 a e:=d _ (max n c.choose) _ (Nat.le_max_right _ _) b
 rw [f] at e
 rw [b, <-e]
theorem a5E {α:Type} {g:Nat->Option α} {r:α} (h:lim g=some r): ∃n,g n=some r:=by
 unfold lim at h
 split at h
 ·exact ⟨_,h⟩
 ·cases h
noncomputable def Call (T:Tab) (ow:ec):ce:=fun f a b=>lim fun n=>fh T ow n f a b
noncomputable def il (T:Tab) (ow:ec) (c:aQ) (st:St):Option (bR×St):=lim fun n=>dh (fh T ow n) ow n c st
section
variable {T:Tab} {ow:ec}
theorem c1i {n m:Nat} (h:n<=m) {c:aQ} {st:St} {r:bR×St} (a:dh (fh T ow n) ow n c st=some r):dh (fh T ow m) ow m c st=some r:=
 dH (dG T ow h) n m h a
theorem ga {n:Nat} {c:aQ} {st:St} {r:bR×St} (h:dh (fh T ow n) ow n c st=some r):il T ow c st=some r:=
 a5w (g:=fun n=>dh (fh T ow n) ow n c st) (fun _ _ _ a h=>c1i a h) h
theorem kh {c:aQ} {st:St} {r:bR×St} (h:il T ow c st=some r): ∃n,dh (fh T ow n) ow n c st=some r:=a5E h
theorem Xl {n:Nat} {f:FuncId} {a:List V} {b:List Blk} {r:V×List Blk} (h:fh T ow n f a b=some r):Call T ow f a b=some r:=
 a5w (g:=fun n=>fh T ow n f a b) (fun _ _ _ c h=>dG T ow c _ _ _ _ h) h
theorem Pi {f:FuncId} {a:List V} {b:List Blk} {r:V×List Blk} (h:Call T ow f a b=some r): ∃n,fh T ow n f a b=some r:=a5E h
theorem xF {α:Type} {a b:Option α} (c: ∀r,a=some r->b=some r) (d: ∀r,b=some r->a=some r):a=b:=by
 cases a with
 |none=>cases b with
  |none=>rfl
  |some r=>exact absurd (d r rfl) (by simp)
 |some r=>exact (c r rfl).symm
theorem Rj: ∀{l:List cn} {n:Nat} {st:St} {r:St},jH (Call T ow) ow l n st=some r-> ∃k,jH (fh T ow k) ow l n st=some r
 |[],_,_,_,h=>⟨0,h⟩
 |s::l,n,st,r,h=>by
  simp only [jH] at h
  cases a:BS (Call T ow) ow st s n with
  |none=>rw [a] at h;cases h
  |some st'=>
   rw [a] at h
   obtain ⟨b,c⟩:=Rj h
   f: ∃k,BS (fh T ow k) ow st s n=some st':=by
    unfold BS at a ⊢
    split at a
    ·cases a
    ·exact ⟨0,a⟩
    ·split at a
     ·rename_i v u i
      obtain ⟨k,j⟩:=VK (C:=fh T ow) (D:=Call T ow) (fun _ _ _ _ h=>Pi h) 0 i
      exact ⟨k,by rw [j];exact a⟩
     ·cases a
   obtain ⟨d,e⟩:=this
   refine ⟨max d b, ?_⟩
   simp only [jH]
   rw [Rd (dG T ow (Nat.le_max_left d b)) e]
   exact vG (dG T ow (Nat.le_max_right d b)) c
theorem Pv {base:Nat}: ∀{l:List cn} {n:Nat} {st:St} {r:St×List Rec},jD (Call T ow) ow base l n st=some r-> ∃k,jD (fh T ow k) ow base l n st=some r
 |[],_,_,_,h=>⟨0,h⟩
 |s::l,n,st,r,h=>by
  simp only [jD] at h
  cases a:z6 (Call T ow) ow st s n (base+n) with
  |none=>rw [a] at h;cases h
  |some p=>
   obtain ⟨st',rc⟩:=p
   rw [a] at h
   dsimp only at h
   cases b:jD (Call T ow) ow base l (n+1) st' with
   |none=>rw [b] at h;cases h
   |some q=>
    obtain ⟨st2,rs⟩:=q
    rw [b] at h
    obtain ⟨c,d⟩:=Pv b
    i: ∃k,z6 (fh T ow k) ow st s n (base+n)=some (st',rc):=by
     unfold z6 at a ⊢
     split at a
     ·cases a
     ·exact ⟨0,a⟩
     ·split at a
      ·rename_i v u j
       obtain ⟨k,m⟩:=VK (C:=fh T ow) (D:=Call T ow) (fun _ _ _ _ h=>Pi h) 0 j
       exact ⟨k,by rw [m];exact a⟩
      ·cases a
    obtain ⟨e,f⟩:=this
    refine ⟨max e c, ?_⟩
    simp only [jD]
    rw [Qq (dG T ow (Nat.le_max_left e c)) f]
    dsimp only
    rw [vR (dG T ow (Nat.le_max_right e c)) d]
    exact h
theorem PL (k:Nat): ∀f a b r,fh T ow k f a b=some r->Call T ow f a b=some r:=fun _ _ _ _ h=>Xl h
theorem a8r (st:St):il T ow .skip st=some (.normal,st):=ga (n:=1) rfl
theorem b0x (id:Nat) (st:St):il T ow (.exit id) st=some (.exit id,st):=ga (n:=1) rfl
theorem b2z (st:St):il T ow .ret st=some (.ret,st):=ga (n:=1) rfl
theorem NH (base:Nat) (steps:List cn) (live:List Nat) (st:St):il T ow (.region base steps live) st=sE (Call T ow) ow base steps live st:=by
 refine xF (fun r h=> ?_) (fun r h=> ?_)
 ·obtain ⟨n,a⟩:=kh h
  cases n with
  |zero=>simp [dh] at a
  |succ n=>
   simp only [dh,sE] at a ⊢
   split at a
   ·rename_i st' h';rw [vG (PL (n+1)) h'];exact a
   ·cases a
 ·unfold sE at h
  split at h
  ·rename_i st' h'
   obtain ⟨k,b⟩:=Rj h'
   refine ga (n:=k+1) ?_
   simp only [dh,sE]
   rw [vG (dG T ow (mD k)) b]
   exact h
  ·cases h
theorem a5V (base:Nat) (steps:List cn) (deps:List (List Nat)) (live:List Nat) (st:St):
 il T ow (.drawn base steps deps live) st=B8 (Call T ow) ow base steps deps live st:=by
 refine xF (fun r h=> ?_) (fun r h=> ?_)
 ·obtain ⟨n,a⟩:=kh h
  cases n with
  |zero=>simp [dh] at a
  |succ n=>
   simp only [dh,B8] at a ⊢
   split at a
   ·rename_i st' rs h';rw [vR (PL (n+1)) h'];exact a
   ·cases a
 ·unfold B8 at h
  split at h
  ·rename_i st' rs h'
   obtain ⟨k,b⟩:=Pv h'
   refine ga (n:=k+1) ?_
   simp only [dh,B8]
   rw [vR (dG T ow (mD k)) b]
   exact h
  ·cases h
theorem LF (a b:aQ) (st:St):il T ow (.seq a b) st=(match il T ow a st with
 |some (.normal,st')=>il T ow b st'
 |r=>r):=by
 refine xF (fun r h=> ?_) (fun r h=> ?_)
 ·obtain ⟨n,c⟩:=kh h
  cases n with
  |zero=>simp [dh] at c
  |succ n=>
   simp only [dh] at c
   cases d:dh (fh T ow (n+1)) ow n a st with
   |none=>rw [d] at c;cases c
   |some p=>
    obtain ⟨e,st'⟩:=p
    rw [ga (dH (fun _ _ _ _ h=>h) n (n+1) (by omega) d)]
    rw [d] at c
    cases e with
    |normal=>exact ga (dH (fun _ _ _ _ h=>h) n (n+1) (by omega) c)
    |exit id=>exact c
    |ret=>exact c
 ·cases d:il T ow a st with
  |none=>rw [d] at h;cases h
  |some p=>
   obtain ⟨e,st'⟩:=p
   rw [d] at h
   obtain ⟨n,c⟩:=kh d
   cases e with
   |normal=>
    obtain ⟨m,f⟩:=kh (show il T ow b st'=some r from h)
    refine ga (n:=max n m+1) ?_
    simp only [dh]
    rw [dH (dG T ow (by omega)) n (max n m) (by omega) c]
    exact dH (dG T ow (by omega)) m (max n m) (by omega) f
   |exit id=>
    refine ga (n:=n+1) ?_
    simp only [dh]
    rw [dH (dG T ow (by omega)) n n (by omega) c]
    exact h
   |ret=>
    refine ga (n:=n+1) ?_
    simp only [dh]
    rw [dH (dG T ow (by omega)) n n (by omega) c]
    exact h
theorem a8w (c:Opd) (a b:aQ) (st:St):il T ow (.cond c a b) st=(match st.ev c with
 | .lit (.bool true)=>il T ow a st
 | .lit (.bool false)=>il T ow b st
 |_=>none):=by
 refine xF (fun r h=> ?_) (fun r h=> ?_)
 ·obtain ⟨n,d⟩:=kh h
  cases n with
  |zero=>simp [dh] at d
  |succ n=>
   simp only [dh] at d
   split at d
   ·rename_i e;simp only [e];exact ga (dH (fun _ _ _ _ h=>h) n (n+1) (by omega) d)
   ·rename_i e;simp only [e];exact ga (dH (fun _ _ _ _ h=>h) n (n+1) (by omega) d)
   ·cases d
 ·split at h
  ·rename_i e
   obtain ⟨n,d⟩:=kh h
   refine ga (n:=n+1) ?_
   simp only [dh,e]
   exact dH (dG T ow (by omega)) n n (by omega) d
  ·rename_i e
   obtain ⟨n,d⟩:=kh h
   refine ga (n:=n+1) ?_
   simp only [dh,e]
   exact dH (dG T ow (by omega)) n n (by omega) d
  ·cases h
theorem Jk (id:Nat) (c:aQ) (st:St):il T ow (.block id c) st=(match il T ow c st with
 |some (.exit id',st')=>if id'=id then some (.normal,st') else some (.exit id',st')
 |r=>r):=by
 refine xF (fun r h=> ?_) (fun r h=> ?_)
 ·obtain ⟨n,a⟩:=kh h
  cases n with
  |zero=>simp [dh] at a
  |succ n=>
   simp only [dh] at a
   cases b:dh (fh T ow (n+1)) ow n c st with
   |none=>rw [b] at a;cases a
   |some p=>
    rw [ga (dH (fun _ _ _ _ h=>h) n (n+1) (by omega) b)]
    rw [b] at a
    exact a
 ·cases b:il T ow c st with
  |none=>rw [b] at h;cases h
  |some p=>
   obtain ⟨n,a⟩:=kh b
   refine ga (n:=n+1) ?_
   simp only [dh]
   rw [dH (dG T ow (by omega)) n n (by omega) a]
   rw [b] at h
   exact h
theorem a9L (c:aQ) (st:St):il T ow (.loop c) st=(match il T ow c st with
 |some (.normal,st')=>il T ow (.loop c) st'
 |r=>r):=by
 refine xF (fun r h=> ?_) (fun r h=> ?_)
 ·obtain ⟨n,a⟩:=kh h
  cases n with
  |zero=>simp [dh] at a
  |succ n=>
   simp only [dh] at a
   cases b:dh (fh T ow (n+1)) ow n c st with
   |none=>rw [b] at a;cases a
   |some p=>
    obtain ⟨e,st'⟩:=p
    rw [ga (dH (fun _ _ _ _ h=>h) n (n+1) (by omega) b)]
    rw [b] at a
    cases e with
    |normal=>exact ga (dH (fun _ _ _ _ h=>h) n (n+1) (by omega) a)
    |exit id=>exact a
    |ret=>exact a
 ·cases b:il T ow c st with
  |none=>rw [b] at h;cases h
  |some p=>
   obtain ⟨e,st'⟩:=p
   rw [b] at h
   obtain ⟨n,a⟩:=kh b
   cases e with
   |normal=>
    obtain ⟨m,d⟩:=kh (show il T ow (.loop c) st'=some r from h)
    refine ga (n:=max n m+1) ?_
    simp only [dh]
    rw [dH (dG T ow (by omega)) n (max n m) (by omega) a]
    exact dH (dG T ow (by omega)) m (max n m) (by omega) d
   |exit id=>
    refine ga (n:=n+1) ?_
    simp only [dh]
    rw [dH (dG T ow (by omega)) n n (by omega) a]
    exact h
   |ret=>
    refine ga (n:=n+1) ?_
    simp only [dh]
    rw [dH (dG T ow (by omega)) n n (by omega) a]
    exact h
theorem m4 (g:eU) (c:aQ) (st:St):il T ow (.ghost g c) st=(match dd st g with
 |some st'=>il T ow c st'
 |none=>none):=by
 refine xF (fun r h=> ?_) (fun r h=> ?_)
 ·obtain ⟨n,a⟩:=kh h
  cases n with
  |zero=>simp [dh] at a
  |succ n=>
   simp only [dh] at a
   split at a
   ·rename_i st' b;simp only [b];exact ga (dH (fun _ _ _ _ h=>h) n (n+1) (by omega) a)
   ·cases a
 ·split at h
  ·rename_i st' b
   obtain ⟨n,a⟩:=kh h
   refine ga (n:=n+1) ?_
   simp only [dh,b]
   exact dH (dG T ow (by omega)) n n (by omega) a
  ·cases h
theorem a7b (f:FuncId) (a:List V) (b:List Blk):Call T ow f a b=(match T f with
 |none=>none
 |some (.code af)=>a1L af (kG af b.length (il T ow af.body (start a b)))
 |some (.ext g)=>g a b):=by
 refine xF (fun r h=> ?_) (fun r h=> ?_)
 ·obtain ⟨n,c⟩:=Pi h
  cases n with
  |zero=>simp [fh] at c
  |succ n=>
   simp only [fh] at c
   split at c
   ·cases c
   rotate_left
   ·rename_i g i;simp only [i];exact c
   ·rename_i af d
    cases e:dh (fh T ow n) ow n af.body (start a b) with
    |none=>rw [e] at c;simp [kG,a1L] at c
    |some p=>simp only [d];rw [ga e];rw [e] at c;exact c
 ·split at h
  ·cases h
  rotate_left
  ·rename_i g i
   refine Xl (n:=1) ?_
   simp only [fh,i]
   exact h
  ·rename_i af d
   cases e:il T ow af.body (start a b) with
   |none=>rw [e] at h;simp [kG,a1L] at h
   |some p=>
    obtain ⟨n,c⟩:=kh e
    refine Xl (n:=n+1) ?_
    simp only [fh,d]
    rw [c]
    rw [e] at h
    exact h
end
end
set_option linter.unusedVariables false
set_option linter.unusedSimpArgs false
section
def br {α:Type} (c:Bool) (x y:α):α:=match c with
 |true=>x
 |false=>y
theorem cL {α:Type} (x y:α):br true x y=x:=rfl
theorem ba {α:Type} (x y:α):br false x y=y:=rfl
theorem Jp {α:Type} {c:Bool} {x y r:α} (h:c=true) (a:x=r):br c x y=r:=by subst h;exact a
theorem a9s {α:Type} {c:Bool} {x y r:α} (h:c=false) (a:y=r):br c x y=r:=by subst h;exact a
theorem brc {α:Type} {c:Bool} {x y r:α} (h:br c x y=r):(c=true/\x=r)\/(c=false/\y=r):=by
 cases c
 ·exact .inr ⟨rfl,h⟩
 ·exact .inl ⟨rfl,h⟩
theorem brg {α:Type} {c:Bool} {x:Option α} {r:α} (h:br c x none=some r):c=true/\x=some r:=by
 cases c
 ·cases h
 ·exact ⟨rfl,h⟩
theorem bd {α β:Type} {x:Option α} {g:α->Option β} {r:β} (h:x.bind g=some r): ∃a,x=some a/\g a=some r:=by
 cases x with
 |none=>cases h
 |some a=>exact ⟨a,rfl,h⟩
inductive Fr where
 |code (c:aQ)
 |steps (n:Nat) (ss:List cn) (live:List Nat)
 |dr (base i:Nat) (ss:List cn) (deps:List (List Nat)) (live:List Nat) (rs:List Rec)
 |blk (id:Nat)
section
variable {R:Type}
noncomputable def tE (T:Tab) (ow:ec) (k:bR->St->Option R):List Fr->Option Nat->St->Option R
 |[],none,st=>k .normal st
 |[],some id,st=>k (.exit id) st
 | .blk id'::K,some id,st=>if id'=id then tE T ow k K none st else tE T ow k K (some id) st
 |_::K,some id,st=>tE T ow k K (some id) st
 | .blk _::K,none,st=>tE T ow k K none st
 | .code c::K,none,st=>match il T ow c st with
   |some (.normal,st')=>tE T ow k K none st'
   |some (.exit id,st')=>tE T ow k K (some id) st'
   |some (.ret,st')=>k .ret st'
   |none=>none
 | .steps n ss live::K,none,st=>match jH (Call T ow) ow ss n st with
   |some st'=>tE T ow k K none (trim live st')
   |none=>none
 | .dr base i ss deps live rs::K,none,st=>match jD (Call T ow) ow base ss i st with
   |some (st',rs')=>br (pZ deps (rs++rs'.filter Rec.loud)) (tE T ow k K none (trim live st')) none
   |none=>none
noncomputable def Rn (T:Tab) (ow:ec) (k:bR->St->Option R) (K:List Fr) (st:St):Option R:=tE T ow k K none st
noncomputable def Unw (T:Tab) (ow:ec) (k:bR->St->Option R) (id:Nat) (K:List Fr) (st:St):Option R:=tE T ow k K (some id) st
noncomputable def goR (T:Tab) (ow:ec) (k:bR->St->Option R) (K:List Fr):Option (bR×St)->Option R
 |some (.normal,st')=>Rn T ow k K st'
 |some (.exit id,st')=>Unw T ow k id K st'
 |some (.ret,st')=>k .ret st'
 |none=>none
variable {T:Tab} {ow:ec} {k:bR->St->Option R}
theorem fg (c:aQ) (K:List Fr) (st:St):Rn T ow k (.code c::K) st=goR T ow k K (il T ow c st):=by
 unfold Rn tE goR
 cases il T ow c st with
 |none=>rfl
 |some p=>obtain ⟨e,st'⟩:=p;cases e<;>rfl
theorem b7J (st:St):Rn T ow k [] st=k .normal st:=rfl
theorem c1B (id:Nat) (K:List Fr) (st:St):Rn T ow k (.blk id::K) st=Rn T ow k K st:=rfl
theorem b4i (K:List Fr) (st:St):Rn T ow k (.code .skip::K) st=Rn T ow k K st:=by rw [fg,a8r];rfl
theorem b2N (id:Nat) (K:List Fr) (st:St):Rn T ow k (.code (.exit id)::K) st=Unw T ow k id K st:=by rw [fg,b0x];rfl
theorem b7Q (K:List Fr) (st:St):Rn T ow k (.code .ret::K) st=k .ret st:=by rw [fg,b2z];rfl
theorem b86 (a b:aQ) (K:List Fr) (st:St):Rn T ow k (.code (.seq a b)::K) st=Rn T ow k (.code a:: .code b::K) st:=by
 rw [fg,LF,fg]
 cases il T ow a st with
 |none=>rfl
 |some p=>
  obtain ⟨e,st'⟩:=p
  cases e with
  |normal=>simp only [goR];rw [fg];rfl
  |exit id=>rfl
  |ret=>rfl
theorem b0n (id:Nat) (c:aQ) (K:List Fr) (st:St):Rn T ow k (.code (.block id c)::K) st=Rn T ow k (.code c:: .blk id::K) st:=by
 rw [fg,Jk,fg]
 cases il T ow c st with
 |none=>rfl
 |some p=>
  obtain ⟨e,st'⟩:=p
  cases e with
  |normal=>rfl
  |exit id'=>
   simp only [goR,Unw,Rn,tE]
   by_cases h:id'=id
   ·subst h;simp
   ·rw [aa h,aa (fun e=>h e.symm)]
  |ret=>rfl
noncomputable def b3o (T:Tab) (ow:ec) (k:bR->St->Option R) (a b:aQ) (K:List Fr) (st:St):V->Option R
 | .lit (.bool c)=>br c (Rn T ow k (.code a::K) st) (Rn T ow k (.code b::K) st)
 |_=>none
theorem b2j (c:Opd) (a b:aQ) (K:List Fr) (st:St):Rn T ow k (.code (.cond c a b)::K) st=b3o T ow k a b K st (st.ev c):=by
 rw [fg,a8w]
 unfold b3o
 split
 ·rename_i h;rw [h];exact (fg _ _ _).symm
 ·rename_i h;rw [h];exact (fg _ _ _).symm
 ·rename_i d e
  split
  ·rename_i c' h;cases c'
   ·exact absurd h e
   ·exact absurd h d
  ·rfl
theorem a4C (a b:aQ) (K:List Fr) (st:St) (c:Bool):b3o T ow k a b K st (.lit (.bool c))=br c (Rn T ow k (.code a::K) st) (Rn T ow k (.code b::K) st):=rfl
noncomputable def ghR (T:Tab) (ow:ec) (k:bR->St->Option R) (c:aQ) (K:List Fr):Option St->Option R
 |some st'=>Rn T ow k (.code c::K) st'
 |none=>none
theorem a9U (g:eU) (c:aQ) (K:List Fr) (st:St):Rn T ow k (.code (.ghost g c)::K) st=ghR T ow k c K (dd st g):=by
 rw [fg,m4]
 cases dd st g with
 |none=>rfl
 |some st'=>simp only [ghR];rw [fg]
theorem b64 (c:aQ) (K:List Fr) (st:St):ghR T ow k c K (some st)=Rn T ow k (.code c::K) st:=rfl
theorem a5s (K:List Fr) (st:St):goR T ow k K (some (.normal,st))=Rn T ow k K st:=rfl
theorem b4q (id:Nat) (K:List Fr) (st:St):goR T ow k K (some (.exit id,st))=Unw T ow k id K st:=rfl
theorem c0Q (K:List Fr) (st:St):goR T ow k K (some (.ret,st))=k .ret st:=rfl
theorem c0u (id:Nat) (st:St):Unw T ow k id [] st=k (.exit id) st:=rfl
theorem b3Z (id:Nat) (c:aQ) (K:List Fr) (st:St):Unw T ow k id (.code c::K) st=Unw T ow k id K st:=rfl
theorem b9g (id id':Nat) (K:List Fr) (st:St):Unw T ow k id (.blk id'::K) st=if id'=id then Rn T ow k K st else Unw T ow k id K st:=rfl
theorem a58 (n:Nat) (ss:List cn) (live:List Nat) (K:List Fr) (st:St):Rn T ow k (.code (.region n ss live)::K) st=Rn T ow k (.steps n ss live::K) st:=by
 rw [fg,NH]
 unfold sE
 simp only [Rn,tE]
 cases jH (Call T ow) ow ss n st<;>rfl
theorem b0J (n:Nat) (ss:List cn) (deps:List (List Nat)) (live:List Nat) (K:List Fr) (st:St):Rn T ow k (.code (.drawn n ss deps live)::K) st=Rn T ow k (.dr n 0 ss deps live []::K) st:=by
 rw [fg,a5V]
 unfold B8
 simp only [Rn,tE]
 cases jD (Call T ow) ow n ss 0 st with
 |none=>rfl
 |some p=>
  obtain ⟨st',rs⟩:=p
  simp only [bg]
  cases pZ deps (rs.filter Rec.loud)<;>rfl
theorem U0 (n:Nat) (live:List Nat) (K:List Fr) (st:St):Rn T ow k (.steps n [] live::K) st=Rn T ow k K (trim live st):=rfl
noncomputable def aft (T:Tab) (ow:ec) (k:bR->St->Option R) (d:Option Nat) (n:Nat) (ss:List cn) (live:List Nat) (K:List Fr) (st:St):Option (V×Upd)->Option R
 |some (v,u)=>Rn T ow k (.steps (n+1) ss live::K) ((st.upd u).put d v)
 |none=>none
variable {d:Option Nat} {n:Nat} {ss:List cn} {live:List Nat} {K:List Fr} {st:St}
theorem a9u (op:AOp):Rn T ow k (.steps n (⟨d,op,none⟩::ss) live::K) st=aft T ow k d n ss live K st (aM (Call T ow) ow op st.ev st.heap n):=by
 unfold aft
 simp only [Rn,tE,jH,BS,St.want]
 cases aM (Call T ow) ow op st.ev st.heap n with
 |none=>rfl
 |some p=>obtain ⟨v,u⟩:=p;rfl
theorem b3f (v:V) (u:Upd):aft T ow k d n ss live K st (some (v,u))=Rn T ow k (.steps (n+1) ss live::K) ((st.upd u).put d v):=rfl
theorem b2x:aft T ow k d n ss live K st none=none:=rfl
theorem c6i (c:Bool) (x y:Option (V×Upd)):aft T ow k d n ss live K st (br c x y)=br c (aft T ow k d n ss live K st x) (aft T ow k d n ss live K st y):=by cases c<;>rfl
theorem b6M {α:Type} (x:Option α) (f:α->Option (V×Upd)):aft T ow k d n ss live K st (x.bind f)=x.bind (fun a=>aft T ow k d n ss live K st (f a)):=by cases x<;>rfl
noncomputable def gd (T:Tab) (ow:ec) (k:bR->St->Option R) (t:Nat) (b:Bool) (d:Option Nat) (op:AOp) (n:Nat) (ss:List cn) (live:List Nat) (K:List Fr) (st:St):V->Option R
 | .lit (.bool c)=>br (c==b) (Rn T ow k (.steps n (⟨d,op,none⟩::ss) live::K) { st with e:=j9 t (.lit (.bool c)) st.e })
  (Rn T ow k (.steps (n+1) ss live::K) ({ st with e:=j9 t (.lit (.bool c)) st.e }.put d (.lit (.tuple #[]))))
 | .lit (.tuple _)=>Rn T ow k (.steps (n+1) ss live::K) (st.put d (.lit (.tuple #[])))
 |_=>none
theorem Wg {α:Type}: ∀{l:List (Nat×α)} {t:Nat} {v:α},dP l t=some v->j9 t v l=l
 |[],_,_,h=>by simp [dP] at h
 | (j,u)::r,t,v,h=>by
   simp only [dP] at h
   simp only [j9]
   split at h
   ·rename_i e;cases h;subst e;simp
   ·rename_i e;rw [aa e,Wg h]
theorem a1A {v:V} {t:Nat} (h:st.get t=v) (b:v≠ .undef):({ st with e:=j9 t v st.e }:St)=st:=by
 unfold St.get at h
 cases a:dP st.e t with
 |none=>rw [a] at h;exact absurd h.symm b
 |some u=>
  rw [a] at h;cases h
  show ({ st with e:=j9 t u st.e }:St)=st
  rw [Wg a]
theorem a89 (t:Nat) (b:Bool) (op:AOp):Rn T ow k (.steps n (⟨d,op,some (t,b)⟩::ss) live::K) st=gd T ow k t b d op n ss live K st (st.get t):=by
 cases a:st.get t with
 |lit v=>
  cases v with
  |bool c=>
   simp only [gd]
   rw [a1A a (by simp)]
   simp only [Rn,tE,jH,BS,St.want,a]
   cases e:(c==b)
   ·simp [ba,e]
   ·simp [cL,e]
  |tuple xs=>simp only [gd];simp only [Rn,tE,jH,BS,St.want,a]
  |_=>simp only [gd];simp only [Rn,tE,jH,BS,St.want,a]
 |_=>simp only [gd];simp only [Rn,tE,jH,BS,St.want,a]
theorem c1y (t:Nat) (op:AOp) (c:Bool):gd T ow k t true d op n ss live K st (.lit (.bool c))=
 br c (Rn T ow k (.steps n (⟨d,op,none⟩::ss) live::K) { st with e:=j9 t (.lit (.bool true)) st.e })
  (Rn T ow k (.steps (n+1) ss live::K) ({ st with e:=j9 t (.lit (.bool false)) st.e }.put d (.lit (.tuple #[])))):=by cases c<;>rfl
theorem b3B (t:Nat) (op:AOp) (c:Bool):gd T ow k t false d op n ss live K st (.lit (.bool c))=
 br c (Rn T ow k (.steps (n+1) ss live::K) ({ st with e:=j9 t (.lit (.bool true)) st.e }.put d (.lit (.tuple #[]))))
  (Rn T ow k (.steps n (⟨d,op,none⟩::ss) live::K) { st with e:=j9 t (.lit (.bool false)) st.e }):=by cases c<;>rfl
theorem b36 (t:Nat) (b:Bool) (op:AOp) (xs:Array Value):gd T ow k t b d op n ss live K st (.lit (.tuple xs))=Rn T ow k (.steps (n+1) ss live::K) (st.put d (.lit (.tuple #[]))):=rfl
variable {base i:Nat} {deps:List (List Nat)} {rs:List Rec} {fp:List Nat}
def a8s (rs:List Rec) (i:Nat) (fp wr:List Nat):List Rec:=rs++[Rec.mk i fp wr].filter Rec.loud
theorem a5e:Rn T ow k (.dr base i [] deps live rs::K) st=br (pZ deps rs) (Rn T ow k K (trim live st)) none:=by
 simp only [Rn,tE,jD,p6,bV]
noncomputable def Ok (T:Tab) (ow:ec) (k:bR->St->Option R) (d:Option Nat) (base i:Nat) (ss:List cn) (deps:List (List Nat)) (live:List Nat) (rs:List Rec) (K:List Fr) (st:St) (fp:List Nat):Option (V×Upd)->Option R
 |some (v,u)=>br ((u.map (·.1)).all (fun b=>decide (b∈fp)||(st.heap b).isNone))
  (Rn T ow k (.dr base (i+1) ss deps live (a8s rs i fp (u.map (·.1)))::K) ((st.upd u).put d v)) none
 |none=>none
theorem c4r (op:AOp):Rn T ow k (.dr base i (⟨d,op,none⟩::ss) deps live rs::K) st=
 Ok T ow k d base i ss deps live rs K st (ij ow op st.ev st.heap) (aM (Call T ow) ow op st.ev (s3 st.heap (ij ow op st.ev st.heap)) (base+i)):=by
 unfold Ok
 simp only [Rn,tE,jD,z6,St.want]
 cases c:aM (Call T ow) ow op st.ev (s3 st.heap (ij ow op st.ev st.heap)) (base+i) with
 |none=>rfl
 |some p=>
  obtain ⟨v,u⟩:=p
  dsimp only
  by_cases a:(u.map (·.1)).all (fun b=>decide (b∈ij ow op st.ev st.heap)||(st.heap b).isNone)=true
  ·rw [a,cL,ae rfl]
   dsimp only
   cases jD (Call T ow) ow base ss (i+1) ((st.upd u).put d v) with
   |none=>rfl
   |some q=>
    obtain ⟨st2,rs2⟩:=q
    simp only [a8s,kf,p6,aV]
    cases Rec.loud ⟨i,ij ow op st.ev st.heap,u.map (·.1)⟩<;>rfl
  ·rw [Bool.not_eq_true] at a
   rw [a,ba,aa (by decide)]
theorem b1i (v:V) (u:Upd):Ok T ow k d base i ss deps live rs K st fp (some (v,u))=br ((u.map (·.1)).all (fun b=>decide (b∈fp)||(st.heap b).isNone))
 (Rn T ow k (.dr base (i+1) ss deps live (a8s rs i fp (u.map (·.1)))::K) ((st.upd u).put d v)) none:=rfl
theorem a3N (v:V):Ok T ow k d base i ss deps live rs K st fp (some (v,[]))=Rn T ow k (.dr base (i+1) ss deps live (a8s rs i fp [])::K) (st.put d v):=rfl
theorem b0I:Ok T ow k d base i ss deps live rs K st fp none=none:=rfl
theorem c1J (c:Bool) (x y:Option (V×Upd)):Ok T ow k d base i ss deps live rs K st fp (br c x y)=br c (Ok T ow k d base i ss deps live rs K st fp x) (Ok T ow k d base i ss deps live rs K st fp y):=by cases c<;>rfl
theorem a8i {α:Type} (x:Option α) (f:α->Option (V×Upd)):Ok T ow k d base i ss deps live rs K st fp (x.bind f)=x.bind (fun a=>Ok T ow k d base i ss deps live rs K st fp (f a)):=by cases x<;>rfl
noncomputable def gdD (T:Tab) (ow:ec) (k:bR->St->Option R) (t:Nat) (b:Bool) (d:Option Nat) (op:AOp) (base i:Nat) (ss:List cn) (deps:List (List Nat)) (live:List Nat) (rs:List Rec) (K:List Fr) (st:St):V->Option R
 | .lit (.bool c)=>br (c==b) (Rn T ow k (.dr base i (⟨d,op,none⟩::ss) deps live rs::K) { st with e:=j9 t (.lit (.bool c)) st.e })
  (Rn T ow k (.dr base (i+1) ss deps live rs::K) ({ st with e:=j9 t (.lit (.bool c)) st.e }.put d (.lit (.tuple #[]))))
 | .lit (.tuple _)=>Rn T ow k (.dr base (i+1) ss deps live rs::K) (st.put d (.lit (.tuple #[])))
 |_=>none
theorem a6L (op:AOp) (g:Nat×Bool) (h:st.want (some g)=some false):Rn T ow k (.dr base i (⟨d,op,some g⟩::ss) deps live rs::K) st=Rn T ow k (.dr base (i+1) ss deps live rs::K) (st.put d (.lit (.tuple #[]))):=by
 simp only [Rn,tE,jD,z6,h]
 cases jD (Call T ow) ow base ss (i+1) (st.put d (.lit (.tuple #[]))) with
 |none=>rfl
 |some q=>obtain ⟨st2,rs2⟩:=q;rfl
theorem c7P (op:AOp) (g:Nat×Bool) (h:st.want (some g)=some true):Rn T ow k (.dr base i (⟨d,op,some g⟩::ss) deps live rs::K) st=Rn T ow k (.dr base i (⟨d,op,none⟩::ss) deps live rs::K) st:=by
 a b:st.want none=some true:=rfl
 simp only [Rn,tE,jD,z6,h,b]
theorem a7q (op:AOp) (g:Nat×Bool) (h:st.want (some g)=none):Rn T ow k (.dr base i (⟨d,op,some g⟩::ss) deps live rs::K) st=none:=by
 simp only [Rn,tE,jD,z6,h]
theorem ZE (t:Nat) (b:Bool) (op:AOp):Rn T ow k (.dr base i (⟨d,op,some (t,b)⟩::ss) deps live rs::K) st=gdD T ow k t b d op base i ss deps live rs K st (st.get t):=by
 cases a:st.get t with
 |lit v=>
  cases v with
  |bool c=>
   simp only [gdD]
   rw [a1A a (by simp)]
   cases e:(c==b)
   ·rw [ba];exact a6L op (t,b) (by simp [St.want,a,e])
   ·rw [cL];exact c7P op (t,b) (by simp [St.want,a,e])
  |tuple xs=>exact a6L op (t,b) (by simp [St.want,a])
  |_=>exact a7q op (t,b) (by simp [St.want,a])
 |_=>exact a7q op (t,b) (by simp [St.want,a])
theorem b67 (t:Nat) (op:AOp) (c:Bool):gdD T ow k t true d op base i ss deps live rs K st (.lit (.bool c))=
 br c (Rn T ow k (.dr base i (⟨d,op,none⟩::ss) deps live rs::K) { st with e:=j9 t (.lit (.bool true)) st.e })
  (Rn T ow k (.dr base (i+1) ss deps live rs::K) ({ st with e:=j9 t (.lit (.bool false)) st.e }.put d (.lit (.tuple #[])))):=by cases c<;>rfl
theorem b0M (t:Nat) (op:AOp) (c:Bool):gdD T ow k t false d op base i ss deps live rs K st (.lit (.bool c))=
 br c (Rn T ow k (.dr base (i+1) ss deps live rs::K) ({ st with e:=j9 t (.lit (.bool true)) st.e }.put d (.lit (.tuple #[]))))
  (Rn T ow k (.dr base i (⟨d,op,none⟩::ss) deps live rs::K) { st with e:=j9 t (.lit (.bool false)) st.e }):=by cases c<;>rfl
theorem a9w (t:Nat) (b:Bool) (op:AOp) (xs:Array Value):gdD T ow k t b d op base i ss deps live rs K st (.lit (.tuple xs))=Rn T ow k (.dr base (i+1) ss deps live rs::K) (st.put d (.lit (.tuple #[]))):=rfl
end
def a4s (af:aJ) (m:Nat) (x:bR) (st:St):Option (V×List Blk):=a1L af (kG af m (some (x,st)))
theorem aj {T:Tab} {ow:ec} {f:FuncId} {af:aJ} (c:T f=some (.code af)) (a:List V) (b:List Blk):Call T ow f a b=Rn T ow (a4s af b.length) [.code af.body] (start a b):=by
 rw [a7b,c]
 dsimp only
 rw [fg]
 cases il T ow af.body (start a b) with
 |none=>rfl
 |some p=>obtain ⟨e,st⟩:=p;cases e<;>rfl
def L3 {S E:Type} (step:S->Option (S⊕E)):Nat->S->Option E
 |0,_=>none
 |n+1,s=>match step s with
  |none=>none
  |some (.inl s')=>L3 step n s'
  |some (.inr e)=>some e
theorem VO {S E:Type} {step:S->Option (S⊕E)}: ∀{n:Nat} {s:S} {e:E},L3 step n s=some e->L3 step (n+1) s=some e
 |0,_,_,h=>by cases h
 |n+1,s,e,h=>by
  simp only [L3] at h ⊢
  split at h
  ·cases h
  ·rename_i s' a;exact VO h
  ·rename_i e' a;exact h
theorem b9Y {S E:Type} {step:S->Option (S⊕E)} {n m:Nat} (a:n<=m) {s:S} {e:E} (h:L3 step n s=some e):L3 step m s=some e:=by
 induction a with
 |refl=>exact h
 |step _ ih=>exact VO ih
noncomputable def Loop {S E:Type} (step:S->Option (S⊕E)) (s:S):Option E:=lim (fun n=>L3 step n s)
theorem Xh {S E:Type} {step:S->Option (S⊕E)} {s:S} {e:E} (h:Loop step s=some e): ∃n,L3 step n s=some e:=a5E h
theorem XZ {S E:Type} {step:S->Option (S⊕E)} {n:Nat} {s:S} {e:E} (h:L3 step n s=some e):Loop step s=some e:=
 a5w (g:=fun n=>L3 step n s) (fun _ _ _ a h=>b9Y a h) h
def a79 {S E:Type} (lp:S->Option E):Option (S⊕E)->Option E
 |none=>none
 |some (.inl s')=>lp s'
 |some (.inr e)=>some e
theorem GY {S E:Type} (step:S->Option (S⊕E)) (s:S):Loop step s=a79 (Loop step) (step s):=by
 refine xF (fun r h=> ?_) (fun r h=> ?_)
 ·obtain ⟨n,a⟩:=Xh h
  cases n with
  |zero=>cases a
  |succ n=>
   simp only [L3] at a
   split at a
   ·cases a
   ·rename_i s' b;rw [b];exact XZ a
   ·rename_i e' b;rw [b];exact a
 ·cases b:step s with
  |none=>rw [b] at h;cases h
  |some o=>
   rw [b] at h
   cases o with
   |inl s'=>
    obtain ⟨n,a⟩:=Xh (show Loop step s'=some r from h)
    exact XZ (n:=n+1) (by simp only [L3,b];exact a)
   |inr e=>exact XZ (n:=1) (by simp only [L3,b];exact h)
def c8N (x:bR) (st:St):Option (bR×St):=some (x,st)
def pM (g:eU):aQ->aQ
 | .seq a b=> .seq (pM g a) b
 | .block id a=> .block id (pM g a)
 |c=> .ghost g c
section
variable {R:Type} {T:Tab} {ow:ec} {k:bR->St->Option R}
def ghE (T:Tab) (ow:ec) (c:aQ):Option St->Option (bR×St)->Option (bR×St)
 |some _,r=>r
 |none,_=>none
theorem Ms (g:eU): ∀(c:aQ) (st:St),il T ow (pM g c) st=(match dd st g with
 |some st'=>il T ow c st'
 |none=>none)
 | .seq a b,st=>by
   simp only [pM]
   rw [LF,Ms g a st]
   cases dd st g with
   |none=>rfl
   |some st'=>dsimp only;rw [LF]
 | .block id a,st=>by
   simp only [pM]
   rw [Jk,Ms g a st]
   cases dd st g with
   |none=>rfl
   |some st'=>dsimp only;rw [Jk]
 | .skip,st=>m4 _ _ _
 | .region _ _ _,st=>m4 _ _ _
 | .drawn _ _ _ _,st=>m4 _ _ _
 | .cond _ _ _,st=>m4 _ _ _
 | .loop _,st=>m4 _ _ _
 | .exit _,st=>m4 _ _ _
 | .ret,st=>m4 _ _ _
 | .ghost _ _,st=>m4 _ _ _
noncomputable def Fx (T:Tab) (ow:ec) (g:eU) (c:aQ) (st:St):Option (bR×St):=match il T ow c st with
 |some (.normal,st')=>il T ow (.loop (pM g c)) st'
 |r=>r
noncomputable def goL (T:Tab) (ow:ec) (k:bR->St->Option R) (K:List Fr) (g:eU) (c:aQ):Option St->Option R
 |some st'=>goR T ow k K (Fx T ow g c st')
 |none=>none
theorem Td (g:eU) (c:aQ) (st:St):il T ow (.loop (pM g c)) st=(match dd st g with
 |some st'=>Fx T ow g c st'
 |none=>none):=by
 rw [a9L,Ms]
 cases dd st g<;>rfl
theorem a9O (g:eU) (c:aQ) (K:List Fr) (st:St):Rn T ow k (.code (.loop (pM g c))::K) st=goL T ow k K g c (dd st g):=by
 rw [fg,Td]
 cases dd st g<;>rfl
theorem b4k (K:List Fr) (g:eU) (c:aQ) (st':St):goL T ow k K g c (some st')=goR T ow k K (Fx T ow g c st'):=rfl
def ogM:Option St->Option (bR×St)
 |some st=>some (.normal,st)
 |none=>none
def V9 (g:eU):bR->St->Option (bR×St)
 | .normal,st=>ogM (dd st g)
 |x,st=>some (x,st)
theorem a3g (g:eU) (st:St):V9 g .normal st=ogM (dd st g):=rfl
theorem a8C (g:eU) (id:Nat) (st:St):V9 g (.exit id) st=some (.exit id,st):=rfl
theorem b5S (g:eU) (st:St):V9 g .ret st=some (.ret,st):=rfl
theorem b6i (st:St):ogM (some st)=some (.normal,st):=rfl
theorem b0j {S E:Type} {g:eU} {c:aQ} {step:S->Option (S⊕E)} {eS:S->St} {eE:E->bR×St} (k: ∀e,(eE e).1≠ .normal)
 (m: ∀s o,step s=some o->Rn T ow (V9 g) [.code c] (eS s)=some (match o with
  | .inl s'=>(.normal,eS s')
  | .inr e=>eE e)) {s:S} {e:E} (h:Loop step s=some e):Fx T ow g c (eS s)=some (eE e):=by
 obtain ⟨n,f⟩:=Xh h
 clear h
 induction n generalizing s with
 |zero=>cases f
 |succ n ih=>
  simp only [L3] at f
  unfold Fx
  split at f
  ·cases f
  ·rename_i s' l
   b a:=m s _ l
   rw [fg] at a
   cases i:il T ow c (eS s) with
   |none=>rw [i] at a;cases a
   |some p=>
    obtain ⟨x,st'⟩:=p
    rw [i] at a
    cases x with
    |normal=>
     dsimp only
     rw [Td]
     simp only [goR,Rn,tE,V9,ogM] at a
     cases j:dd st' g with
     |none=>rw [j] at a;cases a
     |some st2=>rw [j] at a;cases a;exact ih f
    |exit id=>simp [goR,Unw,tE,V9] at a
    |ret=>simp [goR,V9] at a
  ·rename_i e' l
   b a:=m s _ l
   cases f
   b d:=k e
   rw [fg] at a
   dsimp only at a
   revert a d
   generalize eE e=q
   intro a d
   cases i:il T ow c (eS s) with
   |none=>rw [i] at a;cases a
   |some p=>
    obtain ⟨x,st'⟩:=p
    rw [i] at a
    cases x with
    |normal=>
     simp only [goR,Rn,tE,V9,ogM] at a
     cases j:dd st' g with
     |none=>rw [j] at a;cases a
     |some st2=>rw [j] at a;cases a;exact absurd rfl d
    |exit id=>exact a
    |ret=>exact a
variable {d:Option Nat} {n:Nat} {ss:List cn} {live:List Nat} {K:List Fr} {st:St} {base i:Nat} {deps:List (List Nat)} {rs:List Rec} {fp:List Nat} {r:R}
theorem Jr {x:Option (bR×St)} {p:bR×St} (h:x=some p) (a:goR T ow k K (some p)=some r):goR T ow k K x=some r:=by rw [h];exact a
theorem a9o (g:eU) (c:aQ):goR T ow k K (Fx T ow g c st)=Rn T ow k (.code c:: .code (.loop (pM g c))::K) st:=by
 rw [fg]
 unfold Fx
 cases a:il T ow c st with
 |none=>rfl
 |some p=>
  obtain ⟨x,st'⟩:=p
  cases x with
  |normal=>dsimp only;simp only [goR];rw [fg];rfl
  |exit id=>rfl
  |ret=>rfl
theorem k8 {g:eU} {c:aQ} (h:Rn T ow k (.code c:: .code (.loop (pM g c))::K) st=some r):goR T ow k K (Fx T ow g c st)=some r:=by rw [a9o];exact h
theorem bind_some {α β:Type} {x:Option α} {a:α} {F:α->Option β} {r:β} (h:x=some a) (b:F a=some r):x.bind F=some r:=by rw [h];exact b
end
end
section
abbrev I (n:Int):V:= .lit (.int .i64 n)
abbrev B (b:Bool):V:= .lit (.bool b)
abbrev S (s:List UInt8):V:= .lit (.string ⟨⟨s⟩⟩)
structure En (α:Type) where
 esz:Nat
 enc:α->List V
def rws {α:Type} (e:En α) (l:List α):List (List V):=l.map e.enc
def sl {α:Type} (e:En α) (l:List α):V:=(V.imm e.esz (rws e l)).cz
theorem c5C {α:Type} (e:En α):sl e []= .imm 1 []:=rfl
def eI:En Int:=⟨1,fun n=>[I n]⟩
def eU8:En UInt8:=⟨1,fun b=>[.lit (.int .u8 b.toNat)]⟩
def a3c:En Int:=⟨1,fun n=>[.lit (.int .u64 n)]⟩
def eB:En Bool:=⟨1,fun b=>[B b]⟩
def eS:En (List UInt8):=⟨1,fun s=>[S s]⟩
def eL {α:Type} (e:En α):En (List α):=⟨1,fun l=>[sl e l]⟩
theorem c3w:eI.esz=1:=by decide
theorem c2Z (n:Int):eI.enc n=[I n]:=rfl
theorem c1I:eU8.esz=1:=by decide
theorem b9H (n:UInt8):eU8.enc n=[.lit (.int .u8 n.toNat)]:=rfl
theorem b6I:a3c.esz=1:=by decide
theorem b1N (n:Int):a3c.enc n=[.lit (.int .u64 n)]:=rfl
theorem c4U:eB.esz=1:=by decide
theorem c2E (n:Bool):eB.enc n=[B n]:=rfl
theorem c4f:eS.esz=1:=by decide
theorem c58 (n:List UInt8):eS.enc n=[S n]:=rfl
theorem c5J {α:Type} (e:En α):(eL e).esz=1:=jJ rfl
theorem c54 {α:Type} (e:En α) (l:List α):(eL e).enc l=[sl e l]:=rfl
def atL {α:Type} (l:List α) (i:Int):Option α:=if 0<=i then l[i.toNat]? else none
def l6 {α:Type} (l:List α) (a b:Int):Option (List α):=if 0<=a/\a<=b/\b<=l.length then some ((l.take b.toNat).drop a.toNat) else none
def inb (i:Int) (n:Nat):Bool:=decide (0<=i)&&decide (i.toNat<n)
def cP (n bytes:Nat):Bool:=decide (n*bytes<=cV)
def zg (l c:Int) (bytes:Nat):Bool:=decide (0<=l)&&decide (l<=c)&&decide (c*bytes<=cV)
def mx (a b:Int):Int:=if b>a then b else a
def mn (a b:Int):Int:=if b<a then b else a
def a7A (r:List (List V)):Nat:=r.length
def app (r q:List (List V)):List (List V):=r++q
def mkR (n:Nat) (r:List (List V)):List (List V):=r
def dt (row:List V) (r:List (List V)):List (List V):=row::r
def BQ (n k:Nat) (row:List V):List (List V):=List.replicate k row
def hZ (r:List (List V)) (i:Nat) (row:List V):List (List V):=r.set i row
section
variable {α:Type} {e:En α} {l l2:List α}
theorem a85:a7A (rws e l)=l.length:=by simp [a7A,rws]
theorem b9i:app (rws e l) (rws e l2)=rws e (l++l2):=by simp [app,rws]
theorem mk0 (e:En α) (n:Nat):mkR n []=rws e []:=rfl
theorem b6w (n:Nat) (row:List V) (r:List (List V)):mkR n (row::r)=dt row (mkR n r):=rfl
theorem c7B (a:Int) (l:List Int):dt [I a] (rws eI l)=rws eI (a::l):=rfl
theorem c6M (a:List UInt8) (l:List (List UInt8)):dt [S a] (rws eS l)=rws eS (a::l):=rfl
theorem c78 (a:List α) (l:List (List α)):dt [sl e a] (rws (eL e) l)=rws (eL e) (a::l):=rfl
theorem c5x (l:List (List α)):dt [.imm 1 []] (rws (eL e) l)=rws (eL e) ([]::l):=rfl
theorem c6U (b:Bool) (l:List Bool):dt [B b] (rws eB l)=rws eB (b::l):=rfl
theorem b8O (a:Int) (l:List Int):dt [.lit (.int .u64 a)] (rws a3c l)=rws a3c (a::l):=rfl
theorem b6F (b:UInt8) (l:List UInt8):dt [.lit (.int .u8 b.toNat)] (rws eU8 l)=rws eU8 (b::l):=rfl
theorem tT (x:Int):((UInt8.ofInt x).toNat:Int)=IntKind.u8.wrap x:=by
 simp [UInt8.ofInt,IntKind.wrap,IntKind.bits,IntKind.signed]
 omega
theorem KH (x:Int) (l:List UInt8):dt [.lit (.int .u8 (IntKind.u8.wrap x))] (rws eU8 l)=rws eU8 (UInt8.ofInt x::l):=by
 rw [<-tT];rfl
theorem b8j (n:Nat) (h:Nat.ble n 255=true) (l:List UInt8):dt [.lit (.int .u8 (no_index (OfNat.ofNat n:Int)))] (rws eU8 l)=rws eU8 ((OfNat.ofNat n:UInt8)::l):=by
 a h':=cD h
 a:((OfNat.ofNat n:UInt8).toNat:Int)=(OfNat.ofNat n:Int):=by
  show ((UInt8.ofNat n).toNat:Int)=(n:Int)
  simp;omega
 rw [<-b6F,this]
theorem c8o (l:List Int) (i:Nat) (a:Int):hZ (rws eI l) i [I a]=rws eI (l.set i a):=by simp [hZ,rws,eI]
theorem c4l (l:List Int) (i:Nat) (a:Int):hZ (rws a3c l) i [.lit (.int .u64 a)]=rws a3c (l.set i a):=by simp [hZ,rws,a3c]
theorem setB (l:List Bool) (i:Nat) (a:Bool):hZ (rws eB l) i [B a]=rws eB (l.set i a):=by simp [hZ,rws,eB]
theorem c3p (l:List (List UInt8)) (i:Nat) (a:List UInt8):hZ (rws eS l) i [S a]=rws eS (l.set i a):=by simp [hZ,rws,eS]
theorem c8L (l:List (List α)) (i:Nat) (a:List α):hZ (rws (eL e) l) i [sl e a]=rws (eL e) (l.set i a):=by simp [hZ,rws,eL]
theorem c1R (l:List UInt8) (i:Nat) (a:UInt8):hZ (rws eU8 l) i [.lit (.int .u8 a.toNat)]=rws eU8 (l.set i a):=by simp [hZ,rws,eU8]
theorem RE (l:List UInt8) (i:Nat) (x:Int):hZ (rws eU8 l) i [.lit (.int .u8 (IntKind.u8.wrap x))]=rws eU8 (l.set i (UInt8.ofInt x)):=by
 rw [<-tT,c1R]
theorem M6 (e:En α) (x:α) (n k:Nat):BQ n k (e.enc x)=rws e (List.replicate k x):=by simp [BQ,rws]
theorem c5e (m:Nat) (h:e.esz=m):V.cz (.imm m (rws e l))=sl e l:=by subst h;rfl
theorem c7c (r:List (List V)):r.drop 0=r:=rfl
theorem l9 (e:En α) (l:List α):(l=[]/\sl e l= .imm 1 [])\/(l≠[]/\sl e l= .imm e.esz (rws e l)):=by
 cases l with
 |nil=>exact .inl ⟨rfl,rfl⟩
 |cons x l=>exact .inr ⟨by simp,rfl⟩
theorem c80:(sl e l).cz=sl e l:=by
 cases l with
 |nil=>rfl
 |cons x l=>rfl
theorem c4Z:(sl e l).czA=sl e l:=by
 cases l with
 |nil=>rfl
 |cons x l=>rfl
theorem c5N:(sl e l).czR=sl e l:=by
 cases l with
 |nil=>rfl
 |cons x l=>rfl
theorem c1e:(sl e l).cell=true:=by
 rcases l9 e l with ⟨_,h⟩|⟨_,h⟩<;>rw [h]<;>rfl
theorem c7V:(sl e l).cl=true:=by
 rcases l9 e l with ⟨_,h⟩|⟨_,h⟩<;>rw [h]<;>rfl
theorem b2c:(sl e l).cells=[sl e l]:=by
 rcases l9 e l with ⟨_,h⟩|⟨_,h⟩<;>rw [h]<;>rfl
theorem b7L:gN (sl e l)=[]:=by
 rcases l9 e l with ⟨_,h⟩|⟨_,h⟩<;>rw [h]<;>rfl
theorem b8s:si (sl e l)=[]:=by
 rcases l9 e l with ⟨_,h⟩|⟨_,h⟩<;>rw [h]<;>rfl
theorem a7j {h:b8}:pu h (sl e l)=some (sl e l,[]):=by
 rcases l9 e l with ⟨_,h⟩|⟨_,h⟩<;>rw [h]<;>rfl
theorem a69 {h:b8} {own:Bool} {ids:List Nat}:dw h own ids (sl e l)=some (sl e l,ids,[]):=by
 rcases l9 e l with ⟨_,h⟩|⟨_,h⟩<;>rw [h]<;>rfl
theorem a8I {h:b8} {own:Bool} {ids:List Nat}:fm h own ids (sl e l)=some (sl e l,ids,[]):=by
 rcases l9 e l with ⟨_,h⟩|⟨_,h⟩<;>rw [h]<;>rfl
theorem c3d {ids:List Nat}:unV ids (sl e l)=sl e l:=by
 rcases l9 e l with ⟨_,h⟩|⟨_,h⟩<;>rw [h]<;>rfl
theorem b5A {ids:List Nat}:mI ids (sl e l)=sl e l:=by
 rcases l9 e l with ⟨_,h⟩|⟨_,h⟩<;>rw [h]<;>rfl
theorem b1I {ids:List Nat}:Bu ids (sl e l)=sl e l:=by
 rcases l9 e l with ⟨_,h⟩|⟨_,h⟩<;>rw [h]<;>rfl
theorem b3x:pN (sl e l)=false:=by
 rcases l9 e l with ⟨_,h⟩|⟨_,h⟩<;>rw [h]<;>rfl
theorem b5w:E9 (sl e l)=false:=by
 rcases l9 e l with ⟨_,h⟩|⟨_,h⟩<;>rw [h]<;>rfl
theorem b2G:sT (sl e l)=false:=by
 rcases l9 e l with ⟨_,h⟩|⟨_,h⟩<;>rw [h]<;>rfl
theorem c4V {h:b8} {bs:List Nat}:fzC h bs (sl e l)=sl e l:=by
 rcases l9 e l with ⟨_,h⟩|⟨_,h⟩<;>rw [h]<;>rfl
theorem c5u {h:b8} {bs:List Nat}:fzA h bs (sl e l)=sl e l:=by
 rcases l9 e l with ⟨_,h⟩|⟨_,h⟩<;>rw [h]<;>rfl
theorem b7H {h:b8} {m:Nat} {kp:List Nat}:pK h m kp (sl e l)=some (sl e l):=by
 rcases l9 e l with ⟨_,h⟩|⟨_,h⟩<;>rw [h]<;>rfl
theorem b8W {h:b8} {m:Nat} {kp:List Nat}:ET h m kp (sl e l)=some (sl e l):=by
 rcases l9 e l with ⟨_,h⟩|⟨_,h⟩<;>rw [h]<;>rfl
theorem b9v {h:b8} {m:Nat} {kp:List Nat}:Hx h m kp (sl e l)=some (sl e l):=by
 rcases l9 e l with ⟨_,h⟩|⟨_,h⟩<;>rw [h]<;>rfl
theorem c4C:okC (sl e l)=true:=by
 rcases l9 e l with ⟨_,h⟩|⟨_,h⟩<;>rw [h]<;>rfl
theorem Vr {h:b8} (m:Nat) (a:e.esz=m):ed h m (sl e l)=some (rws e l):=by
 subst a
 rcases l9 e l with ⟨rfl,h⟩|⟨b,h⟩
 ·rw [h];simp [ed,rws]
 ·rw [h];simp [ed]
theorem ZV:a6z (sl e l)=false:=by
 rcases l9 e l with ⟨_,h⟩|⟨_,h⟩<;>rw [h]<;>rfl
end
end
end Go.AI
