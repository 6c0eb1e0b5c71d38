/- Part. -/
import Derived.Test.YtdnkignjanfikaaGreatAiDefs
namespace Go.AI
section
theorem OM {C C':cr} (e: ∀f a b r,C f a b=some r->C' f a b=some r) {ow:ff} {h:ba} {new:Nat} {f:FuncId} {args:List V} {r:V×Upd}
 (c:qC C ow h new f args=some r):qC C' ow h new f args=some r:=by
 unfold qC at c ⊢
 cases d:gi ow h f args with
 |none=>rw [d] at c;cases c
 |some p=>
  obtain ⟨args',blks,ids,bor⟩:=p
  rw [d] at c
  dsimp only at c ⊢
  cases hc:C f (xE (ow f) args') (xf (ow f) blks) with
  |none=>rw [hc] at c;cases c
  |some q=>rw [e _ _ _ _ hc];rw [hc] at c;exact c
theorem Qi {C C':cr} (d: ∀f a b r,C f a b=some r->C' f a b=some r) {ow:ff} {o:AOp} {ev:Opd->V} {h:ba} {new:Nat} {r:V×Upd}
 (c:aK C ow o ev h new=some r):aK C' ow o ev h new=some r:=by
 cases o
 case call f args=>simp only [aK] at c ⊢;exact OM d c
 case dyn f args=>
  simp only [aK] at c ⊢
  split at c
  ·exact OM d c
  ·cases c
 all_goals exact c
theorem Ve {C:Nat->cr} {D:cr} (e: ∀f a b r,D f a b=some r-> ∃n,C n f a b=some r) (i:Nat) {ow:ff} {o:AOp} {ev:Opd->V} {h:ba} {new:Nat} {r:V×Upd}
 (c:aK D ow o ev h new=some r): ∃n,aK (C n) ow o ev h new=some r:=by
 have key: ∀f args,qC D ow h new f args=some r-> ∃n,qC (C n) ow h new f args=some r:=by
  intro f args c
  unfold qC at c
  cases d:gi ow h f args with
  |none=>rw [d] at c;cases c
  |some p=>
   obtain ⟨args',blks,ids,bor⟩:=p
   rw [d] at c
   dsimp only at c
   cases hc:D f (xE (ow f) args') (xf (ow f) blks) with
   |none=>rw [hc] at c;cases c
   |some q=>
    rw [hc] at c
    obtain ⟨n,hn⟩:=e _ _ _ _ hc
    refine ⟨n, ?_⟩
    unfold qC
    rw [d]
    dsimp only
    rw [hn]
    exact c
 cases o
 case call f args=>simp only [aK] at c ⊢;exact key _ _ c
 case dyn f args=>
  simp only [aK] at c ⊢
  split at c
  ·exact key _ _ c
  ·cases c
 all_goals exact ⟨i,c⟩
theorem RP {C C':cr} (d: ∀f a b r,C f a b=some r->C' f a b=some r) {ow:ff} {st:St} {s:cx} {n:Nat} {r:St}
 (c:Dt C ow st s n=some r):Dt C' ow st s n=some r:=by
 unfold Dt at c ⊢
 split at c
 ·cases c
 ·exact c
 ·split at c
  ·rename_i v u e;rw [Qi d e];exact c
  ·cases c
theorem yl {C C':cr} (d: ∀f a b r,C f a b=some r->C' f a b=some r) {ow:ff}: ∀{l:List cx} {n:Nat} {st:St} {r:St},
 lD C ow l n st=some r->lD C' ow l n st=some r
 |[],_,_,_,c=>c
 |s::l,n,st,r,c=>by
  simp only [lD] at c ⊢
  split at c
  ·rename_i st' h;rw [RP d h];exact yl d c
  ·cases c
theorem RK {C C':cr} (d: ∀f a b r,C f a b=some r->C' f a b=some r) {ow:ff} {st:St} {s:cx} {i n:Nat} {r:St×Rec}
 (c:Az C ow st s i n=some r):Az C' ow st s i n=some r:=by
 unfold Az at c ⊢
 split at c
 ·cases c
 ·exact c
 ·split at c
  ·rename_i v u e;rw [Qi d e];exact c
  ·cases c
theorem y6 {C C':cr} (d: ∀f a b r,C f a b=some r->C' f a b=some r) {ow:ff} {base:Nat}: ∀{l:List cx} {n:Nat} {st:St} {r:St×List Rec},
 ll C ow base l n st=some r->ll C' ow base l n st=some r
 |[],_,_,_,c=>c
 |s::l,n,st,r,c=>by
  simp only [ll] at c ⊢
  split at c
  ·rename_i st' rc h
   rw [RK d h]
   dsimp only
   split at c
   ·rename_i st2 rs e;rw [y6 d e];exact c
   ·cases c
  ·cases c
theorem ep {C C':cr} (j: ∀f a b r,C f a b=some r->C' f a b=some r) {ow:ff}: ∀(n m:Nat),n<=m-> ∀{c:aU} {st:St} {r:dd×St},
 dE C ow n c st=some r->dE C' ow m c st=some r
 |0,_,_,_,_,_,d=>by simp [dE] at d
 |n+1,0,h,_,_,_,_=>absurd h om
 |n+1,m+1,h,c,st,r,d=>by
  have ih:=fun {c st r}=>ep j (ow:=ow) n m om (c:=c) (st:=st) (r:=r)
  cases c with
  |skip=>exact d
  |region base steps live=>
   simp only [dE,vI] at d ⊢
   split at d
   ·rename_i st' h;rw [yl j h];exact d
   ·cases d
  |drawn base steps deps live=>
   simp only [dE,Cb] at d ⊢
   split at d
   ·rename_i st' rs h;rw [y6 j h];exact d
   ·cases d
  |seq a b=>
   simp only [dE] at d ⊢
   cases i:dE C ow n a st with
   |none=>rw [i] at d;cases d
   |some p=>
    obtain ⟨e,st'⟩:=p
    rw [ih i]
    rw [i] at d
    cases e with
    |normal=>exact ih d
    |exit id=>exact d
    |ret=>exact d
  |cond c a b=>
   simp only [dE] at d ⊢
   split at d
   ·exact ih d
   ·exact ih d
   ·cases d
  |block id c=>
   simp only [dE] at d ⊢
   cases i:dE C ow n c st with
   |none=>rw [i] at d;cases d
   |some p=>rw [ih i];rw [i] at d;exact d
  |loop c=>
   simp only [dE] at d ⊢
   cases i:dE C ow n c st with
   |none=>rw [i] at d;cases d
   |some p=>
    obtain ⟨e,st'⟩:=p
    rw [ih i]
    rw [i] at d
    cases e with
    |normal=>exact ih d
    |exit id=>exact d
    |ret=>exact d
  |exit id=>exact d
  |ret=>exact d
  |ghost g c=>
   simp only [dE] at d ⊢
   split at d
   ·exact ih d
   ·cases d
theorem Q7 (T:Tab) (ow:ff): ∀(n:Nat) f a b r,gj T ow n f a b=some r->gj T ow (n+1) f a b=some r
 |0,_,_,_,_,h=>by simp [gj] at h
 |n+1,f,a,b,r,h=>by
  simp only [gj] at h ⊢
  split at h
  ·cases h
  rotate_left
  ·exact h
  ·rename_i af d
   cases c:dE (gj T ow n) ow n af.body (start a b) with
   |none=>rw [c] at h;simp [mP,Zk] at h
   |some p=>
    have:=ep (Q7 T ow n) (ow:=ow) n (n+1) om c
    simp only [gj] at this
    rw [this]
    rw [c] at h
    exact h
theorem er (T:Tab) (ow:ff) {n m:Nat} (h:n<=m): ∀f a b r,gj T ow n f a b=some r->gj T ow m f a b=some r:=by
 induction h with
 |refl=>exact fun _ _ _ _ h=>h
 |step _ ih=>exact fun f a b r h=>Q7 T ow _ f a b r (ih f a b r h)
open Classical in
noncomputable def lim {α:Type} (g:Nat->Option α):Option α:=if h: ∃n r,g n=some r then g h.choose else none
theorem a2B {α:Type} {g:Nat->Option α} (c: ∀n m r,n<=m->g n=some r->g m=some r) {n:Nat} {r:α} (h:g n=some r):lim g=some r:=by
 have b: ∃n r,g n=some r:=⟨n,r,h⟩
 unfold lim
 rw [dif_pos b]
 obtain ⟨r',a⟩:=b.choose_spec
 have e:=c _ (max n b.choose) _ (Nat.le_max_left _ _) h
 have d:=c _ (max n b.choose) _ (Nat.le_max_right _ _) a
 rw [e] at d
 rw [a, <-d]
theorem VL {α:Type} {g:Nat->Option α} {r:α} (h:lim g=some r): ∃n,g n=some r:=by
 unfold lim at h
 split at h
 ·exact ⟨_,h⟩
 ·cases h
noncomputable def Call (T:Tab) (ow:ff):cr:=fun f a b=>lim fun n=>gj T ow n f a b
noncomputable def ji (T:Tab) (ow:ff) (c:aU) (st:St):Option (dd×St):=lim fun n=>dE (gj T ow n) ow n c st
section
variable {T:Tab} {ow:ff}
theorem b76 {n m:Nat} (h:n<=m) {c:aU} {st:St} {r:dd×St} (a:dE (gj T ow n) ow n c st=some r):dE (gj T ow m) ow m c st=some r:=
 ep (er T ow h) n m h a
theorem i9 {n:Nat} {c:aU} {st:St} {r:dd×St} (h:dE (gj T ow n) ow n c st=some r):ji T ow c st=some r:=
 a2B (g:=fun n=>dE (gj T ow n) ow n c st) (fun _ _ _ a h=>b76 a h) h
theorem mz {c:aU} {st:St} {r:dd×St} (h:ji T ow c st=some r): ∃n,dE (gj T ow n) ow n c st=some r:=VL h
theorem XS {n:Nat} {f:FuncId} {a:List V} {b:List Blk} {r:V×List Blk} (h:gj T ow n f a b=some r):Call T ow f a b=some r:=
 a2B (g:=fun n=>gj T ow n f a b) (fun _ _ _ c h=>er T ow c _ _ _ _ h) h
theorem PG {f:FuncId} {a:List V} {b:List Blk} {r:V×List Blk} (h:Call T ow f a b=some r): ∃n,gj T ow n f a b=some r:=VL h
theorem zd {α:Type} {a b:Option α} (c: ∀r,a=some r->b=some r) (d: ∀r,b=some r->a=some r):a=b:=by
 cases a with
 |none=>cases b with
  |none=>rfl
  |some r=>exact absurd (d r rfl) sm
 |some r=>exact (c r rfl).symm
theorem SJ: ∀{l:List cx} {n:Nat} {st:St} {r:St},lD (Call T ow) ow l n st=some r-> ∃k,lD (gj T ow k) ow l n st=some r
 |[],_,_,_,h=>⟨0,h⟩
 |s::l,n,st,r,h=>by
  simp only [lD] at h
  cases a:Dt (Call T ow) ow st s n with
  |none=>rw [a] at h;cases h
  |some st'=>
   rw [a] at h
   obtain ⟨b,c⟩:=SJ h
   have: ∃k,Dt (gj T ow k) ow st s n=some st':=by
    unfold Dt at a ⊢
    split at a
    ·cases a
    ·exact ⟨0,a⟩
    ·split at a
     ·rename_i v u f
      obtain ⟨k,i⟩:=Ve (C:=gj T ow) (D:=Call T ow) (fun _ _ _ _ h=>PG h) 0 f
      exact ⟨k,by rw [i];exact a⟩
     ·cases a
   obtain ⟨d,e⟩:=this
   refine ⟨max d b, ?_⟩
   simp only [lD]
   rw [RP (er T ow (Nat.le_max_left d b)) e]
   exact yl (er T ow (Nat.le_max_right d b)) c
theorem RF {base:Nat}: ∀{l:List cx} {n:Nat} {st:St} {r:St×List Rec},ll (Call T ow) ow base l n st=some r-> ∃k,ll (gj T ow k) ow base l n st=some r
 |[],_,_,_,h=>⟨0,h⟩
 |s::l,n,st,r,h=>by
  simp only [ll] at h
  cases a:Az (Call T ow) ow st s n (base+n) with
  |none=>rw [a] at h;cases h
  |some p=>
   obtain ⟨st',rc⟩:=p
   rw [a] at h
   dsimp only at h
   cases b:ll (Call T ow) ow base l (n+1) st' with
   |none=>rw [b] at h;cases h
   |some q=>
    obtain ⟨st2,rs⟩:=q
    rw [b] at h
    obtain ⟨c,d⟩:=RF b
    have: ∃k,Az (gj T ow k) ow st s n (base+n)=some (st',rc):=by
     unfold Az at a ⊢
     split at a
     ·cases a
     ·exact ⟨0,a⟩
     ·split at a
      ·rename_i v u i
       obtain ⟨k,j⟩:=Ve (C:=gj T ow) (D:=Call T ow) (fun _ _ _ _ h=>PG h) 0 i
       exact ⟨k,by rw [j];exact a⟩
      ·cases a
    obtain ⟨e,f⟩:=this
    refine ⟨max e c, ?_⟩
    simp only [ll]
    rw [RK (er T ow (Nat.le_max_left e c)) f]
    dsimp only
    rw [y6 (er T ow (Nat.le_max_right e c)) d]
    exact h
theorem R9 (k:Nat): ∀f a b r,gj T ow k f a b=some r->Call T ow f a b=some r:=fun _ _ _ _ h=>XS h
theorem a6E (st:St):ji T ow .skip st=some (.normal,st):=i9 (n:=1) rfl
theorem a6Q (id:Nat) (st:St):ji T ow (.exit id) st=some (.exit id,st):=i9 (n:=1) rfl
theorem b57 (st:St):ji T ow .ret st=some (.ret,st):=i9 (n:=1) rfl
theorem OX (base:Nat) (steps:List cx) (live:List Nat) (st:St):ji T ow (.region base steps live) st=vI (Call T ow) ow base steps live st:=by
 refine zd (fun r h=> ?_) (fun r h=> ?_)
 ·obtain ⟨n,hn⟩:=mz h
  cases n with
  |zero=>simp [dE] at hn
  |succ n=>
   simp only [dE,vI] at hn ⊢
   split at hn
   ·rename_i st' h';rw [yl (R9 (n+1)) h'];exact hn
   ·cases hn
 ·unfold vI at h
  split at h
  ·rename_i st' h'
   obtain ⟨k,a⟩:=SJ h'
   refine i9 (n:=k+1) ?_
   simp only [dE,vI]
   rw [yl (er T ow (p7 k)) a]
   exact h
  ·cases h
theorem a3o (base:Nat) (steps:List cx) (deps:List (List Nat)) (live:List Nat) (st:St):
 ji T ow (.drawn base steps deps live) st=Cb (Call T ow) ow base steps deps live st:=by
 refine zd (fun r h=> ?_) (fun r h=> ?_)
 ·obtain ⟨n,hn⟩:=mz h
  cases n with
  |zero=>simp [dE] at hn
  |succ n=>
   simp only [dE,Cb] at hn ⊢
   split at hn
   ·rename_i st' rs h';rw [y6 (R9 (n+1)) h'];exact hn
   ·cases hn
 ·unfold Cb at h
  split at h
  ·rename_i st' rs h'
   obtain ⟨k,a⟩:=RF h'
   refine i9 (n:=k+1) ?_
   simp only [dE,Cb]
   rw [y6 (er T ow (p7 k)) a]
   exact h
  ·cases h
theorem LU (a b:aU) (st:St):ji T ow (.seq a b) st=(match ji T ow a st with
 |some (.normal,st')=>ji T ow b st'
 |r=>r):=by
 refine zd (fun r h=> ?_) (fun r h=> ?_)
 ·obtain ⟨n,hn⟩:=mz h
  cases n with
  |zero=>simp [dE] at hn
  |succ n=>
   simp only [dE] at hn
   cases c:dE (gj T ow (n+1)) ow n a st with
   |none=>rw [c] at hn;cases hn
   |some p=>
    obtain ⟨e,st'⟩:=p
    rw [i9 (ep (fun _ _ _ _ h=>h) n (n+1) om c)]
    rw [c] at hn
    cases e with
    |normal=>exact i9 (ep (fun _ _ _ _ h=>h) n (n+1) om hn)
    |exit id=>exact hn
    |ret=>exact hn
 ·cases c:ji T ow a st with
  |none=>rw [c] at h;cases h
  |some p=>
   obtain ⟨e,st'⟩:=p
   rw [c] at h
   obtain ⟨n,hn⟩:=mz c
   cases e with
   |normal=>
    obtain ⟨m,d⟩:=mz (show ji T ow b st'=some r from h)
    refine i9 (n:=max n m+1) ?_
    simp only [dE]
    rw [ep (er T ow om) n (max n m) om hn]
    exact ep (er T ow om) m (max n m) om d
   |exit id=>
    refine i9 (n:=n+1) ?_
    simp only [dE]
    rw [ep (er T ow om) n n om hn]
    exact h
   |ret=>
    refine i9 (n:=n+1) ?_
    simp only [dE]
    rw [ep (er T ow om) n n om hn]
    exact h
theorem a7c (c:Opd) (a b:aU) (st:St):ji T ow (.cond c a b) st=(match st.ev c with
 | .lit (.bool true)=>ji T ow a st
 | .lit (.bool false)=>ji T ow b st
 |_=>none):=by
 refine zd (fun r h=> ?_) (fun r h=> ?_)
 ·obtain ⟨n,hn⟩:=mz h
  cases n with
  |zero=>simp [dE] at hn
  |succ n=>
   simp only [dE] at hn
   split at hn
   ·rename_i hc;simp only [hc];exact i9 (ep (fun _ _ _ _ h=>h) n (n+1) om hn)
   ·rename_i hc;simp only [hc];exact i9 (ep (fun _ _ _ _ h=>h) n (n+1) om hn)
   ·cases hn
 ·split at h
  ·rename_i hc
   obtain ⟨n,hn⟩:=mz h
   refine i9 (n:=n+1) ?_
   simp only [dE,hc]
   exact ep (er T ow om) n n om hn
  ·rename_i hc
   obtain ⟨n,hn⟩:=mz h
   refine i9 (n:=n+1) ?_
   simp only [dE,hc]
   exact ep (er T ow om) n n om hn
  ·cases h
theorem JT (id:Nat) (c:aU) (st:St):ji T ow (.block id c) st=(match ji T ow c st with
 |some (.exit id',st')=>if id'=id then some (.normal,st') else some (.exit id',st')
 |r=>r):=by
 refine zd (fun r h=> ?_) (fun r h=> ?_)
 ·obtain ⟨n,hn⟩:=mz h
  cases n with
  |zero=>simp [dE] at hn
  |succ n=>
   simp only [dE] at hn
   cases a:dE (gj T ow (n+1)) ow n c st with
   |none=>rw [a] at hn;cases hn
   |some p=>
    rw [i9 (ep (fun _ _ _ _ h=>h) n (n+1) om a)]
    rw [a] at hn
    exact hn
 ·cases a:ji T ow c st with
  |none=>rw [a] at h;cases h
  |some p=>
   obtain ⟨n,hn⟩:=mz a
   refine i9 (n:=n+1) ?_
   simp only [dE]
   rw [ep (er T ow om) n n om hn]
   rw [a] at h
   exact h
theorem a7r (c:aU) (st:St):ji T ow (.loop c) st=(match ji T ow c st with
 |some (.normal,st')=>ji T ow (.loop c) st'
 |r=>r):=by
 refine zd (fun r h=> ?_) (fun r h=> ?_)
 ·obtain ⟨n,hn⟩:=mz h
  cases n with
  |zero=>simp [dE] at hn
  |succ n=>
   simp only [dE] at hn
   cases a:dE (gj T ow (n+1)) ow n c st with
   |none=>rw [a] at hn;cases hn
   |some p=>
    obtain ⟨e,st'⟩:=p
    rw [i9 (ep (fun _ _ _ _ h=>h) n (n+1) om a)]
    rw [a] at hn
    cases e with
    |normal=>exact i9 (ep (fun _ _ _ _ h=>h) n (n+1) om hn)
    |exit id=>exact hn
    |ret=>exact hn
 ·cases a:ji T ow c st with
  |none=>rw [a] at h;cases h
  |some p=>
   obtain ⟨e,st'⟩:=p
   rw [a] at h
   obtain ⟨n,hn⟩:=mz a
   cases e with
   |normal=>
    obtain ⟨m,b⟩:=mz (show ji T ow (.loop c) st'=some r from h)
    refine i9 (n:=max n m+1) ?_
    simp only [dE]
    rw [ep (er T ow om) n (max n m) om hn]
    exact ep (er T ow om) m (max n m) om b
   |exit id=>
    refine i9 (n:=n+1) ?_
    simp only [dE]
    rw [ep (er T ow om) n n om hn]
    exact h
   |ret=>
    refine i9 (n:=n+1) ?_
    simp only [dE]
    rw [ep (er T ow om) n n om hn]
    exact h
theorem oo (g:dX) (c:aU) (st:St):ji T ow (.ghost g c) st=(match dN st g with
 |some st'=>ji T ow c st'
 |none=>none):=by
 refine zd (fun r h=> ?_) (fun r h=> ?_)
 ·obtain ⟨n,hn⟩:=mz h
  cases n with
  |zero=>simp [dE] at hn
  |succ n=>
   simp only [dE] at hn
   split at hn
   ·rename_i st' a;simp only [a];exact i9 (ep (fun _ _ _ _ h=>h) n (n+1) om hn)
   ·cases hn
 ·split at h
  ·rename_i st' a
   obtain ⟨n,hn⟩:=mz h
   refine i9 (n:=n+1) ?_
   simp only [dE,a]
   exact ep (er T ow om) n n om hn
  ·cases h
theorem a4R (f:FuncId) (a:List V) (b:List Blk):Call T ow f a b=(match T f with
 |none=>none
 |some (.code af)=>Zk af (mP af b.length (ji T ow af.body (start a b)))
 |some (.ext g)=>g a b):=by
 refine zd (fun r h=> ?_) (fun r h=> ?_)
 ·obtain ⟨n,hn⟩:=PG h
  cases n with
  |zero=>simp [gj] at hn
  |succ n=>
   simp only [gj] at hn
   split at hn
   ·cases hn
   rotate_left
   ·rename_i g e;simp only [e];exact hn
   ·rename_i af c
    cases d:dE (gj T ow n) ow n af.body (start a b) with
    |none=>rw [d] at hn;simp [mP,Zk] at hn
    |some p=>simp only [c];rw [i9 d];rw [d] at hn;exact hn
 ·split at h
  ·cases h
  rotate_left
  ·rename_i g e
   refine XS (n:=1) ?_
   simp only [gj,e]
   exact h
  ·rename_i af c
   cases d:ji T ow af.body (start a b) with
   |none=>rw [d] at h;simp [mP,Zk] at h
   |some p=>
    obtain ⟨n,hn⟩:=mz d
    refine XS (n:=n+1) ?_
    simp only [gj,c]
    rw [hn]
    rw [d] at h
    exact h
end
end
set_option linter.unusedVariables false
set_option linter.unusedSimpArgs false
section
def br {α:Type} (c:Bool) (x y:α):α:=match c with
 |true=>x
 |false=>y
theorem dj {α:Type} (x y:α):br true x y=x:=rfl
theorem bu {α:Type} (x y:α):br false x y=y:=rfl
theorem CV {α:Type} {c:Bool} {x y r:α} (h:c=true) (a:x=r):br c x y=r:=by subst h;exact a
theorem a7y {α:Type} {c:Bool} {x y r:α} (h:c=false) (a:y=r):br c x y=r:=by subst h;exact a
theorem brc {α:Type} {c:Bool} {x y r:α} (h:br c x y=r):(c=true/\x=r)\/(c=false/\y=r):=by
 cases c
 ·exact .inr ⟨rfl,h⟩
 ·exact .inl ⟨rfl,h⟩
theorem brg {α:Type} {c:Bool} {x:Option α} {r:α} (h:br c x none=some r):c=true/\x=some r:=by
 cases c
 ·cases h
 ·exact ⟨rfl,h⟩
theorem bd {α β:Type} {x:Option α} {g:α->Option β} {r:β} (h:x.bind g=some r): ∃a,x=some a/\g a=some r:=by
 cases x with
 |none=>cases h
 |some a=>exact ⟨a,rfl,h⟩
inductive Fr where
 |code (c:aU)
 |steps (n:Nat) (ss:List cx) (live:List Nat)
 |dr (base i:Nat) (ss:List cx) (deps:List (List Nat)) (live:List Nat) (rs:List Rec)
 |blk (id:Nat)
section
variable {R:Type}
noncomputable def wI (T:Tab) (ow:ff) (k:dd->St->Option R):List Fr->Option Nat->St->Option R
 |[],none,st=>k .normal st
 |[],some id,st=>k (.exit id) st
 | .blk id'::K,some id,st=>if id'=id then wI T ow k K none st else wI T ow k K (some id) st
 |_::K,some id,st=>wI T ow k K (some id) st
 | .blk _::K,none,st=>wI T ow k K none st
 | .code c::K,none,st=>match ji T ow c st with
   |some (.normal,st')=>wI T ow k K none st'
   |some (.exit id,st')=>wI T ow k K (some id) st'
   |some (.ret,st')=>k .ret st'
   |none=>none
 | .steps n ss live::K,none,st=>match lD (Call T ow) ow ss n st with
   |some st'=>wI T ow k K none (trim live st')
   |none=>none
 | .dr base i ss deps live rs::K,none,st=>match ll (Call T ow) ow base ss i st with
   |some (st',rs')=>br (tE deps (rs++rs'.filter Rec.loud)) (wI T ow k K none (trim live st')) none
   |none=>none
noncomputable def Rn (T:Tab) (ow:ff) (k:dd->St->Option R) (K:List Fr) (st:St):Option R:=wI T ow k K none st
noncomputable def Unw (T:Tab) (ow:ff) (k:dd->St->Option R) (id:Nat) (K:List Fr) (st:St):Option R:=wI T ow k K (some id) st
noncomputable def goR (T:Tab) (ow:ff) (k:dd->St->Option R) (K:List Fr):Option (dd×St)->Option R
 |some (.normal,st')=>Rn T ow k K st'
 |some (.exit id,st')=>Unw T ow k id K st'
 |some (.ret,st')=>k .ret st'
 |none=>none
variable {T:Tab} {ow:ff} {k:dd->St->Option R}
theorem gg (c:aU) (K:List Fr) (st:St):Rn T ow k (.code c::K) st=goR T ow k K (ji T ow c st):=by
 unfold Rn wI goR
 cases ji T ow c st with
 |none=>rfl
 |some p=>obtain ⟨e,st'⟩:=p;cases e<;>rfl
theorem b9V (st:St):Rn T ow k [] st=k .normal st:=rfl
theorem b83 (id:Nat) (K:List Fr) (st:St):Rn T ow k (.blk id::K) st=Rn T ow k K st:=rfl
theorem b2Q (K:List Fr) (st:St):Rn T ow k (.code .skip::K) st=Rn T ow k K st:=by rw [gg,a6E];rfl
theorem b0G (id:Nat) (K:List Fr) (st:St):Rn T ow k (.code (.exit id)::K) st=Unw T ow k id K st:=by rw [gg,a6Q];rfl
theorem b6p (K:List Fr) (st:St):Rn T ow k (.code .ret::K) st=k .ret st:=by rw [gg,b57];rfl
theorem b6U (a b:aU) (K:List Fr) (st:St):Rn T ow k (.code (.seq a b)::K) st=Rn T ow k (.code a:: .code b::K) st:=by
 rw [gg,LU,gg]
 cases ji T ow a st with
 |none=>rfl
 |some p=>
  obtain ⟨e,st'⟩:=p
  cases e with
  |normal=>simp only [goR];rw [gg];rfl
  |exit id=>rfl
  |ret=>rfl
theorem a6C (id:Nat) (c:aU) (K:List Fr) (st:St):Rn T ow k (.code (.block id c)::K) st=Rn T ow k (.code c:: .blk id::K) st:=by
 rw [gg,JT,gg]
 cases ji T ow c st with
 |none=>rfl
 |some p=>
  obtain ⟨e,st'⟩:=p
  cases e with
  |normal=>rfl
  |exit id'=>
   simp only [goR,Unw,Rn,wI]
   by_cases h:id'=id
   ·subst h;simp
   ·rw [a7 h,a7 (fun e=>h e.symm)]
  |ret=>rfl
noncomputable def b4G (T:Tab) (ow:ff) (k:dd->St->Option R) (a b:aU) (K:List Fr) (st:St):V->Option R
 | .lit (.bool c)=>br c (Rn T ow k (.code a::K) st) (Rn T ow k (.code b::K) st)
 |_=>none
theorem b54 (c:Opd) (a b:aU) (K:List Fr) (st:St):Rn T ow k (.code (.cond c a b)::K) st=b4G T ow k a b K st (st.ev c):=by
 rw [gg,a7c]
 unfold b4G
 split
 ·rename_i h;rw [h];exact (gg _ _ _).symm
 ·rename_i h;rw [h];exact (gg _ _ _).symm
 ·rename_i d e
  split
  ·rename_i c' h;cases c'
   ·exact absurd h e
   ·exact absurd h d
  ·rfl
theorem a27 (a b:aU) (K:List Fr) (st:St) (c:Bool):b4G T ow k a b K st (.lit (.bool c))=br c (Rn T ow k (.code a::K) st) (Rn T ow k (.code b::K) st):=rfl
noncomputable def ghR (T:Tab) (ow:ff) (k:dd->St->Option R) (c:aU) (K:List Fr):Option St->Option R
 |some st'=>Rn T ow k (.code c::K) st'
 |none=>none
theorem a9h (g:dX) (c:aU) (K:List Fr) (st:St):Rn T ow k (.code (.ghost g c)::K) st=ghR T ow k c K (dN st g):=by
 rw [gg,oo]
 cases dN st g with
 |none=>rfl
 |some st'=>simp only [ghR];rw [gg]
theorem b0q (c:aU) (K:List Fr) (st:St):ghR T ow k c K (some st)=Rn T ow k (.code c::K) st:=rfl
theorem b2E (id:Nat) (K:List Fr) (st:St):goR T ow k K (some (.exit id,st))=Unw T ow k id K st:=rfl
theorem b8V (K:List Fr) (st:St):goR T ow k K (some (.ret,st))=k .ret st:=rfl
theorem b6z (id:Nat) (st:St):Unw T ow k id [] st=k (.exit id) st:=rfl
theorem b3V (id:Nat) (c:aU) (K:List Fr) (st:St):Unw T ow k id (.code c::K) st=Unw T ow k id K st:=rfl
theorem b5T (id id':Nat) (K:List Fr) (st:St):Unw T ow k id (.blk id'::K) st=if id'=id then Rn T ow k K st else Unw T ow k id K st:=rfl
theorem a1W (n:Nat) (ss:List cx) (live:List Nat) (K:List Fr) (st:St):Rn T ow k (.code (.region n ss live)::K) st=Rn T ow k (.steps n ss live::K) st:=by
 rw [gg,OX]
 unfold vI
 simp only [Rn,wI]
 cases lD (Call T ow) ow ss n st<;>rfl
theorem a9i (n:Nat) (ss:List cx) (deps:List (List Nat)) (live:List Nat) (K:List Fr) (st:St):Rn T ow k (.code (.drawn n ss deps live)::K) st=Rn T ow k (.dr n 0 ss deps live []::K) st:=by
 rw [gg,a3o]
 unfold Cb
 simp only [Rn,wI]
 cases ll (Call T ow) ow n ss 0 st with
 |none=>rfl
 |some p=>
  obtain ⟨st',rs⟩:=p
  simp only [bA]
  cases tE deps (rs.filter Rec.loud)<;>rfl
theorem TY (n:Nat) (live:List Nat) (K:List Fr) (st:St):Rn T ow k (.steps n [] live::K) st=Rn T ow k K (trim live st):=rfl
noncomputable def aft (T:Tab) (ow:ff) (k:dd->St->Option R) (d:Option Nat) (n:Nat) (ss:List cx) (live:List Nat) (K:List Fr) (st:St):Option (V×Upd)->Option R
 |some (v,u)=>Rn T ow k (.steps (n+1) ss live::K) ((st.upd u).put d v)
 |none=>none
variable {d:Option Nat} {n:Nat} {ss:List cx} {live:List Nat} {K:List Fr} {st:St}
theorem a7e (op:AOp):Rn T ow k (.steps n (⟨d,op,none⟩::ss) live::K) st=aft T ow k d n ss live K st (aK (Call T ow) ow op st.ev st.heap n):=by
 unfold aft
 simp only [Rn,wI,lD,Dt,St.want]
 cases aK (Call T ow) ow op st.ev st.heap n with
 |none=>rfl
 |some p=>obtain ⟨v,u⟩:=p;rfl
theorem b3N (v:V) (u:Upd):aft T ow k d n ss live K st (some (v,u))=Rn T ow k (.steps (n+1) ss live::K) ((st.upd u).put d v):=rfl
theorem a9K:aft T ow k d n ss live K st none=none:=rfl
theorem c3h (c:Bool) (x y:Option (V×Upd)):aft T ow k d n ss live K st (br c x y)=br c (aft T ow k d n ss live K st x) (aft T ow k d n ss live K st y):=by cases c<;>rfl
theorem b5j {α:Type} (x:Option α) (f:α->Option (V×Upd)):aft T ow k d n ss live K st (x.bind f)=x.bind (fun a=>aft T ow k d n ss live K st (f a)):=by cases x<;>rfl
noncomputable def gd (T:Tab) (ow:ff) (k:dd->St->Option R) (t:Nat) (b:Bool) (d:Option Nat) (op:AOp) (n:Nat) (ss:List cx) (live:List Nat) (K:List Fr) (st:St):V->Option R
 | .lit (.bool c)=>br (c==b) (Rn T ow k (.steps n (⟨d,op,none⟩::ss) live::K) { st with e:=lx t (.lit (.bool c)) st.e })
  (Rn T ow k (.steps (n+1) ss live::K) ({ st with e:=lx t (.lit (.bool c)) st.e }.put d (.lit (.tuple #[]))))
 | .lit (.tuple _)=>Rn T ow k (.steps (n+1) ss live::K) (st.put d (.lit (.tuple #[])))
 |_=>none
theorem UP {α:Type}: ∀{l:List (Nat×α)} {t:Nat} {v:α},eH l t=some v->lx t v l=l
 |[],_,_,h=>by simp [eH] at h
 | (j,u)::r,t,v,h=>by
   simp only [eH] at h
   simp only [lx]
   split at h
   ·rename_i e;cases h;subst e;simp
   ·rename_i e;rw [a7 e,UP h]
theorem YF {v:V} {t:Nat} (h:st.get t=v) (b:v≠ .undef):({ st with e:=lx t v st.e }:St)=st:=by
 unfold St.get at h
 cases a:eH st.e t with
 |none=>rw [a] at h;exact absurd h.symm b
 |some u=>
  rw [a] at h;cases h
  show ({ st with e:=lx t u st.e }:St)=st
  rw [UP a]
theorem a8o (t:Nat) (b:Bool) (op:AOp):Rn T ow k (.steps n (⟨d,op,some (t,b)⟩::ss) live::K) st=gd T ow k t b d op n ss live K st (st.get t):=by
 cases a:st.get t with
 |lit v=>
  cases v with
  |bool c=>
   simp only [gd]
   rw [YF a sm]
   simp only [Rn,wI,lD,Dt,St.want,a]
   cases e:(c==b)
   ·simp [bu,e]
   ·simp [dj,e]
  |tuple xs=>simp only [gd];simp only [Rn,wI,lD,Dt,St.want,a]
  |_=>simp only [gd];simp only [Rn,wI,lD,Dt,St.want,a]
 |_=>simp only [gd];simp only [Rn,wI,lD,Dt,St.want,a]
theorem b9C (t:Nat) (op:AOp) (c:Bool):gd T ow k t true d op n ss live K st (.lit (.bool c))=
 br c (Rn T ow k (.steps n (⟨d,op,none⟩::ss) live::K) { st with e:=lx t (.lit (.bool true)) st.e })
  (Rn T ow k (.steps (n+1) ss live::K) ({ st with e:=lx t (.lit (.bool false)) st.e }.put d (.lit (.tuple #[])))):=by cases c<;>rfl
theorem b0F (t:Nat) (op:AOp) (c:Bool):gd T ow k t false d op n ss live K st (.lit (.bool c))=
 br c (Rn T ow k (.steps (n+1) ss live::K) ({ st with e:=lx t (.lit (.bool true)) st.e }.put d (.lit (.tuple #[]))))
  (Rn T ow k (.steps n (⟨d,op,none⟩::ss) live::K) { st with e:=lx t (.lit (.bool false)) st.e }):=by cases c<;>rfl
theorem b0E (t:Nat) (b:Bool) (op:AOp) (xs:Array Value):gd T ow k t b d op n ss live K st (.lit (.tuple xs))=Rn T ow k (.steps (n+1) ss live::K) (st.put d (.lit (.tuple #[]))):=rfl
variable {base i:Nat} {deps:List (List Nat)} {rs:List Rec} {fp:List Nat}
def b33 (rs:List Rec) (i:Nat) (fp wr:List Nat):List Rec:=rs++[Rec.mk i fp wr].filter Rec.loud
theorem a4t:Rn T ow k (.dr base i [] deps live rs::K) st=br (tE deps rs) (Rn T ow k K (trim live st)) none:=by
 simp only [Rn,wI,ll,sO,bM]
noncomputable def QK (T:Tab) (ow:ff) (k:dd->St->Option R) (d:Option Nat) (base i:Nat) (ss:List cx) (deps:List (List Nat)) (live:List Nat) (rs:List Rec) (K:List Fr) (st:St) (fp:List Nat):Option (V×Upd)->Option R
 |some (v,u)=>br ((u.map (·.1)).all (fun b=>decide (b∈fp)||(st.heap b).isNone))
  (Rn T ow k (.dr base (i+1) ss deps live (b33 rs i fp (u.map (·.1)))::K) ((st.upd u).put d v)) none
 |none=>none
theorem c3v (op:AOp):Rn T ow k (.dr base i (⟨d,op,none⟩::ss) deps live rs::K) st=
 QK T ow k d base i ss deps live rs K st (mV ow op st.ev st.heap) (aK (Call T ow) ow op st.ev (vl st.heap (mV ow op st.ev st.heap)) (base+i)):=by
 unfold QK
 simp only [Rn,wI,ll,Az,St.want]
 cases a:aK (Call T ow) ow op st.ev (vl st.heap (mV ow op st.ev st.heap)) (base+i) with
 |none=>rfl
 |some p=>
  obtain ⟨v,u⟩:=p
  dsimp only
  by_cases hc:(u.map (·.1)).all (fun b=>decide (b∈mV ow op st.ev st.heap)||(st.heap b).isNone)=true
  ·rw [hc,dj,aa rfl]
   dsimp only
   cases ll (Call T ow) ow base ss (i+1) ((st.upd u).put d v) with
   |none=>rfl
   |some q=>
    obtain ⟨st2,rs2⟩:=q
    simp only [b33,mD,sO,aP]
    cases Rec.loud ⟨i,mV ow op st.ev st.heap,u.map (·.1)⟩<;>rfl
  ·rw [Bool.not_eq_true] at hc
   rw [hc,bu,a7 dcd]
theorem a9n (v:V) (u:Upd):QK T ow k d base i ss deps live rs K st fp (some (v,u))=br ((u.map (·.1)).all (fun b=>decide (b∈fp)||(st.heap b).isNone))
 (Rn T ow k (.dr base (i+1) ss deps live (b33 rs i fp (u.map (·.1)))::K) ((st.upd u).put d v)) none:=rfl
theorem a6S:QK T ow k d base i ss deps live rs K st fp none=none:=rfl
theorem b7V (c:Bool) (x y:Option (V×Upd)):QK T ow k d base i ss deps live rs K st fp (br c x y)=br c (QK T ow k d base i ss deps live rs K st fp x) (QK T ow k d base i ss deps live rs K st fp y):=by cases c<;>rfl
theorem a7n {α:Type} (x:Option α) (f:α->Option (V×Upd)):QK T ow k d base i ss deps live rs K st fp (x.bind f)=x.bind (fun a=>QK T ow k d base i ss deps live rs K st fp (f a)):=by cases x<;>rfl
noncomputable def gdD (T:Tab) (ow:ff) (k:dd->St->Option R) (t:Nat) (b:Bool) (d:Option Nat) (op:AOp) (base i:Nat) (ss:List cx) (deps:List (List Nat)) (live:List Nat) (rs:List Rec) (K:List Fr) (st:St):V->Option R
 | .lit (.bool c)=>br (c==b) (Rn T ow k (.dr base i (⟨d,op,none⟩::ss) deps live rs::K) { st with e:=lx t (.lit (.bool c)) st.e })
  (Rn T ow k (.dr base (i+1) ss deps live rs::K) ({ st with e:=lx t (.lit (.bool c)) st.e }.put d (.lit (.tuple #[]))))
 | .lit (.tuple _)=>Rn T ow k (.dr base (i+1) ss deps live rs::K) (st.put d (.lit (.tuple #[])))
 |_=>none
theorem a58 (op:AOp) (g:Nat×Bool) (h:st.want (some g)=some false):Rn T ow k (.dr base i (⟨d,op,some g⟩::ss) deps live rs::K) st=Rn T ow k (.dr base (i+1) ss deps live rs::K) (st.put d (.lit (.tuple #[]))):=by
 simp only [Rn,wI,ll,Az,h]
 cases ll (Call T ow) ow base ss (i+1) (st.put d (.lit (.tuple #[]))) with
 |none=>rfl
 |some q=>obtain ⟨st2,rs2⟩:=q;rfl
theorem c4V (op:AOp) (g:Nat×Bool) (h:st.want (some g)=some true):Rn T ow k (.dr base i (⟨d,op,some g⟩::ss) deps live rs::K) st=Rn T ow k (.dr base i (⟨d,op,none⟩::ss) deps live rs::K) st:=by
 have a:st.want none=some true:=rfl
 simp only [Rn,wI,ll,Az,h,a]
theorem a4L (op:AOp) (g:Nat×Bool) (h:st.want (some g)=none):Rn T ow k (.dr base i (⟨d,op,some g⟩::ss) deps live rs::K) st=none:=by
 simp only [Rn,wI,ll,Az,h]
theorem Xz (t:Nat) (b:Bool) (op:AOp):Rn T ow k (.dr base i (⟨d,op,some (t,b)⟩::ss) deps live rs::K) st=gdD T ow k t b d op base i ss deps live rs K st (st.get t):=by
 cases a:st.get t with
 |lit v=>
  cases v with
  |bool c=>
   simp only [gdD]
   rw [YF a sm]
   cases e:(c==b)
   ·rw [bu];exact a58 op (t,b) (by simp [St.want,a,e])
   ·rw [dj];exact c4V op (t,b) (by simp [St.want,a,e])
  |tuple xs=>exact a58 op (t,b) (by simp [St.want,a])
  |_=>exact a4L op (t,b) (by simp [St.want,a])
 |_=>exact a4L op (t,b) (by simp [St.want,a])
theorem b5h (t:Nat) (op:AOp) (c:Bool):gdD T ow k t true d op base i ss deps live rs K st (.lit (.bool c))=
 br c (Rn T ow k (.dr base i (⟨d,op,none⟩::ss) deps live rs::K) { st with e:=lx t (.lit (.bool true)) st.e })
  (Rn T ow k (.dr base (i+1) ss deps live rs::K) ({ st with e:=lx t (.lit (.bool false)) st.e }.put d (.lit (.tuple #[])))):=by cases c<;>rfl
theorem a8t (t:Nat) (op:AOp) (c:Bool):gdD T ow k t false d op base i ss deps live rs K st (.lit (.bool c))=
 br c (Rn T ow k (.dr base (i+1) ss deps live rs::K) ({ st with e:=lx t (.lit (.bool true)) st.e }.put d (.lit (.tuple #[]))))
  (Rn T ow k (.dr base i (⟨d,op,none⟩::ss) deps live rs::K) { st with e:=lx t (.lit (.bool false)) st.e }):=by cases c<;>rfl
theorem a8V (t:Nat) (b:Bool) (op:AOp) (xs:Array Value):gdD T ow k t b d op base i ss deps live rs K st (.lit (.tuple xs))=Rn T ow k (.dr base (i+1) ss deps live rs::K) (st.put d (.lit (.tuple #[]))):=rfl
end
def a3m (af:j4) (m:Nat) (x:dd) (st:St):Option (V×List Blk):=Zk af (mP af m (some (x,st)))
theorem ak {T:Tab} {ow:ff} {f:FuncId} {af:j4} (c:T f=some (.code af)) (a:List V) (b:List Blk):Call T ow f a b=Rn T ow (a3m af b.length) [.code af.body] (start a b):=by
 rw [a4R,c]
 dsimp only
 rw [gg]
 cases ji T ow af.body (start a b) with
 |none=>rfl
 |some p=>obtain ⟨e,st⟩:=p;cases e<;>rfl
def Ia {S E:Type} (step:S->Option (S⊕E)):Nat->S->Option E
 |0,_=>none
 |n+1,s=>match step s with
  |none=>none
  |some (.inl s')=>Ia step n s'
  |some (.inr e)=>some e
theorem UV {S E:Type} {step:S->Option (S⊕E)}: ∀{n:Nat} {s:S} {e:E},Ia step n s=some e->Ia step (n+1) s=some e
 |0,_,_,h=>by cases h
 |n+1,s,e,h=>by
  simp only [Ia] at h ⊢
  split at h
  ·cases h
  ·rename_i s' a;exact UV h
  ·rename_i e' a;exact h
theorem b9R {S E:Type} {step:S->Option (S⊕E)} {n m:Nat} (a:n<=m) {s:S} {e:E} (h:Ia step n s=some e):Ia step m s=some e:=by
 induction a with
 |refl=>exact h
 |step _ ih=>exact UV ih
noncomputable def Loop {S E:Type} (step:S->Option (S⊕E)) (s:S):Option E:=lim (fun n=>Ia step n s)
theorem W1 {S E:Type} {step:S->Option (S⊕E)} {s:S} {e:E} (h:Loop step s=some e): ∃n,Ia step n s=some e:=VL h
theorem Lp {S E:Type} {step:S->Option (S⊕E)} {n:Nat} {s:S} {e:E} (h:Ia step n s=some e):Loop step s=some e:=
 a2B (g:=fun n=>Ia step n s) (fun _ _ _ a h=>b9R a h) h
def a6p {S E:Type} (lp:S->Option E):Option (S⊕E)->Option E
 |none=>none
 |some (.inl s')=>lp s'
 |some (.inr e)=>some e
theorem HC {S E:Type} (step:S->Option (S⊕E)) (s:S):Loop step s=a6p (Loop step) (step s):=by
 refine zd (fun r h=> ?_) (fun r h=> ?_)
 ·obtain ⟨n,hn⟩:=W1 h
  cases n with
  |zero=>cases hn
  |succ n=>
   simp only [Ia] at hn
   split at hn
   ·cases hn
   ·rename_i s' a;rw [a];exact Lp hn
   ·rename_i e' a;rw [a];exact hn
 ·cases a:step s with
  |none=>rw [a] at h;cases h
  |some o=>
   rw [a] at h
   cases o with
   |inl s'=>
    obtain ⟨n,hn⟩:=W1 (show Loop step s'=some r from h)
    exact Lp (n:=n+1) (by simp only [Ia,a];exact hn)
   |inr e=>exact Lp (n:=1) (by simp only [Ia,a];exact h)
def c7o (x:dd) (st:St):Option (dd×St):=some (x,st)
def tl (g:dX):aU->aU
 | .seq a b=> .seq (tl g a) b
 | .block id a=> .block id (tl g a)
 |c=> .ghost g c
section
variable {R:Type} {T:Tab} {ow:ff} {k:dd->St->Option R}
def ghE (T:Tab) (ow:ff) (c:aU):Option St->Option (dd×St)->Option (dd×St)
 |some _,r=>r
 |none,_=>none
theorem N6 (g:dX): ∀(c:aU) (st:St),ji T ow (tl g c) st=(match dN st g with
 |some st'=>ji T ow c st'
 |none=>none)
 | .seq a b,st=>by
   simp only [tl]
   rw [LU,N6 g a st]
   cases dN st g with
   |none=>rfl
   |some st'=>dsimp only;rw [LU]
 | .block id a,st=>by
   simp only [tl]
   rw [JT,N6 g a st]
   cases dN st g with
   |none=>rfl
   |some st'=>dsimp only;rw [JT]
 | .skip,st=>oo _ _ _
 | .region _ _ _,st=>oo _ _ _
 | .drawn _ _ _ _,st=>oo _ _ _
 | .cond _ _ _,st=>oo _ _ _
 | .loop _,st=>oo _ _ _
 | .exit _,st=>oo _ _ _
 | .ret,st=>oo _ _ _
 | .ghost _ _,st=>oo _ _ _
noncomputable def H3 (T:Tab) (ow:ff) (g:dX) (c:aU) (st:St):Option (dd×St):=match ji T ow c st with
 |some (.normal,st')=>ji T ow (.loop (tl g c)) st'
 |r=>r
noncomputable def goL (T:Tab) (ow:ff) (k:dd->St->Option R) (K:List Fr) (g:dX) (c:aU):Option St->Option R
 |some st'=>goR T ow k K (H3 T ow g c st')
 |none=>none
theorem Ry (g:dX) (c:aU) (st:St):ji T ow (.loop (tl g c)) st=(match dN st g with
 |some st'=>H3 T ow g c st'
 |none=>none):=by
 rw [a7r,N6]
 cases dN st g<;>rfl
theorem a93 (g:dX) (c:aU) (K:List Fr) (st:St):Rn T ow k (.code (.loop (tl g c))::K) st=goL T ow k K g c (dN st g):=by
 rw [gg,Ry]
 cases dN st g<;>rfl
theorem b0R (K:List Fr) (g:dX) (c:aU) (st':St):goL T ow k K g c (some st')=goR T ow k K (H3 T ow g c st'):=rfl
def ogM:Option St->Option (dd×St)
 |some st=>some (.normal,st)
 |none=>none
def UD (g:dX):dd->St->Option (dd×St)
 | .normal,st=>ogM (dN st g)
 |x,st=>some (x,st)
theorem Zu (g:dX) (st:St):UD g .normal st=ogM (dN st g):=rfl
theorem a6Z (g:dX) (id:Nat) (st:St):UD g (.exit id) st=some (.exit id,st):=rfl
theorem b3a (g:dX) (st:St):UD g .ret st=some (.ret,st):=rfl
theorem b0A (st:St):ogM (some st)=some (.normal,st):=rfl
theorem a7W {S E:Type} {g:dX} {c:aU} {step:S->Option (S⊕E)} {eS:S->St} {eE:E->dd×St} (i: ∀e,(eE e).1≠ .normal)
 (k: ∀s o,step s=some o->Rn T ow (UD g) [.code c] (eS s)=some (match o with
  | .inl s'=>(.normal,eS s')
  | .inr e=>eE e)) {s:S} {e:E} (h:Loop step s=some e):H3 T ow g c (eS s)=some (eE e):=by
 obtain ⟨n,hn⟩:=W1 h
 clear h
 induction n generalizing s with
 |zero=>cases hn
 |succ n ih=>
  simp only [Ia] at hn
  unfold H3
  split at hn
  ·cases hn
  ·rename_i s' j
   have a:=k s _ j
   rw [gg] at a
   cases d:ji T ow c (eS s) with
   |none=>rw [d] at a;cases a
   |some p=>
    obtain ⟨x,st'⟩:=p
    rw [d] at a
    cases x with
    |normal=>
     dsimp only
     rw [Ry]
     simp only [goR,Rn,wI,UD,ogM] at a
     cases f:dN st' g with
     |none=>rw [f] at a;cases a
     |some st2=>rw [f] at a;cases a;exact ih hn
    |exit id=>simp [goR,Unw,wI,UD] at a
    |ret=>simp [goR,UD] at a
  ·rename_i e' j
   have a:=k s _ j
   cases hn
   have b:=i e
   rw [gg] at a
   dsimp only at a
   revert a b
   generalize eE e=q
   intro a b
   cases d:ji T ow c (eS s) with
   |none=>rw [d] at a;cases a
   |some p=>
    obtain ⟨x,st'⟩:=p
    rw [d] at a
    cases x with
    |normal=>
     simp only [goR,Rn,wI,UD,ogM] at a
     cases f:dN st' g with
     |none=>rw [f] at a;cases a
     |some st2=>rw [f] at a;cases a;exact absurd rfl b
    |exit id=>exact a
    |ret=>exact a
variable {d:Option Nat} {n:Nat} {ss:List cx} {live:List Nat} {K:List Fr} {st:St} {base i:Nat} {deps:List (List Nat)} {rs:List Rec} {fp:List Nat} {r:R}
theorem Em {x:Option (dd×St)} {p:dd×St} (h:x=some p) (a:goR T ow k K (some p)=some r):goR T ow k K x=some r:=by rw [h];exact a
theorem a8d (g:dX) (c:aU):goR T ow k K (H3 T ow g c st)=Rn T ow k (.code c:: .code (.loop (tl g c))::K) st:=by
 rw [gg]
 unfold H3
 cases a:ji T ow c st with
 |none=>rfl
 |some p=>
  obtain ⟨x,st'⟩:=p
  cases x with
  |normal=>dsimp only;simp only [goR];rw [gg];rfl
  |exit id=>rfl
  |ret=>rfl
theorem fV {g:dX} {c:aU} (h:Rn T ow k (.code c:: .code (.loop (tl g c))::K) st=some r):goR T ow k K (H3 T ow g c st)=some r:=by rw [a8d];exact h
theorem bind_some {α β:Type} {x:Option α} {a:α} {F:α->Option β} {r:β} (h:x=some a) (b:F a=some r):x.bind F=some r:=by rw [h];exact b
end
end
section
abbrev I (n:Int):V:= .lit (.int .i64 n)
abbrev B (b:Bool):V:= .lit (.bool b)
abbrev S (s:List UInt8):V:= .lit (.string ⟨⟨s⟩⟩)
structure En (α:Type) where
 esz:Nat
 enc:α->List V
def rws {α:Type} (e:En α) (l:List α):List (List V):=l.map e.enc
def sl {α:Type} (e:En α) (l:List α):V:=(V.imm e.esz (rws e l)).cz
theorem c4d {α:Type} (e:En α):sl e []= .imm 1 []:=rfl
def eI:En Int:=⟨1,fun n=>[I n]⟩
def eU8:En UInt8:=⟨1,fun b=>[.lit (.int .u8 b.toNat)]⟩
def c7l:En Int:=⟨1,fun n=>[.lit (.int .u64 n)]⟩
def eB:En Bool:=⟨1,fun b=>[B b]⟩
def eS:En (List UInt8):=⟨1,fun s=>[S s]⟩
def eL {α:Type} (e:En α):En (List α):=⟨1,fun l=>[sl e l]⟩
theorem c2b:eI.esz=1:=by decide
theorem c0R (n:Int):eI.enc n=[I n]:=rfl
theorem b8Y:eU8.esz=1:=by decide
theorem b7U (n:UInt8):eU8.enc n=[.lit (.int .u8 n.toNat)]:=rfl
theorem c0O:eS.esz=1:=by decide
theorem c3C (n:List UInt8):eS.enc n=[S n]:=rfl
theorem c2F {α:Type} (e:En α):(eL e).esz=1:=gy rfl
theorem c1D {α:Type} (e:En α) (l:List α):(eL e).enc l=[sl e l]:=rfl
def atL {α:Type} (l:List α) (i:Int):Option α:=if 0<=i then l[i.toNat]? else none
def qA {α:Type} (l:List α) (a b:Int):Option (List α):=if 0<=a/\a<=b/\b<=l.length then some ((l.take b.toNat).drop a.toNat) else none
def inb (i:Int) (n:Nat):Bool:=decide (0<=i)&&decide (i.toNat<n)
def bj (n bytes:Nat):Bool:=decide (n*bytes<=dz)
def TU (l c:Int) (bytes:Nat):Bool:=decide (0<=l)&&decide (l<=c)&&decide (c*bytes<=dz)
def mx (a b:Int):Int:=if b>a then b else a
def mn (a b:Int):Int:=if b<a then b else a
def a62 (r:List (List V)):Nat:=r.length
def app (r q:List (List V)):List (List V):=r++q
def mkR (n:Nat) (r:List (List V)):List (List V):=r
def Av (row:List V) (r:List (List V)):List (List V):=row::r
def Uh (n k:Nat) (row:List V):List (List V):=List.replicate k row
def Gg (r:List (List V)) (i:Nat) (row:List V):List (List V):=r.set i row
section
variable {α:Type} {e:En α} {l l2:List α}
theorem a9e:a62 (rws e l)=l.length:=by simp [a62,rws]
theorem mk0 (e:En α) (n:Nat):mkR n []=rws e []:=rfl
theorem b4R (n:Nat) (row:List V) (r:List (List V)):mkR n (row::r)=Av row (mkR n r):=rfl
theorem c4X (a:Int) (l:List Int):Av [I a] (rws eI l)=rws eI (a::l):=rfl
theorem c6i (a:List UInt8) (l:List (List UInt8)):Av [S a] (rws eS l)=rws eS (a::l):=rfl
theorem c5L (a:List α) (l:List (List α)):Av [sl e a] (rws (eL e) l)=rws (eL e) (a::l):=rfl
theorem b48 (b:UInt8) (l:List UInt8):Av [.lit (.int .u8 b.toNat)] (rws eU8 l)=rws eU8 (b::l):=rfl
theorem tk (x:Int):((UInt8.ofInt x).toNat:Int)=IntKind.u8.wrap x:=by
 simp [UInt8.ofInt,IntKind.wrap,IntKind.bits,IntKind.signed]
 omega
theorem b7P (x:Int) (l:List UInt8):Av [.lit (.int .u8 (IntKind.u8.wrap x))] (rws eU8 l)=rws eU8 (UInt8.ofInt x::l):=by
 rw [<-tk];rfl
theorem b75 (n:Nat) (h:Nat.ble n 255=true) (l:List UInt8):Av [.lit (.int .u8 (no_index (OfNat.ofNat n:Int)))] (rws eU8 l)=rws eU8 ((OfNat.ofNat n:UInt8)::l):=by
 have h':=dG h
 have:((OfNat.ofNat n:UInt8).toNat:Int)=(OfNat.ofNat n:Int):=by
  show ((UInt8.ofNat n).toNat:Int)=(n:Int)
  simp;omega
 rw [<-b48,this]
theorem c6Q (l:List Int) (i:Nat) (a:Int):Gg (rws eI l) i [I a]=rws eI (l.set i a):=by simp [Gg,rws,eI]
theorem setB (l:List Bool) (i:Nat) (a:Bool):Gg (rws eB l) i [B a]=rws eB (l.set i a):=by simp [Gg,rws,eB]
theorem c0p (l:List UInt8) (i:Nat) (a:UInt8):Gg (rws eU8 l) i [.lit (.int .u8 a.toNat)]=rws eU8 (l.set i a):=by simp [Gg,rws,eU8]
theorem b0l (l:List UInt8) (i:Nat) (x:Int):Gg (rws eU8 l) i [.lit (.int .u8 (IntKind.u8.wrap x))]=rws eU8 (l.set i (UInt8.ofInt x)):=by
 rw [<-tk,c0p]
theorem b3d (e:En α) (x:α) (n k:Nat):Uh n k (e.enc x)=rws e (List.replicate k x):=by simp [Uh,rws]
theorem c1g (m:Nat) (h:e.esz=m):V.cz (.imm m (rws e l))=sl e l:=by subst h;rfl
theorem a5T (r:List (List V)):r.drop 0=r:=rfl
theorem oZ (e:En α) (l:List α):(l=[]/\sl e l= .imm 1 [])\/(l≠[]/\sl e l= .imm e.esz (rws e l)):=by
 cases l with
 |nil=>exact .inl ⟨rfl,rfl⟩
 |cons x l=>exact .inr ⟨by simp,rfl⟩
theorem c51:(sl e l).cz=sl e l:=by
 cases l with
 |nil=>rfl
 |cons x l=>rfl
theorem c33:(sl e l).czA=sl e l:=by
 cases l with
 |nil=>rfl
 |cons x l=>rfl
theorem c3f:(sl e l).czR=sl e l:=by
 cases l with
 |nil=>rfl
 |cons x l=>rfl
theorem b7d:(sl e l).cell=true:=by
 rcases oZ e l with ⟨_,h⟩|⟨_,h⟩<;>rw [h]<;>rfl
theorem b2L:(sl e l).cells=[sl e l]:=by
 rcases oZ e l with ⟨_,h⟩|⟨_,h⟩<;>rw [h]<;>rfl
theorem b9M:nE (sl e l)=[]:=by
 rcases oZ e l with ⟨_,h⟩|⟨_,h⟩<;>rw [h]<;>rfl
theorem b9d:E6 (sl e l)=[]:=by
 rcases oZ e l with ⟨_,h⟩|⟨_,h⟩<;>rw [h]<;>rfl
theorem a51 {h:ba}:uO h (sl e l)=some (sl e l,[]):=by
 rcases oZ e l with ⟨_,h⟩|⟨_,h⟩<;>rw [h]<;>rfl
theorem a2V {h:ba} {own:Bool} {ids:List Nat}:fq h own ids (sl e l)=some (sl e l,ids,[]):=by
 rcases oZ e l with ⟨_,h⟩|⟨_,h⟩<;>rw [h]<;>rfl
theorem a7R {h:ba} {own:Bool} {ids:List Nat}:hJ h own ids (sl e l)=some (sl e l,ids,[]):=by
 rcases oZ e l with ⟨_,h⟩|⟨_,h⟩<;>rw [h]<;>rfl
theorem c32 {ids:List Nat}:unV ids (sl e l)=sl e l:=by
 rcases oZ e l with ⟨_,h⟩|⟨_,h⟩<;>rw [h]<;>rfl
theorem b46 {ids:List Nat}:qj ids (sl e l)=sl e l:=by
 rcases oZ e l with ⟨_,h⟩|⟨_,h⟩<;>rw [h]<;>rfl
theorem b4o {ids:List Nat}:Jl ids (sl e l)=sl e l:=by
 rcases oZ e l with ⟨_,h⟩|⟨_,h⟩<;>rw [h]<;>rfl
theorem b4a:vB (sl e l)=false:=by
 rcases oZ e l with ⟨_,h⟩|⟨_,h⟩<;>rw [h]<;>rfl
theorem b0Z:SR (sl e l)=false:=by
 rcases oZ e l with ⟨_,h⟩|⟨_,h⟩<;>rw [h]<;>rfl
theorem b3C:BU (sl e l)=false:=by
 rcases oZ e l with ⟨_,h⟩|⟨_,h⟩<;>rw [h]<;>rfl
theorem c2I {h:ba} {bs:List Nat}:fzC h bs (sl e l)=sl e l:=by
 rcases oZ e l with ⟨_,h⟩|⟨_,h⟩<;>rw [h]<;>rfl
theorem c4e {h:ba} {bs:List Nat}:fzA h bs (sl e l)=sl e l:=by
 rcases oZ e l with ⟨_,h⟩|⟨_,h⟩<;>rw [h]<;>rfl
theorem b9K {h:ba} {m:Nat} {kp:List Nat}:vE h m kp (sl e l)=some (sl e l):=by
 rcases oZ e l with ⟨_,h⟩|⟨_,h⟩<;>rw [h]<;>rfl
theorem b6c {h:ba} {m:Nat} {kp:List Nat}:Ll h m kp (sl e l)=some (sl e l):=by
 rcases oZ e l with ⟨_,h⟩|⟨_,h⟩<;>rw [h]<;>rfl
theorem b84 {h:ba} {m:Nat} {kp:List Nat}:NW h m kp (sl e l)=some (sl e l):=by
 rcases oZ e l with ⟨_,h⟩|⟨_,h⟩<;>rw [h]<;>rfl
theorem Vq {h:ba} (m:Nat) (a:e.esz=m):fm h m (sl e l)=some (rws e l):=by
 subst a
 rcases oZ e l with ⟨rfl,h⟩|⟨b,h⟩
 ·rw [h];simp [fm,rws]
 ·rw [h];simp [fm]
theorem YY:a6o (sl e l)=false:=by
 rcases oZ e l with ⟨_,h⟩|⟨_,h⟩<;>rw [h]<;>rfl
end
end
end Go.AI
