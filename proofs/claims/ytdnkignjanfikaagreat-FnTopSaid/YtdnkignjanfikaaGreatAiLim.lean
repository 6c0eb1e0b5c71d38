/- Part. -/
import Derived.Test.YtdnkignjanfikaaGreatAiDefs
namespace Go.AI
section
theorem O2 {C C':cr} (e: ∀f a b r,C f a b=some r->C' f a b=some r) {ow:fe} {h:ba} {new:Nat} {f:FuncId} {args:List V} {r:V×Upd}
 (c:ru C ow h new f args=some r):ru C' ow h new f args=some r:=by
 unfold ru at c ⊢
 cases d:gi ow h f args with
 |none=>rw [d] at c;cases c
 |some p=>
  obtain ⟨args',blks,ids,bor⟩:=p
  rw [d] at c
  dsimp only at c ⊢
  cases hc:C f (xz (ow f) args') (wX (ow f) blks) with
  |none=>rw [hc] at c;cases c
  |some q=>rw [e _ _ _ _ hc];rw [hc] at c;exact c
theorem RP {C C':cr} (d: ∀f a b r,C f a b=some r->C' f a b=some r) {ow:fe} {o:AOp} {ev:Opd->V} {h:ba} {new:Nat} {r:V×Upd}
 (c:aK C ow o ev h new=some r):aK C' ow o ev h new=some r:=by
 cases o
 case call f args=>simp only [aK] at c ⊢;exact O2 d c
 case dyn f args=>
  simp only [aK] at c ⊢
  split at c
  ·exact O2 d c
  ·cases c
 all_goals exact c
theorem Vz {C:Nat->cr} {D:cr} (e: ∀f a b r,D f a b=some r-> ∃n,C n f a b=some r) (i:Nat) {ow:fe} {o:AOp} {ev:Opd->V} {h:ba} {new:Nat} {r:V×Upd}
 (c:aK D ow o ev h new=some r): ∃n,aK (C n) ow o ev h new=some r:=by
 have key: ∀f args,ru D ow h new f args=some r-> ∃n,ru (C n) ow h new f args=some r:=by
  intro f args c
  unfold ru at c
  cases d:gi ow h f args with
  |none=>rw [d] at c;cases c
  |some p=>
   obtain ⟨args',blks,ids,bor⟩:=p
   rw [d] at c
   dsimp only at c
   cases hc:D f (xz (ow f) args') (wX (ow f) blks) with
   |none=>rw [hc] at c;cases c
   |some q=>
    rw [hc] at c
    obtain ⟨n,hn⟩:=e _ _ _ _ hc
    refine ⟨n, ?_⟩
    unfold ru
    rw [d]
    dsimp only
    rw [hn]
    exact c
 cases o
 case call f args=>simp only [aK] at c ⊢;exact key _ _ c
 case dyn f args=>
  simp only [aK] at c ⊢
  split at c
  ·exact key _ _ c
  ·cases c
 all_goals exact ⟨i,c⟩
theorem Sp {C C':cr} (d: ∀f a b r,C f a b=some r->C' f a b=some r) {ow:fe} {st:St} {s:cw} {n:Nat} {r:St}
 (c:D2 C ow st s n=some r):D2 C' ow st s n=some r:=by
 unfold D2 at c ⊢
 split at c
 ·cases c
 ·exact c
 ·split at c
  ·rename_i v u e;rw [RP d e];exact c
  ·cases c
theorem xV {C C':cr} (d: ∀f a b r,C f a b=some r->C' f a b=some r) {ow:fe}: ∀{l:List cw} {n:Nat} {st:St} {r:St},
 lj C ow l n st=some r->lj C' ow l n st=some r
 |[],_,_,_,c=>c
 |s::l,n,st,r,c=>by
  simp only [lj] at c ⊢
  split at c
  ·rename_i st' h;rw [Sp d h];exact xV d c
  ·cases c
theorem SP {C C':cr} (d: ∀f a b r,C f a b=some r->C' f a b=some r) {ow:fe} {st:St} {s:cw} {i n:Nat} {r:St×Rec}
 (c:A5 C ow st s i n=some r):A5 C' ow st s i n=some r:=by
 unfold A5 at c ⊢
 split at c
 ·cases c
 ·exact c
 ·split at c
  ·rename_i v u e;rw [RP d e];exact c
  ·cases c
theorem xT {C C':cr} (d: ∀f a b r,C f a b=some r->C' f a b=some r) {ow:fe} {base:Nat}: ∀{l:List cw} {n:Nat} {st:St} {r:St×List Rec},
 lh C ow base l n st=some r->lh C' ow base l n st=some r
 |[],_,_,_,c=>c
 |s::l,n,st,r,c=>by
  simp only [lh] at c ⊢
  split at c
  ·rename_i st' rc h
   rw [SP d h]
   dsimp only
   split at c
   ·rename_i st2 rs e;rw [xT d e];exact c
   ·cases c
  ·cases c
theorem ew {C C':cr} (j: ∀f a b r,C f a b=some r->C' f a b=some r) {ow:fe}: ∀(n m:Nat),n<=m-> ∀{c:aU} {st:St} {r:dd×St},
 dE C ow n c st=some r->dE C' ow m c st=some r
 |0,_,_,_,_,_,d=>by simp [dE] at d
 |n+1,0,h,_,_,_,_=>absurd h om
 |n+1,m+1,h,c,st,r,d=>by
  have ih:=fun {c st r}=>ew j (ow:=ow) n m om (c:=c) (st:=st) (r:=r)
  cases c with
  |skip=>exact d
  |region base steps live=>
   simp only [dE,uU] at d ⊢
   split at d
   ·rename_i st' h;rw [xV j h];exact d
   ·cases d
  |drawn base steps deps live=>
   simp only [dE,Cr] at d ⊢
   split at d
   ·rename_i st' rs h;rw [xT j h];exact d
   ·cases d
  |seq a b=>
   simp only [dE] at d ⊢
   cases i:dE C ow n a st with
   |none=>rw [i] at d;cases d
   |some p=>
    obtain ⟨e,st'⟩:=p
    rw [ih i]
    rw [i] at d
    cases e with
    |normal=>exact ih d
    |exit id=>exact d
    |ret=>exact d
  |cond c a b=>
   simp only [dE] at d ⊢
   split at d
   ·exact ih d
   ·exact ih d
   ·cases d
  |block id c=>
   simp only [dE] at d ⊢
   cases i:dE C ow n c st with
   |none=>rw [i] at d;cases d
   |some p=>rw [ih i];rw [i] at d;exact d
  |loop c=>
   simp only [dE] at d ⊢
   cases i:dE C ow n c st with
   |none=>rw [i] at d;cases d
   |some p=>
    obtain ⟨e,st'⟩:=p
    rw [ih i]
    rw [i] at d
    cases e with
    |normal=>exact ih d
    |exit id=>exact d
    |ret=>exact d
  |exit id=>exact d
  |ret=>exact d
  |ghost g c=>
   simp only [dE] at d ⊢
   split at d
   ·exact ih d
   ·cases d
theorem Tj (T:Tab) (ow:fe): ∀(n:Nat) f a b r,gj T ow n f a b=some r->gj T ow (n+1) f a b=some r
 |0,_,_,_,_,h=>by simp [gj] at h
 |n+1,f,a,b,r,h=>by
  simp only [gj] at h ⊢
  split at h
  ·cases h
  rotate_left
  ·exact h
  ·rename_i af d
   cases c:dE (gj T ow n) ow n af.body (start a b) with
   |none=>rw [c] at h;simp [mX,YN] at h
   |some p=>
    have:=ew (Tj T ow n) (ow:=ow) n (n+1) om c
    simp only [gj] at this
    rw [this]
    rw [c] at h
    exact h
theorem ee (T:Tab) (ow:fe) {n m:Nat} (h:n<=m): ∀f a b r,gj T ow n f a b=some r->gj T ow m f a b=some r:=by
 induction h with
 |refl=>exact fun _ _ _ _ h=>h
 |step _ ih=>exact fun f a b r h=>Tj T ow _ f a b r (ih f a b r h)
open Classical in
noncomputable def lim {α:Type} (g:Nat->Option α):Option α:=if h: ∃n r,g n=some r then g h.choose else none
theorem a3V {α:Type} {g:Nat->Option α} (c: ∀n m r,n<=m->g n=some r->g m=some r) {n:Nat} {r:α} (h:g n=some r):lim g=some r:=by
 have b: ∃n r,g n=some r:=⟨n,r,h⟩
 unfold lim
 rw [dif_pos b]
 obtain ⟨r',a⟩:=b.choose_spec
 have e:=c _ (max n b.choose) _ (Nat.le_max_left _ _) h
 have d:=c _ (max n b.choose) _ (Nat.le_max_right _ _) a
 rw [e] at d
 rw [a, <-d]
theorem VP {α:Type} {g:Nat->Option α} {r:α} (h:lim g=some r): ∃n,g n=some r:=by
 unfold lim at h
 split at h
 ·exact ⟨_,h⟩
 ·cases h
noncomputable def Call (T:Tab) (ow:fe):cr:=fun f a b=>lim fun n=>gj T ow n f a b
noncomputable def jk (T:Tab) (ow:fe) (c:aU) (st:St):Option (dd×St):=lim fun n=>dE (gj T ow n) ow n c st
section
variable {T:Tab} {ow:fe}
theorem b5W {n m:Nat} (h:n<=m) {c:aU} {st:St} {r:dd×St} (a:dE (gj T ow n) ow n c st=some r):dE (gj T ow m) ow m c st=some r:=
 ew (ee T ow h) n m h a
theorem i7 {n:Nat} {c:aU} {st:St} {r:dd×St} (h:dE (gj T ow n) ow n c st=some r):jk T ow c st=some r:=
 a3V (g:=fun n=>dE (gj T ow n) ow n c st) (fun _ _ _ a h=>b5W a h) h
theorem my {c:aU} {st:St} {r:dd×St} (h:jk T ow c st=some r): ∃n,dE (gj T ow n) ow n c st=some r:=VP h
theorem XH {n:Nat} {f:FuncId} {a:List V} {b:List Blk} {r:V×List Blk} (h:gj T ow n f a b=some r):Call T ow f a b=some r:=
 a3V (g:=fun n=>gj T ow n f a b) (fun _ _ _ c h=>ee T ow c _ _ _ _ h) h
theorem PZ {f:FuncId} {a:List V} {b:List Blk} {r:V×List Blk} (h:Call T ow f a b=some r): ∃n,gj T ow n f a b=some r:=VP h
theorem zl {α:Type} {a b:Option α} (c: ∀r,a=some r->b=some r) (d: ∀r,b=some r->a=some r):a=b:=by
 cases a with
 |none=>cases b with
  |none=>rfl
  |some r=>exact absurd (d r rfl) sm
 |some r=>exact (c r rfl).symm
theorem Qp: ∀{l:List cw} {n:Nat} {st:St} {r:St},lj (Call T ow) ow l n st=some r-> ∃k,lj (gj T ow k) ow l n st=some r
 |[],_,_,_,h=>⟨0,h⟩
 |s::l,n,st,r,h=>by
  simp only [lj] at h
  cases a:D2 (Call T ow) ow st s n with
  |none=>rw [a] at h;cases h
  |some st'=>
   rw [a] at h
   obtain ⟨b,c⟩:=Qp h
   have: ∃k,D2 (gj T ow k) ow st s n=some st':=by
    unfold D2 at a ⊢
    split at a
    ·cases a
    ·exact ⟨0,a⟩
    ·split at a
     ·rename_i v u f
      obtain ⟨k,i⟩:=Vz (C:=gj T ow) (D:=Call T ow) (fun _ _ _ _ h=>PZ h) 0 f
      exact ⟨k,by rw [i];exact a⟩
     ·cases a
   obtain ⟨d,e⟩:=this
   refine ⟨max d b, ?_⟩
   simp only [lj]
   rw [Sp (ee T ow (Nat.le_max_left d b)) e]
   exact xV (ee T ow (Nat.le_max_right d b)) c
theorem RG {base:Nat}: ∀{l:List cw} {n:Nat} {st:St} {r:St×List Rec},lh (Call T ow) ow base l n st=some r-> ∃k,lh (gj T ow k) ow base l n st=some r
 |[],_,_,_,h=>⟨0,h⟩
 |s::l,n,st,r,h=>by
  simp only [lh] at h
  cases a:A5 (Call T ow) ow st s n (base+n) with
  |none=>rw [a] at h;cases h
  |some p=>
   obtain ⟨st',rc⟩:=p
   rw [a] at h
   dsimp only at h
   cases b:lh (Call T ow) ow base l (n+1) st' with
   |none=>rw [b] at h;cases h
   |some q=>
    obtain ⟨st2,rs⟩:=q
    rw [b] at h
    obtain ⟨c,d⟩:=RG b
    have: ∃k,A5 (gj T ow k) ow st s n (base+n)=some (st',rc):=by
     unfold A5 at a ⊢
     split at a
     ·cases a
     ·exact ⟨0,a⟩
     ·split at a
      ·rename_i v u i
       obtain ⟨k,j⟩:=Vz (C:=gj T ow) (D:=Call T ow) (fun _ _ _ _ h=>PZ h) 0 i
       exact ⟨k,by rw [j];exact a⟩
      ·cases a
    obtain ⟨e,f⟩:=this
    refine ⟨max e c, ?_⟩
    simp only [lh]
    rw [SP (ee T ow (Nat.le_max_left e c)) f]
    dsimp only
    rw [xT (ee T ow (Nat.le_max_right e c)) d]
    exact h
theorem Qn (k:Nat): ∀f a b r,gj T ow k f a b=some r->Call T ow f a b=some r:=fun _ _ _ _ h=>XH h
theorem a7A (st:St):jk T ow .skip st=some (.normal,st):=i7 (n:=1) rfl
theorem a9s (id:Nat) (st:St):jk T ow (.exit id) st=some (.exit id,st):=i7 (n:=1) rfl
theorem b0w (st:St):jk T ow .ret st=some (.ret,st):=i7 (n:=1) rfl
theorem OH (base:Nat) (steps:List cw) (live:List Nat) (st:St):jk T ow (.region base steps live) st=uU (Call T ow) ow base steps live st:=by
 refine zl (fun r h=> ?_) (fun r h=> ?_)
 ·obtain ⟨n,hn⟩:=my h
  cases n with
  |zero=>simp [dE] at hn
  |succ n=>
   simp only [dE,uU] at hn ⊢
   split at hn
   ·rename_i st' h';rw [xV (Qn (n+1)) h'];exact hn
   ·cases hn
 ·unfold uU at h
  split at h
  ·rename_i st' h'
   obtain ⟨k,a⟩:=Qp h'
   refine i7 (n:=k+1) ?_
   simp only [dE,uU]
   rw [xV (ee T ow (oV k)) a]
   exact h
  ·cases h
theorem a2Y (base:Nat) (steps:List cw) (deps:List (List Nat)) (live:List Nat) (st:St):
 jk T ow (.drawn base steps deps live) st=Cr (Call T ow) ow base steps deps live st:=by
 refine zl (fun r h=> ?_) (fun r h=> ?_)
 ·obtain ⟨n,hn⟩:=my h
  cases n with
  |zero=>simp [dE] at hn
  |succ n=>
   simp only [dE,Cr] at hn ⊢
   split at hn
   ·rename_i st' rs h';rw [xT (Qn (n+1)) h'];exact hn
   ·cases hn
 ·unfold Cr at h
  split at h
  ·rename_i st' rs h'
   obtain ⟨k,a⟩:=RG h'
   refine i7 (n:=k+1) ?_
   simp only [dE,Cr]
   rw [xT (ee T ow (oV k)) a]
   exact h
  ·cases h
theorem M7 (a b:aU) (st:St):jk T ow (.seq a b) st=(match jk T ow a st with
 |some (.normal,st')=>jk T ow b st'
 |r=>r):=by
 refine zl (fun r h=> ?_) (fun r h=> ?_)
 ·obtain ⟨n,hn⟩:=my h
  cases n with
  |zero=>simp [dE] at hn
  |succ n=>
   simp only [dE] at hn
   cases c:dE (gj T ow (n+1)) ow n a st with
   |none=>rw [c] at hn;cases hn
   |some p=>
    obtain ⟨e,st'⟩:=p
    rw [i7 (ew (fun _ _ _ _ h=>h) n (n+1) om c)]
    rw [c] at hn
    cases e with
    |normal=>exact i7 (ew (fun _ _ _ _ h=>h) n (n+1) om hn)
    |exit id=>exact hn
    |ret=>exact hn
 ·cases c:jk T ow a st with
  |none=>rw [c] at h;cases h
  |some p=>
   obtain ⟨e,st'⟩:=p
   rw [c] at h
   obtain ⟨n,hn⟩:=my c
   cases e with
   |normal=>
    obtain ⟨m,d⟩:=my (show jk T ow b st'=some r from h)
    refine i7 (n:=max n m+1) ?_
    simp only [dE]
    rw [ew (ee T ow om) n (max n m) om hn]
    exact ew (ee T ow om) m (max n m) om d
   |exit id=>
    refine i7 (n:=n+1) ?_
    simp only [dE]
    rw [ew (ee T ow om) n n om hn]
    exact h
   |ret=>
    refine i7 (n:=n+1) ?_
    simp only [dE]
    rw [ew (ee T ow om) n n om hn]
    exact h
theorem a91 (c:Opd) (a b:aU) (st:St):jk T ow (.cond c a b) st=(match st.ev c with
 | .lit (.bool true)=>jk T ow a st
 | .lit (.bool false)=>jk T ow b st
 |_=>none):=by
 refine zl (fun r h=> ?_) (fun r h=> ?_)
 ·obtain ⟨n,hn⟩:=my h
  cases n with
  |zero=>simp [dE] at hn
  |succ n=>
   simp only [dE] at hn
   split at hn
   ·rename_i hc;simp only [hc];exact i7 (ew (fun _ _ _ _ h=>h) n (n+1) om hn)
   ·rename_i hc;simp only [hc];exact i7 (ew (fun _ _ _ _ h=>h) n (n+1) om hn)
   ·cases hn
 ·split at h
  ·rename_i hc
   obtain ⟨n,hn⟩:=my h
   refine i7 (n:=n+1) ?_
   simp only [dE,hc]
   exact ew (ee T ow om) n n om hn
  ·rename_i hc
   obtain ⟨n,hn⟩:=my h
   refine i7 (n:=n+1) ?_
   simp only [dE,hc]
   exact ew (ee T ow om) n n om hn
  ·cases h
theorem Kl (id:Nat) (c:aU) (st:St):jk T ow (.block id c) st=(match jk T ow c st with
 |some (.exit id',st')=>if id'=id then some (.normal,st') else some (.exit id',st')
 |r=>r):=by
 refine zl (fun r h=> ?_) (fun r h=> ?_)
 ·obtain ⟨n,hn⟩:=my h
  cases n with
  |zero=>simp [dE] at hn
  |succ n=>
   simp only [dE] at hn
   cases a:dE (gj T ow (n+1)) ow n c st with
   |none=>rw [a] at hn;cases hn
   |some p=>
    rw [i7 (ew (fun _ _ _ _ h=>h) n (n+1) om a)]
    rw [a] at hn
    exact hn
 ·cases a:jk T ow c st with
  |none=>rw [a] at h;cases h
  |some p=>
   obtain ⟨n,hn⟩:=my a
   refine i7 (n:=n+1) ?_
   simp only [dE]
   rw [ew (ee T ow om) n n om hn]
   rw [a] at h
   exact h
theorem a8K (c:aU) (st:St):jk T ow (.loop c) st=(match jk T ow c st with
 |some (.normal,st')=>jk T ow (.loop c) st'
 |r=>r):=by
 refine zl (fun r h=> ?_) (fun r h=> ?_)
 ·obtain ⟨n,hn⟩:=my h
  cases n with
  |zero=>simp [dE] at hn
  |succ n=>
   simp only [dE] at hn
   cases a:dE (gj T ow (n+1)) ow n c st with
   |none=>rw [a] at hn;cases hn
   |some p=>
    obtain ⟨e,st'⟩:=p
    rw [i7 (ew (fun _ _ _ _ h=>h) n (n+1) om a)]
    rw [a] at hn
    cases e with
    |normal=>exact i7 (ew (fun _ _ _ _ h=>h) n (n+1) om hn)
    |exit id=>exact hn
    |ret=>exact hn
 ·cases a:jk T ow c st with
  |none=>rw [a] at h;cases h
  |some p=>
   obtain ⟨e,st'⟩:=p
   rw [a] at h
   obtain ⟨n,hn⟩:=my a
   cases e with
   |normal=>
    obtain ⟨m,b⟩:=my (show jk T ow (.loop c) st'=some r from h)
    refine i7 (n:=max n m+1) ?_
    simp only [dE]
    rw [ew (ee T ow om) n (max n m) om hn]
    exact ew (ee T ow om) m (max n m) om b
   |exit id=>
    refine i7 (n:=n+1) ?_
    simp only [dE]
    rw [ew (ee T ow om) n n om hn]
    exact h
   |ret=>
    refine i7 (n:=n+1) ?_
    simp only [dE]
    rw [ew (ee T ow om) n n om hn]
    exact h
theorem ou (g:dW) (c:aU) (st:St):jk T ow (.ghost g c) st=(match dN st g with
 |some st'=>jk T ow c st'
 |none=>none):=by
 refine zl (fun r h=> ?_) (fun r h=> ?_)
 ·obtain ⟨n,hn⟩:=my h
  cases n with
  |zero=>simp [dE] at hn
  |succ n=>
   simp only [dE] at hn
   split at hn
   ·rename_i st' a;simp only [a];exact i7 (ew (fun _ _ _ _ h=>h) n (n+1) om hn)
   ·cases hn
 ·split at h
  ·rename_i st' a
   obtain ⟨n,hn⟩:=my h
   refine i7 (n:=n+1) ?_
   simp only [dE,a]
   exact ew (ee T ow om) n n om hn
  ·cases h
theorem a5D (f:FuncId) (a:List V) (b:List Blk):Call T ow f a b=(match T f with
 |none=>none
 |some (.code af)=>YN af (mX af b.length (jk T ow af.body (start a b)))
 |some (.ext g)=>g a b):=by
 refine zl (fun r h=> ?_) (fun r h=> ?_)
 ·obtain ⟨n,hn⟩:=PZ h
  cases n with
  |zero=>simp [gj] at hn
  |succ n=>
   simp only [gj] at hn
   split at hn
   ·cases hn
   rotate_left
   ·rename_i g e;simp only [e];exact hn
   ·rename_i af c
    cases d:dE (gj T ow n) ow n af.body (start a b) with
    |none=>rw [d] at hn;simp [mX,YN] at hn
    |some p=>simp only [c];rw [i7 d];rw [d] at hn;exact hn
 ·split at h
  ·cases h
  rotate_left
  ·rename_i g e
   refine XH (n:=1) ?_
   simp only [gj,e]
   exact h
  ·rename_i af c
   cases d:jk T ow af.body (start a b) with
   |none=>rw [d] at h;simp [mX,YN] at h
   |some p=>
    obtain ⟨n,hn⟩:=my d
    refine XH (n:=n+1) ?_
    simp only [gj,c]
    rw [hn]
    rw [d] at h
    exact h
end
end
set_option linter.unusedVariables false
set_option linter.unusedSimpArgs false
section
def br {α:Type} (c:Bool) (x y:α):α:=match c with
 |true=>x
 |false=>y
theorem dj {α:Type} (x y:α):br true x y=x:=rfl
theorem bu {α:Type} (x y:α):br false x y=y:=rfl
theorem Db {α:Type} {c:Bool} {x y r:α} (h:c=true) (a:x=r):br c x y=r:=by subst h;exact a
theorem a9c {α:Type} {c:Bool} {x y r:α} (h:c=false) (a:y=r):br c x y=r:=by subst h;exact a
theorem brc {α:Type} {c:Bool} {x y r:α} (h:br c x y=r):(c=true/\x=r)\/(c=false/\y=r):=by
 cases c
 ·exact .inr ⟨rfl,h⟩
 ·exact .inl ⟨rfl,h⟩
theorem brg {α:Type} {c:Bool} {x:Option α} {r:α} (h:br c x none=some r):c=true/\x=some r:=by
 cases c
 ·cases h
 ·exact ⟨rfl,h⟩
theorem bd {α β:Type} {x:Option α} {g:α->Option β} {r:β} (h:x.bind g=some r): ∃a,x=some a/\g a=some r:=by
 cases x with
 |none=>cases h
 |some a=>exact ⟨a,rfl,h⟩
inductive Fr where
 |code (c:aU)
 |steps (n:Nat) (ss:List cw) (live:List Nat)
 |dr (base i:Nat) (ss:List cw) (deps:List (List Nat)) (live:List Nat) (rs:List Rec)
 |blk (id:Nat)
section
variable {R:Type}
noncomputable def wx (T:Tab) (ow:fe) (k:dd->St->Option R):List Fr->Option Nat->St->Option R
 |[],none,st=>k .normal st
 |[],some id,st=>k (.exit id) st
 | .blk id'::K,some id,st=>if id'=id then wx T ow k K none st else wx T ow k K (some id) st
 |_::K,some id,st=>wx T ow k K (some id) st
 | .blk _::K,none,st=>wx T ow k K none st
 | .code c::K,none,st=>match jk T ow c st with
   |some (.normal,st')=>wx T ow k K none st'
   |some (.exit id,st')=>wx T ow k K (some id) st'
   |some (.ret,st')=>k .ret st'
   |none=>none
 | .steps n ss live::K,none,st=>match lj (Call T ow) ow ss n st with
   |some st'=>wx T ow k K none (trim live st')
   |none=>none
 | .dr base i ss deps live rs::K,none,st=>match lh (Call T ow) ow base ss i st with
   |some (st',rs')=>br (tO deps (rs++rs'.filter Rec.loud)) (wx T ow k K none (trim live st')) none
   |none=>none
noncomputable def Rn (T:Tab) (ow:fe) (k:dd->St->Option R) (K:List Fr) (st:St):Option R:=wx T ow k K none st
noncomputable def Unw (T:Tab) (ow:fe) (k:dd->St->Option R) (id:Nat) (K:List Fr) (st:St):Option R:=wx T ow k K (some id) st
noncomputable def goR (T:Tab) (ow:fe) (k:dd->St->Option R) (K:List Fr):Option (dd×St)->Option R
 |some (.normal,st')=>Rn T ow k K st'
 |some (.exit id,st')=>Unw T ow k id K st'
 |some (.ret,st')=>k .ret st'
 |none=>none
variable {T:Tab} {ow:fe} {k:dd->St->Option R}
theorem gc (c:aU) (K:List Fr) (st:St):Rn T ow k (.code c::K) st=goR T ow k K (jk T ow c st):=by
 unfold Rn wx goR
 cases jk T ow c st with
 |none=>rfl
 |some p=>obtain ⟨e,st'⟩:=p;cases e<;>rfl
theorem b8H (st:St):Rn T ow k [] st=k .normal st:=rfl
theorem b9k (id:Nat) (K:List Fr) (st:St):Rn T ow k (.blk id::K) st=Rn T ow k K st:=rfl
theorem b2B (K:List Fr) (st:St):Rn T ow k (.code .skip::K) st=Rn T ow k K st:=by rw [gc,a7A];rfl
theorem b0S (id:Nat) (K:List Fr) (st:St):Rn T ow k (.code (.exit id)::K) st=Unw T ow k id K st:=by rw [gc,a9s];rfl
theorem b7n (K:List Fr) (st:St):Rn T ow k (.code .ret::K) st=k .ret st:=by rw [gc,b0w];rfl
theorem b8p (a b:aU) (K:List Fr) (st:St):Rn T ow k (.code (.seq a b)::K) st=Rn T ow k (.code a:: .code b::K) st:=by
 rw [gc,M7,gc]
 cases jk T ow a st with
 |none=>rfl
 |some p=>
  obtain ⟨e,st'⟩:=p
  cases e with
  |normal=>simp only [goR];rw [gc];rfl
  |exit id=>rfl
  |ret=>rfl
theorem a83 (id:Nat) (c:aU) (K:List Fr) (st:St):Rn T ow k (.code (.block id c)::K) st=Rn T ow k (.code c:: .blk id::K) st:=by
 rw [gc,Kl,gc]
 cases jk T ow c st with
 |none=>rfl
 |some p=>
  obtain ⟨e,st'⟩:=p
  cases e with
  |normal=>rfl
  |exit id'=>
   simp only [goR,Unw,Rn,wx]
   by_cases h:id'=id
   ·subst h;simp
   ·rw [a7 h,a7 (fun e=>h e.symm)]
  |ret=>rfl
noncomputable def b5v (T:Tab) (ow:fe) (k:dd->St->Option R) (a b:aU) (K:List Fr) (st:St):V->Option R
 | .lit (.bool c)=>br c (Rn T ow k (.code a::K) st) (Rn T ow k (.code b::K) st)
 |_=>none
theorem b1G (c:Opd) (a b:aU) (K:List Fr) (st:St):Rn T ow k (.code (.cond c a b)::K) st=b5v T ow k a b K st (st.ev c):=by
 rw [gc,a91]
 unfold b5v
 split
 ·rename_i h;rw [h];exact (gc _ _ _).symm
 ·rename_i h;rw [h];exact (gc _ _ _).symm
 ·rename_i d e
  split
  ·rename_i c' h;cases c'
   ·exact absurd h e
   ·exact absurd h d
  ·rfl
theorem a2O (a b:aU) (K:List Fr) (st:St) (c:Bool):b5v T ow k a b K st (.lit (.bool c))=br c (Rn T ow k (.code a::K) st) (Rn T ow k (.code b::K) st):=rfl
noncomputable def ghR (T:Tab) (ow:fe) (k:dd->St->Option R) (c:aU) (K:List Fr):Option St->Option R
 |some st'=>Rn T ow k (.code c::K) st'
 |none=>none
theorem a8m (g:dW) (c:aU) (K:List Fr) (st:St):Rn T ow k (.code (.ghost g c)::K) st=ghR T ow k c K (dN st g):=by
 rw [gc,ou]
 cases dN st g with
 |none=>rfl
 |some st'=>simp only [ghR];rw [gc]
theorem b2d (c:aU) (K:List Fr) (st:St):ghR T ow k c K (some st)=Rn T ow k (.code c::K) st:=rfl
theorem b4A (id:Nat) (K:List Fr) (st:St):goR T ow k K (some (.exit id,st))=Unw T ow k id K st:=rfl
theorem b78 (K:List Fr) (st:St):goR T ow k K (some (.ret,st))=k .ret st:=rfl
theorem b8I (id:Nat) (st:St):Unw T ow k id [] st=k (.exit id) st:=rfl
theorem b4J (id:Nat) (c:aU) (K:List Fr) (st:St):Unw T ow k id (.code c::K) st=Unw T ow k id K st:=rfl
theorem b9q (id id':Nat) (K:List Fr) (st:St):Unw T ow k id (.blk id'::K) st=if id'=id then Rn T ow k K st else Unw T ow k id K st:=rfl
theorem a3g (n:Nat) (ss:List cw) (live:List Nat) (K:List Fr) (st:St):Rn T ow k (.code (.region n ss live)::K) st=Rn T ow k (.steps n ss live::K) st:=by
 rw [gc,OH]
 unfold uU
 simp only [Rn,wx]
 cases lj (Call T ow) ow ss n st<;>rfl
theorem a9m (n:Nat) (ss:List cw) (deps:List (List Nat)) (live:List Nat) (K:List Fr) (st:St):Rn T ow k (.code (.drawn n ss deps live)::K) st=Rn T ow k (.dr n 0 ss deps live []::K) st:=by
 rw [gc,a2Y]
 unfold Cr
 simp only [Rn,wx]
 cases lh (Call T ow) ow n ss 0 st with
 |none=>rfl
 |some p=>
  obtain ⟨st',rs⟩:=p
  simp only [bA]
  cases tO deps (rs.filter Rec.loud)<;>rfl
theorem U1 (n:Nat) (live:List Nat) (K:List Fr) (st:St):Rn T ow k (.steps n [] live::K) st=Rn T ow k K (trim live st):=rfl
noncomputable def aft (T:Tab) (ow:fe) (k:dd->St->Option R) (d:Option Nat) (n:Nat) (ss:List cw) (live:List Nat) (K:List Fr) (st:St):Option (V×Upd)->Option R
 |some (v,u)=>Rn T ow k (.steps (n+1) ss live::K) ((st.upd u).put d v)
 |none=>none
variable {d:Option Nat} {n:Nat} {ss:List cw} {live:List Nat} {K:List Fr} {st:St}
theorem a8W (op:AOp):Rn T ow k (.steps n (⟨d,op,none⟩::ss) live::K) st=aft T ow k d n ss live K st (aK (Call T ow) ow op st.ev st.heap n):=by
 unfold aft
 simp only [Rn,wx,lj,D2,St.want]
 cases aK (Call T ow) ow op st.ev st.heap n with
 |none=>rfl
 |some p=>obtain ⟨v,u⟩:=p;rfl
theorem b5d (v:V) (u:Upd):aft T ow k d n ss live K st (some (v,u))=Rn T ow k (.steps (n+1) ss live::K) ((st.upd u).put d v):=rfl
theorem b4Q:aft T ow k d n ss live K st none=none:=rfl
theorem c2U (c:Bool) (x y:Option (V×Upd)):aft T ow k d n ss live K st (br c x y)=br c (aft T ow k d n ss live K st x) (aft T ow k d n ss live K st y):=by cases c<;>rfl
theorem b3Y {α:Type} (x:Option α) (f:α->Option (V×Upd)):aft T ow k d n ss live K st (x.bind f)=x.bind (fun a=>aft T ow k d n ss live K st (f a)):=by cases x<;>rfl
noncomputable def gd (T:Tab) (ow:fe) (k:dd->St->Option R) (t:Nat) (b:Bool) (d:Option Nat) (op:AOp) (n:Nat) (ss:List cw) (live:List Nat) (K:List Fr) (st:St):V->Option R
 | .lit (.bool c)=>br (c==b) (Rn T ow k (.steps n (⟨d,op,none⟩::ss) live::K) { st with e:=lm t (.lit (.bool c)) st.e })
  (Rn T ow k (.steps (n+1) ss live::K) ({ st with e:=lm t (.lit (.bool c)) st.e }.put d (.lit (.tuple #[]))))
 | .lit (.tuple _)=>Rn T ow k (.steps (n+1) ss live::K) (st.put d (.lit (.tuple #[])))
 |_=>none
theorem UT {α:Type}: ∀{l:List (Nat×α)} {t:Nat} {v:α},eH l t=some v->lm t v l=l
 |[],_,_,h=>by simp [eH] at h
 | (j,u)::r,t,v,h=>by
   simp only [eH] at h
   simp only [lm]
   split at h
   ·rename_i e;cases h;subst e;simp
   ·rename_i e;rw [a7 e,UT h]
theorem a0v {v:V} {t:Nat} (h:st.get t=v) (b:v≠ .undef):({ st with e:=lm t v st.e }:St)=st:=by
 unfold St.get at h
 cases a:eH st.e t with
 |none=>rw [a] at h;exact absurd h.symm b
 |some u=>
  rw [a] at h;cases h
  show ({ st with e:=lm t u st.e }:St)=st
  rw [UT a]
theorem a8f (t:Nat) (b:Bool) (op:AOp):Rn T ow k (.steps n (⟨d,op,some (t,b)⟩::ss) live::K) st=gd T ow k t b d op n ss live K st (st.get t):=by
 cases a:st.get t with
 |lit v=>
  cases v with
  |bool c=>
   simp only [gd]
   rw [a0v a sm]
   simp only [Rn,wx,lj,D2,St.want,a]
   cases e:(c==b)
   ·simp [bu,e]
   ·simp [dj,e]
  |tuple xs=>simp only [gd];simp only [Rn,wx,lj,D2,St.want,a]
  |_=>simp only [gd];simp only [Rn,wx,lj,D2,St.want,a]
 |_=>simp only [gd];simp only [Rn,wx,lj,D2,St.want,a]
theorem b8S (t:Nat) (op:AOp) (c:Bool):gd T ow k t true d op n ss live K st (.lit (.bool c))=
 br c (Rn T ow k (.steps n (⟨d,op,none⟩::ss) live::K) { st with e:=lm t (.lit (.bool true)) st.e })
  (Rn T ow k (.steps (n+1) ss live::K) ({ st with e:=lm t (.lit (.bool false)) st.e }.put d (.lit (.tuple #[])))):=by cases c<;>rfl
theorem b58 (t:Nat) (op:AOp) (c:Bool):gd T ow k t false d op n ss live K st (.lit (.bool c))=
 br c (Rn T ow k (.steps (n+1) ss live::K) ({ st with e:=lm t (.lit (.bool true)) st.e }.put d (.lit (.tuple #[]))))
  (Rn T ow k (.steps n (⟨d,op,none⟩::ss) live::K) { st with e:=lm t (.lit (.bool false)) st.e }):=by cases c<;>rfl
theorem b5y (t:Nat) (b:Bool) (op:AOp) (xs:Array Value):gd T ow k t b d op n ss live K st (.lit (.tuple xs))=Rn T ow k (.steps (n+1) ss live::K) (st.put d (.lit (.tuple #[]))):=rfl
variable {base i:Nat} {deps:List (List Nat)} {rs:List Rec} {fp:List Nat}
def b0t (rs:List Rec) (i:Nat) (fp wr:List Nat):List Rec:=rs++[Rec.mk i fp wr].filter Rec.loud
theorem a43:Rn T ow k (.dr base i [] deps live rs::K) st=br (tO deps rs) (Rn T ow k K (trim live st)) none:=by
 simp only [Rn,wx,lh,sW,bL]
noncomputable def QE (T:Tab) (ow:fe) (k:dd->St->Option R) (d:Option Nat) (base i:Nat) (ss:List cw) (deps:List (List Nat)) (live:List Nat) (rs:List Rec) (K:List Fr) (st:St) (fp:List Nat):Option (V×Upd)->Option R
 |some (v,u)=>br ((u.map (·.1)).all (fun b=>decide (b∈fp)||(st.heap b).isNone))
  (Rn T ow k (.dr base (i+1) ss deps live (b0t rs i fp (u.map (·.1)))::K) ((st.upd u).put d v)) none
 |none=>none
theorem c2Y (op:AOp):Rn T ow k (.dr base i (⟨d,op,none⟩::ss) deps live rs::K) st=
 QE T ow k d base i ss deps live rs K st (mY ow op st.ev st.heap) (aK (Call T ow) ow op st.ev (vR st.heap (mY ow op st.ev st.heap)) (base+i)):=by
 unfold QE
 simp only [Rn,wx,lh,A5,St.want]
 cases a:aK (Call T ow) ow op st.ev (vR st.heap (mY ow op st.ev st.heap)) (base+i) with
 |none=>rfl
 |some p=>
  obtain ⟨v,u⟩:=p
  dsimp only
  by_cases hc:(u.map (·.1)).all (fun b=>decide (b∈mY ow op st.ev st.heap)||(st.heap b).isNone)=true
  ·rw [hc,dj,aa rfl]
   dsimp only
   cases lh (Call T ow) ow base ss (i+1) ((st.upd u).put d v) with
   |none=>rfl
   |some q=>
    obtain ⟨st2,rs2⟩:=q
    simp only [b0t,mM,sW,aP]
    cases Rec.loud ⟨i,mY ow op st.ev st.heap,u.map (·.1)⟩<;>rfl
  ·rw [Bool.not_eq_true] at hc
   rw [hc,bu,a7 dcd]
theorem a9b (v:V) (u:Upd):QE T ow k d base i ss deps live rs K st fp (some (v,u))=br ((u.map (·.1)).all (fun b=>decide (b∈fp)||(st.heap b).isNone))
 (Rn T ow k (.dr base (i+1) ss deps live (b0t rs i fp (u.map (·.1)))::K) ((st.upd u).put d v)) none:=rfl
theorem a6Z:QE T ow k d base i ss deps live rs K st fp none=none:=rfl
theorem b7m (c:Bool) (x y:Option (V×Upd)):QE T ow k d base i ss deps live rs K st fp (br c x y)=br c (QE T ow k d base i ss deps live rs K st fp x) (QE T ow k d base i ss deps live rs K st fp y):=by cases c<;>rfl
theorem a8l {α:Type} (x:Option α) (f:α->Option (V×Upd)):QE T ow k d base i ss deps live rs K st fp (x.bind f)=x.bind (fun a=>QE T ow k d base i ss deps live rs K st fp (f a)):=by cases x<;>rfl
noncomputable def gdD (T:Tab) (ow:fe) (k:dd->St->Option R) (t:Nat) (b:Bool) (d:Option Nat) (op:AOp) (base i:Nat) (ss:List cw) (deps:List (List Nat)) (live:List Nat) (rs:List Rec) (K:List Fr) (st:St):V->Option R
 | .lit (.bool c)=>br (c==b) (Rn T ow k (.dr base i (⟨d,op,none⟩::ss) deps live rs::K) { st with e:=lm t (.lit (.bool c)) st.e })
  (Rn T ow k (.dr base (i+1) ss deps live rs::K) ({ st with e:=lm t (.lit (.bool c)) st.e }.put d (.lit (.tuple #[]))))
 | .lit (.tuple _)=>Rn T ow k (.dr base (i+1) ss deps live rs::K) (st.put d (.lit (.tuple #[])))
 |_=>none
theorem a68 (op:AOp) (g:Nat×Bool) (h:st.want (some g)=some false):Rn T ow k (.dr base i (⟨d,op,some g⟩::ss) deps live rs::K) st=Rn T ow k (.dr base (i+1) ss deps live rs::K) (st.put d (.lit (.tuple #[]))):=by
 simp only [Rn,wx,lh,A5,h]
 cases lh (Call T ow) ow base ss (i+1) (st.put d (.lit (.tuple #[]))) with
 |none=>rfl
 |some q=>obtain ⟨st2,rs2⟩:=q;rfl
theorem c4X (op:AOp) (g:Nat×Bool) (h:st.want (some g)=some true):Rn T ow k (.dr base i (⟨d,op,some g⟩::ss) deps live rs::K) st=Rn T ow k (.dr base i (⟨d,op,none⟩::ss) deps live rs::K) st:=by
 have a:st.want none=some true:=rfl
 simp only [Rn,wx,lh,A5,h,a]
theorem a6g (op:AOp) (g:Nat×Bool) (h:st.want (some g)=none):Rn T ow k (.dr base i (⟨d,op,some g⟩::ss) deps live rs::K) st=none:=by
 simp only [Rn,wx,lh,A5,h]
theorem Yy (t:Nat) (b:Bool) (op:AOp):Rn T ow k (.dr base i (⟨d,op,some (t,b)⟩::ss) deps live rs::K) st=gdD T ow k t b d op base i ss deps live rs K st (st.get t):=by
 cases a:st.get t with
 |lit v=>
  cases v with
  |bool c=>
   simp only [gdD]
   rw [a0v a sm]
   cases e:(c==b)
   ·rw [bu];exact a68 op (t,b) (by simp [St.want,a,e])
   ·rw [dj];exact c4X op (t,b) (by simp [St.want,a,e])
  |tuple xs=>exact a68 op (t,b) (by simp [St.want,a])
  |_=>exact a6g op (t,b) (by simp [St.want,a])
 |_=>exact a6g op (t,b) (by simp [St.want,a])
theorem b4U (t:Nat) (op:AOp) (c:Bool):gdD T ow k t true d op base i ss deps live rs K st (.lit (.bool c))=
 br c (Rn T ow k (.dr base i (⟨d,op,none⟩::ss) deps live rs::K) { st with e:=lm t (.lit (.bool true)) st.e })
  (Rn T ow k (.dr base (i+1) ss deps live rs::K) ({ st with e:=lm t (.lit (.bool false)) st.e }.put d (.lit (.tuple #[])))):=by cases c<;>rfl
theorem a8v (t:Nat) (op:AOp) (c:Bool):gdD T ow k t false d op base i ss deps live rs K st (.lit (.bool c))=
 br c (Rn T ow k (.dr base (i+1) ss deps live rs::K) ({ st with e:=lm t (.lit (.bool true)) st.e }.put d (.lit (.tuple #[]))))
  (Rn T ow k (.dr base i (⟨d,op,none⟩::ss) deps live rs::K) { st with e:=lm t (.lit (.bool false)) st.e }):=by cases c<;>rfl
theorem a9A (t:Nat) (b:Bool) (op:AOp) (xs:Array Value):gdD T ow k t b d op base i ss deps live rs K st (.lit (.tuple xs))=Rn T ow k (.dr base (i+1) ss deps live rs::K) (st.put d (.lit (.tuple #[]))):=rfl
end
def a2h (af:j4) (m:Nat) (x:dd) (st:St):Option (V×List Blk):=YN af (mX af m (some (x,st)))
theorem ak {T:Tab} {ow:fe} {f:FuncId} {af:j4} (c:T f=some (.code af)) (a:List V) (b:List Blk):Call T ow f a b=Rn T ow (a2h af b.length) [.code af.body] (start a b):=by
 rw [a5D,c]
 dsimp only
 rw [gc]
 cases jk T ow af.body (start a b) with
 |none=>rfl
 |some p=>obtain ⟨e,st⟩:=p;cases e<;>rfl
def Ig {S E:Type} (step:S->Option (S⊕E)):Nat->S->Option E
 |0,_=>none
 |n+1,s=>match step s with
  |none=>none
  |some (.inl s')=>Ig step n s'
  |some (.inr e)=>some e
theorem Vm {S E:Type} {step:S->Option (S⊕E)}: ∀{n:Nat} {s:S} {e:E},Ig step n s=some e->Ig step (n+1) s=some e
 |0,_,_,h=>by cases h
 |n+1,s,e,h=>by
  simp only [Ig] at h ⊢
  split at h
  ·cases h
  ·rename_i s' a;exact Vm h
  ·rename_i e' a;exact h
theorem b6F {S E:Type} {step:S->Option (S⊕E)} {n m:Nat} (a:n<=m) {s:S} {e:E} (h:Ig step n s=some e):Ig step m s=some e:=by
 induction a with
 |refl=>exact h
 |step _ ih=>exact Vm ih
noncomputable def Loop {S E:Type} (step:S->Option (S⊕E)) (s:S):Option E:=lim (fun n=>Ig step n s)
theorem Yk {S E:Type} {step:S->Option (S⊕E)} {s:S} {e:E} (h:Loop step s=some e): ∃n,Ig step n s=some e:=VP h
theorem KJ {S E:Type} {step:S->Option (S⊕E)} {n:Nat} {s:S} {e:E} (h:Ig step n s=some e):Loop step s=some e:=
 a3V (g:=fun n=>Ig step n s) (fun _ _ _ a h=>b6F a h) h
def a6p {S E:Type} (lp:S->Option E):Option (S⊕E)->Option E
 |none=>none
 |some (.inl s')=>lp s'
 |some (.inr e)=>some e
theorem Hy {S E:Type} (step:S->Option (S⊕E)) (s:S):Loop step s=a6p (Loop step) (step s):=by
 refine zl (fun r h=> ?_) (fun r h=> ?_)
 ·obtain ⟨n,hn⟩:=Yk h
  cases n with
  |zero=>cases hn
  |succ n=>
   simp only [Ig] at hn
   split at hn
   ·cases hn
   ·rename_i s' a;rw [a];exact KJ hn
   ·rename_i e' a;rw [a];exact hn
 ·cases a:step s with
  |none=>rw [a] at h;cases h
  |some o=>
   rw [a] at h
   cases o with
   |inl s'=>
    obtain ⟨n,hn⟩:=Yk (show Loop step s'=some r from h)
    exact KJ (n:=n+1) (by simp only [Ig,a];exact hn)
   |inr e=>exact KJ (n:=1) (by simp only [Ig,a];exact h)
def c7m (x:dd) (st:St):Option (dd×St):=some (x,st)
def tp (g:dW):aU->aU
 | .seq a b=> .seq (tp g a) b
 | .block id a=> .block id (tp g a)
 |c=> .ghost g c
section
variable {R:Type} {T:Tab} {ow:fe} {k:dd->St->Option R}
def ghE (T:Tab) (ow:fe) (c:aU):Option St->Option (dd×St)->Option (dd×St)
 |some _,r=>r
 |none,_=>none
theorem MX (g:dW): ∀(c:aU) (st:St),jk T ow (tp g c) st=(match dN st g with
 |some st'=>jk T ow c st'
 |none=>none)
 | .seq a b,st=>by
   simp only [tp]
   rw [M7,MX g a st]
   cases dN st g with
   |none=>rfl
   |some st'=>dsimp only;rw [M7]
 | .block id a,st=>by
   simp only [tp]
   rw [Kl,MX g a st]
   cases dN st g with
   |none=>rfl
   |some st'=>dsimp only;rw [Kl]
 | .skip,st=>ou _ _ _
 | .region _ _ _,st=>ou _ _ _
 | .drawn _ _ _ _,st=>ou _ _ _
 | .cond _ _ _,st=>ou _ _ _
 | .loop _,st=>ou _ _ _
 | .exit _,st=>ou _ _ _
 | .ret,st=>ou _ _ _
 | .ghost _ _,st=>ou _ _ _
noncomputable def FR (T:Tab) (ow:fe) (g:dW) (c:aU) (st:St):Option (dd×St):=match jk T ow c st with
 |some (.normal,st')=>jk T ow (.loop (tp g c)) st'
 |r=>r
noncomputable def goL (T:Tab) (ow:fe) (k:dd->St->Option R) (K:List Fr) (g:dW) (c:aU):Option St->Option R
 |some st'=>goR T ow k K (FR T ow g c st')
 |none=>none
theorem R4 (g:dW) (c:aU) (st:St):jk T ow (.loop (tp g c)) st=(match dN st g with
 |some st'=>FR T ow g c st'
 |none=>none):=by
 rw [a8K,MX]
 cases dN st g<;>rfl
theorem a7y (g:dW) (c:aU) (K:List Fr) (st:St):Rn T ow k (.code (.loop (tp g c))::K) st=goL T ow k K g c (dN st g):=by
 rw [gc,R4]
 cases dN st g<;>rfl
theorem b2N (K:List Fr) (g:dW) (c:aU) (st':St):goL T ow k K g c (some st')=goR T ow k K (FR T ow g c st'):=rfl
def ogM:Option St->Option (dd×St)
 |some st=>some (.normal,st)
 |none=>none
def Un (g:dW):dd->St->Option (dd×St)
 | .normal,st=>ogM (dN st g)
 |x,st=>some (x,st)
theorem a1E (g:dW) (st:St):Un g .normal st=ogM (dN st g):=rfl
theorem a8H (g:dW) (id:Nat) (st:St):Un g (.exit id) st=some (.exit id,st):=rfl
theorem b3n (g:dW) (st:St):Un g .ret st=some (.ret,st):=rfl
theorem b07 (st:St):ogM (some st)=some (.normal,st):=rfl
theorem a6B {S E:Type} {g:dW} {c:aU} {step:S->Option (S⊕E)} {eS:S->St} {eE:E->dd×St} (i: ∀e,(eE e).1≠ .normal)
 (k: ∀s o,step s=some o->Rn T ow (Un g) [.code c] (eS s)=some (match o with
  | .inl s'=>(.normal,eS s')
  | .inr e=>eE e)) {s:S} {e:E} (h:Loop step s=some e):FR T ow g c (eS s)=some (eE e):=by
 obtain ⟨n,hn⟩:=Yk h
 clear h
 induction n generalizing s with
 |zero=>cases hn
 |succ n ih=>
  simp only [Ig] at hn
  unfold FR
  split at hn
  ·cases hn
  ·rename_i s' j
   have a:=k s _ j
   rw [gc] at a
   cases d:jk T ow c (eS s) with
   |none=>rw [d] at a;cases a
   |some p=>
    obtain ⟨x,st'⟩:=p
    rw [d] at a
    cases x with
    |normal=>
     dsimp only
     rw [R4]
     simp only [goR,Rn,wx,Un,ogM] at a
     cases f:dN st' g with
     |none=>rw [f] at a;cases a
     |some st2=>rw [f] at a;cases a;exact ih hn
    |exit id=>simp [goR,Unw,wx,Un] at a
    |ret=>simp [goR,Un] at a
  ·rename_i e' j
   have a:=k s _ j
   cases hn
   have b:=i e
   rw [gc] at a
   dsimp only at a
   revert a b
   generalize eE e=q
   intro a b
   cases d:jk T ow c (eS s) with
   |none=>rw [d] at a;cases a
   |some p=>
    obtain ⟨x,st'⟩:=p
    rw [d] at a
    cases x with
    |normal=>
     simp only [goR,Rn,wx,Un,ogM] at a
     cases f:dN st' g with
     |none=>rw [f] at a;cases a
     |some st2=>rw [f] at a;cases a;exact absurd rfl b
    |exit id=>exact a
    |ret=>exact a
variable {d:Option Nat} {n:Nat} {ss:List cw} {live:List Nat} {K:List Fr} {st:St} {base i:Nat} {deps:List (List Nat)} {rs:List Rec} {fp:List Nat} {r:R}
theorem E5 {x:Option (dd×St)} {p:dd×St} (h:x=some p) (a:goR T ow k K (some p)=some r):goR T ow k K x=some r:=by rw [h];exact a
theorem a7J (g:dW) (c:aU):goR T ow k K (FR T ow g c st)=Rn T ow k (.code c:: .code (.loop (tp g c))::K) st:=by
 rw [gc]
 unfold FR
 cases a:jk T ow c st with
 |none=>rfl
 |some p=>
  obtain ⟨x,st'⟩:=p
  cases x with
  |normal=>dsimp only;simp only [goR];rw [gc];rfl
  |exit id=>rfl
  |ret=>rfl
theorem g8 {g:dW} {c:aU} (h:Rn T ow k (.code c:: .code (.loop (tp g c))::K) st=some r):goR T ow k K (FR T ow g c st)=some r:=by rw [a7J];exact h
theorem bind_some {α β:Type} {x:Option α} {a:α} {F:α->Option β} {r:β} (h:x=some a) (b:F a=some r):x.bind F=some r:=by rw [h];exact b
end
end
section
abbrev I (n:Int):V:= .lit (.int .i64 n)
abbrev B (b:Bool):V:= .lit (.bool b)
abbrev S (s:List UInt8):V:= .lit (.string ⟨⟨s⟩⟩)
structure En (α:Type) where
 esz:Nat
 enc:α->List V
def rws {α:Type} (e:En α) (l:List α):List (List V):=l.map e.enc
def sl {α:Type} (e:En α) (l:List α):V:=(V.imm e.esz (rws e l)).cz
theorem c4i {α:Type} (e:En α):sl e []= .imm 1 []:=rfl
def eI:En Int:=⟨1,fun n=>[I n]⟩
def eU8:En UInt8:=⟨1,fun b=>[.lit (.int .u8 b.toNat)]⟩
def c7o:En Int:=⟨1,fun n=>[.lit (.int .u64 n)]⟩
def eB:En Bool:=⟨1,fun b=>[B b]⟩
def eS:En (List UInt8):=⟨1,fun s=>[S s]⟩
def eL {α:Type} (e:En α):En (List α):=⟨1,fun l=>[sl e l]⟩
theorem c1T:eI.esz=1:=by decide
theorem c2o (n:Int):eI.enc n=[I n]:=rfl
theorem b8O:eU8.esz=1:=by decide
theorem b9Q (n:UInt8):eU8.enc n=[.lit (.int .u8 n.toNat)]:=rfl
theorem c32:eS.esz=1:=by decide
theorem c2b (n:List UInt8):eS.enc n=[S n]:=rfl
theorem c2J {α:Type} (e:En α):(eL e).esz=1:=gz rfl
theorem c2Q {α:Type} (e:En α) (l:List α):(eL e).enc l=[sl e l]:=rfl
def atL {α:Type} (l:List α) (i:Int):Option α:=if 0<=i then l[i.toNat]? else none
def rF {α:Type} (l:List α) (a b:Int):Option (List α):=if 0<=a/\a<=b/\b<=l.length then some ((l.take b.toNat).drop a.toNat) else none
def inb (i:Int) (n:Nat):Bool:=decide (0<=i)&&decide (i.toNat<n)
def bj (n bytes:Nat):Bool:=decide (n*bytes<=dz)
def TL (l c:Int) (bytes:Nat):Bool:=decide (0<=l)&&decide (l<=c)&&decide (c*bytes<=dz)
def mx (a b:Int):Int:=if b>a then b else a
def mn (a b:Int):Int:=if b<a then b else a
def a67 (r:List (List V)):Nat:=r.length
def app (r q:List (List V)):List (List V):=r++q
def mkR (n:Nat) (r:List (List V)):List (List V):=r
def Ak (row:List V) (r:List (List V)):List (List V):=row::r
def Uc (n k:Nat) (row:List V):List (List V):=List.replicate k row
def Gj (r:List (List V)) (i:Nat) (row:List V):List (List V):=r.set i row
section
variable {α:Type} {e:En α} {l l2:List α}
theorem a6G:a67 (rws e l)=l.length:=by simp [a67,rws]
theorem mk0 (e:En α) (n:Nat):mkR n []=rws e []:=rfl
theorem b0o (n:Nat) (row:List V) (r:List (List V)):mkR n (row::r)=Ak row (mkR n r):=rfl
theorem c4x (a:Int) (l:List Int):Ak [I a] (rws eI l)=rws eI (a::l):=rfl
theorem c4P (a:List UInt8) (l:List (List UInt8)):Ak [S a] (rws eS l)=rws eS (a::l):=rfl
theorem c5h (a:List α) (l:List (List α)):Ak [sl e a] (rws (eL e) l)=rws (eL e) (a::l):=rfl
theorem b0e (b:UInt8) (l:List UInt8):Ak [.lit (.int .u8 b.toNat)] (rws eU8 l)=rws eU8 (b::l):=rfl
theorem tu (x:Int):((UInt8.ofInt x).toNat:Int)=IntKind.u8.wrap x:=by
 simp [UInt8.ofInt,IntKind.wrap,IntKind.bits,IntKind.signed]
 omega
theorem b7Y (x:Int) (l:List UInt8):Ak [.lit (.int .u8 (IntKind.u8.wrap x))] (rws eU8 l)=rws eU8 (UInt8.ofInt x::l):=by
 rw [<-tu];rfl
theorem b9w (n:Nat) (h:Nat.ble n 255=true) (l:List UInt8):Ak [.lit (.int .u8 (no_index (OfNat.ofNat n:Int)))] (rws eU8 l)=rws eU8 ((OfNat.ofNat n:UInt8)::l):=by
 have h':=dG h
 have:((OfNat.ofNat n:UInt8).toNat:Int)=(OfNat.ofNat n:Int):=by
  show ((UInt8.ofNat n).toNat:Int)=(n:Int)
  simp;omega
 rw [<-b0e,this]
theorem c7g (l:List Int) (i:Nat) (a:Int):Gj (rws eI l) i [I a]=rws eI (l.set i a):=by simp [Gj,rws,eI]
theorem setB (l:List Bool) (i:Nat) (a:Bool):Gj (rws eB l) i [B a]=rws eB (l.set i a):=by simp [Gj,rws,eB]
theorem c0t (l:List UInt8) (i:Nat) (a:UInt8):Gj (rws eU8 l) i [.lit (.int .u8 a.toNat)]=rws eU8 (l.set i a):=by simp [Gj,rws,eU8]
theorem b0h (l:List UInt8) (i:Nat) (x:Int):Gj (rws eU8 l) i [.lit (.int .u8 (IntKind.u8.wrap x))]=rws eU8 (l.set i (UInt8.ofInt x)):=by
 rw [<-tu,c0t]
theorem b0k (e:En α) (x:α) (n k:Nat):Uc n k (e.enc x)=rws e (List.replicate k x):=by simp [Uc,rws]
theorem c2f (m:Nat) (h:e.esz=m):V.cz (.imm m (rws e l))=sl e l:=by subst h;rfl
theorem a5E (r:List (List V)):r.drop 0=r:=rfl
theorem pi (e:En α) (l:List α):(l=[]/\sl e l= .imm 1 [])\/(l≠[]/\sl e l= .imm e.esz (rws e l)):=by
 cases l with
 |nil=>exact .inl ⟨rfl,rfl⟩
 |cons x l=>exact .inr ⟨by simp,rfl⟩
theorem c5U:(sl e l).cz=sl e l:=by
 cases l with
 |nil=>rfl
 |cons x l=>rfl
theorem c36:(sl e l).czA=sl e l:=by
 cases l with
 |nil=>rfl
 |cons x l=>rfl
theorem c3P:(sl e l).czR=sl e l:=by
 cases l with
 |nil=>rfl
 |cons x l=>rfl
theorem b7J:(sl e l).cell=true:=by
 rcases pi e l with ⟨_,h⟩|⟨_,h⟩<;>rw [h]<;>rfl
theorem b2P:(sl e l).cells=[sl e l]:=by
 rcases pi e l with ⟨_,h⟩|⟨_,h⟩<;>rw [h]<;>rfl
theorem b9n:ny (sl e l)=[]:=by
 rcases pi e l with ⟨_,h⟩|⟨_,h⟩<;>rw [h]<;>rfl
theorem b6H:EO (sl e l)=[]:=by
 rcases pi e l with ⟨_,h⟩|⟨_,h⟩<;>rw [h]<;>rfl
theorem a4v {h:ba}:uO h (sl e l)=some (sl e l,[]):=by
 rcases pi e l with ⟨_,h⟩|⟨_,h⟩<;>rw [h]<;>rfl
theorem a27 {h:ba} {own:Bool} {ids:List Nat}:fx h own ids (sl e l)=some (sl e l,ids,[]):=by
 rcases pi e l with ⟨_,h⟩|⟨_,h⟩<;>rw [h]<;>rfl
theorem a80 {h:ba} {own:Bool} {ids:List Nat}:gZ h own ids (sl e l)=some (sl e l,ids,[]):=by
 rcases pi e l with ⟨_,h⟩|⟨_,h⟩<;>rw [h]<;>rfl
theorem c2d {ids:List Nat}:unV ids (sl e l)=sl e l:=by
 rcases pi e l with ⟨_,h⟩|⟨_,h⟩<;>rw [h]<;>rfl
theorem b3C {ids:List Nat}:pV ids (sl e l)=sl e l:=by
 rcases pi e l with ⟨_,h⟩|⟨_,h⟩<;>rw [h]<;>rfl
theorem b4Y {ids:List Nat}:Jo ids (sl e l)=sl e l:=by
 rcases pi e l with ⟨_,h⟩|⟨_,h⟩<;>rw [h]<;>rfl
theorem b0B:vG (sl e l)=false:=by
 rcases pi e l with ⟨_,h⟩|⟨_,h⟩<;>rw [h]<;>rfl
theorem b1f:SV (sl e l)=false:=by
 rcases pi e l with ⟨_,h⟩|⟨_,h⟩<;>rw [h]<;>rfl
theorem b4v:Bz (sl e l)=false:=by
 rcases pi e l with ⟨_,h⟩|⟨_,h⟩<;>rw [h]<;>rfl
theorem c3z {h:ba} {bs:List Nat}:fzC h bs (sl e l)=sl e l:=by
 rcases pi e l with ⟨_,h⟩|⟨_,h⟩<;>rw [h]<;>rfl
theorem c4g {h:ba} {bs:List Nat}:fzA h bs (sl e l)=sl e l:=by
 rcases pi e l with ⟨_,h⟩|⟨_,h⟩<;>rw [h]<;>rfl
theorem b6K {h:ba} {m:Nat} {kp:List Nat}:vP h m kp (sl e l)=some (sl e l):=by
 rcases pi e l with ⟨_,h⟩|⟨_,h⟩<;>rw [h]<;>rfl
theorem b9F {h:ba} {m:Nat} {kp:List Nat}:KZ h m kp (sl e l)=some (sl e l):=by
 rcases pi e l with ⟨_,h⟩|⟨_,h⟩<;>rw [h]<;>rfl
theorem b67 {h:ba} {m:Nat} {kp:List Nat}:Nl h m kp (sl e l)=some (sl e l):=by
 rcases pi e l with ⟨_,h⟩|⟨_,h⟩<;>rw [h]<;>rfl
theorem V2 {h:ba} (m:Nat) (a:e.esz=m):fm h m (sl e l)=some (rws e l):=by
 subst a
 rcases pi e l with ⟨rfl,h⟩|⟨b,h⟩
 ·rw [h];simp [fm,rws]
 ·rw [h];simp [fm]
theorem a1c:a5T (sl e l)=false:=by
 rcases pi e l with ⟨_,h⟩|⟨_,h⟩<;>rw [h]<;>rfl
end
end
end Go.AI
