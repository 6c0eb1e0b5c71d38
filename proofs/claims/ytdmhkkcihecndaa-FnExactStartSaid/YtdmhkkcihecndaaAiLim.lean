/- The limit of the abstract machine's runs: more rounds tell the same; the equations of the limit. -/
import Derived.Test.YtdmhkkcihecndaaAiDefs
namespace Go.AI
theorem uV {C C':aA} (hC: ∀f a b r,C f a b=some r→C' f a b=some r) {ow:bP} {h:ag} {new:Nat} {f:FuncId} {args:List V} {r:V×Upd}
 (hr:eR C ow h new f args=some r):eR C' ow h new f args=some r:=by
 unfold eR at hr ⊢
 cases hp:bB ow h f args with
 |none=>rw [hp] at hr;cases hr
 |some p=>
  obtain ⟨args',blks,ids,bor⟩:=p
  rw [hp] at hr
  dsimp only at hr ⊢
  cases hc:C f (iO (ow f) args') (iQ (ow f) blks) with
  |none=>rw [hc] at hr;cases hr
  |some q=>rw [hC _ _ _ _ hc];rw [hc] at hr;exact hr
theorem wK {C C':aA} (hC: ∀f a b r,C f a b=some r→C' f a b=some r) {ow:bP} {o:AOp} {ev:Opd→V} {h:ag} {new:Nat} {r:V×Upd}
 (hr:aa C ow o ev h new=some r):aa C' ow o ev h new=some r:=by
 cases o
 case call f args=>simp only [aa] at hr ⊢;exact uV hC hr
 case dyn f args=>
  simp only [aa] at hr ⊢
  split at hr
  ·exact uV hC hr
  ·cases hr
 all_goals exact hr
theorem zw {C:Nat→aA} {D:aA} (hD: ∀f a b r,D f a b=some r→ ∃n,C n f a b=some r) (n0:Nat) {ow:bP} {o:AOp} {ev:Opd→V} {h:ag} {new:Nat} {r:V×Upd}
 (hr:aa D ow o ev h new=some r): ∃n,aa (C n) ow o ev h new=some r:=by
 have key: ∀f args,eR D ow h new f args=some r→ ∃n,eR (C n) ow h new f args=some r:=by
  intro f args hr
  unfold eR at hr
  cases hp:bB ow h f args with
  |none=>rw [hp] at hr;cases hr
  |some p=>
   obtain ⟨args',blks,ids,bor⟩:=p
   rw [hp] at hr
   dsimp only at hr
   cases hc:D f (iO (ow f) args') (iQ (ow f) blks) with
   |none=>rw [hc] at hr;cases hr
   |some q=>
    rw [hc] at hr
    obtain ⟨n,hn⟩:=hD _ _ _ _ hc
    refine ⟨n, ?_⟩
    unfold eR
    rw [hp]
    dsimp only
    rw [hn]
    exact hr
 cases o
 case call f args=>simp only [aa] at hr ⊢;exact key _ _ hr
 case dyn f args=>
  simp only [aa] at hr ⊢
  split at hr
  ·exact key _ _ hr
  ·cases hr
 all_goals exact ⟨n0,hr⟩
theorem wa {C C':aA} (hC: ∀f a b r,C f a b=some r→C' f a b=some r) {ow:bP} {st:St} {s:aC} {n:Nat} {r:St}
 (hr:mF C ow st s n=some r):mF C' ow st s n=some r:=by
 unfold mF at hr ⊢
 split at hr
 ·cases hr
 ·exact hr
 ·split at hr
  ·rename_i v u ho;rw [wK hC ho];exact hr
  ·cases hr
theorem iZ {C C':aA} (hC: ∀f a b r,C f a b=some r→C' f a b=some r) {ow:bP}: ∀{l:List aC} {n:Nat} {st:St} {r:St},
 dZ C ow l n st=some r→dZ C' ow l n st=some r
 |[],_,_,_,hr=>hr
 |s::l,n,st,r,hr=>by
  simp only [dZ] at hr ⊢
  split at hr
  ·rename_i st' h;rw [wa hC h];exact iZ hC hr
  ·cases hr
theorem vP {C C':aA} (hC: ∀f a b r,C f a b=some r→C' f a b=some r) {ow:bP} {st:St} {s:aC} {i n:Nat} {r:St×Rec}
 (hr:kY C ow st s i n=some r):kY C' ow st s i n=some r:=by
 unfold kY at hr ⊢
 split at hr
 ·cases hr
 ·exact hr
 ·split at hr
  ·rename_i v u ho;rw [wK hC ho];exact hr
  ·cases hr
theorem jg {C C':aA} (hC: ∀f a b r,C f a b=some r→C' f a b=some r) {ow:bP} {base:Nat}: ∀{l:List aC} {n:Nat} {st:St} {r:St×List Rec},
 cY C ow base l n st=some r→cY C' ow base l n st=some r
 |[],_,_,_,hr=>hr
 |s::l,n,st,r,hr=>by
  simp only [cY] at hr ⊢
  split at hr
  ·rename_i st' rc h
   rw [vP hC h]
   dsimp only
   split at hr
   ·rename_i st2 rs h2;rw [jg hC h2];exact hr
   ·cases hr
  ·cases hr
theorem ba {C C':aA} (hC: ∀f a b r,C f a b=some r→C' f a b=some r) {ow:bP}: ∀(n m:Nat),n≤m→ ∀{c:ai} {st:St} {r:al×St},
 aQ C ow n c st=some r→aQ C' ow m c st=some r
 |0,_,_,_,_,_,hr=>by simp [aQ] at hr
 |n+1,0,h,_,_,_,_=>absurd h (by omega)
 |n+1,m+1,h,c,st,r,hr=>by
  have ih:=fun {c st r}=>ba hC (ow:=ow) n m (by omega) (c:=c) (st:=st) (r:=r)
  cases c with
  |skip=>exact hr
  |region base steps live=>
   simp only [aQ,iH] at hr ⊢
   split at hr
   ·rename_i st' h;rw [iZ hC h];exact hr
   ·cases hr
  |drawn base steps deps live=>
   simp only [aQ,lS] at hr ⊢
   split at hr
   ·rename_i st' rs h;rw [jg hC h];exact hr
   ·cases hr
  |seq a b=>
   simp only [aQ] at hr ⊢
   cases ha:aQ C ow n a st with
   |none=>rw [ha] at hr;cases hr
   |some p=>
    obtain ⟨e,st'⟩:=p
    rw [ih ha]
    rw [ha] at hr
    cases e with
    |normal=>exact ih hr
    |exit id=>exact hr
    |ret=>exact hr
  |cond c a b=>
   simp only [aQ] at hr ⊢
   split at hr
   ·exact ih hr
   ·exact ih hr
   ·cases hr
  |block id c=>
   simp only [aQ] at hr ⊢
   cases ha:aQ C ow n c st with
   |none=>rw [ha] at hr;cases hr
   |some p=>rw [ih ha];rw [ha] at hr;exact hr
  |loop c=>
   simp only [aQ] at hr ⊢
   cases ha:aQ C ow n c st with
   |none=>rw [ha] at hr;cases hr
   |some p=>
    obtain ⟨e,st'⟩:=p
    rw [ih ha]
    rw [ha] at hr
    cases e with
    |normal=>exact ih hr
    |exit id=>exact hr
    |ret=>exact hr
  |exit id=>exact hr
  |ret=>exact hr
  |ghost g c=>
   simp only [aQ] at hr ⊢
   split at hr
   ·exact ih hr
   ·cases hr
theorem wP (T:Tab) (ow:bP): ∀(n:Nat) f a b r,bz T ow n f a b=some r→bz T ow (n+1) f a b=some r
 |0,_,_,_,_,h=>by simp [bz] at h
 |n+1,f,a,b,r,h=>by
  simp only [bz] at h ⊢
  split at h
  ·cases h
  rotate_left
  ·exact h
  ·rename_i af haf
   cases he:aQ (bz T ow n) ow n af.body (start a b) with
   |none=>rw [he] at h;simp [fA,BV] at h
   |some p=>
    have:=ba (wP T ow n) (ow:=ow) n (n+1) (by omega) he
    simp only [bz] at this
    rw [this]
    rw [he] at h
    exact h
theorem aZ (T:Tab) (ow:bP) {n m:Nat} (h:n≤m): ∀f a b r,bz T ow n f a b=some r→bz T ow m f a b=some r:=by
 induction h with
 |refl=>exact fun _ _ _ _ h=>h
 |step _ ih=>exact fun f a b r h=>wP T ow _ f a b r (ih f a b r h)
open Classical in
noncomputable def lim {α:Type} (g:Nat→Option α):Option α:=if h: ∃n r,g n=some r then g h.choose else none
theorem Em {α:Type} {g:Nat→Option α} (hm: ∀n m r,n≤m→g n=some r→g m=some r) {n:Nat} {r:α} (h:g n=some r):lim g=some r:=by
 have hx: ∃n r,g n=some r:=⟨n,r,h⟩
 unfold lim
 rw [dif_pos hx]
 obtain ⟨r',hr'⟩:=hx.choose_spec
 have h1:=hm _ (max n hx.choose) _ (Nat.le_max_left _ _) h
 have h2:=hm _ (max n hx.choose) _ (Nat.le_max_right _ _) hr'
 rw [h1] at h2
 rw [hr', ←h2]
theorem FV {α:Type} {g:Nat→Option α} {r:α} (h:lim g=some r): ∃n,g n=some r:=by
 unfold lim at h
 split at h
 ·exact ⟨_,h⟩
 ·cases h
noncomputable def Call (T:Tab) (ow:bP):aA:=fun f a b=>lim fun n=>bz T ow n f a b
noncomputable def dm (T:Tab) (ow:bP) (c:ai) (st:St):Option (al×St):=lim fun n=>aQ (bz T ow n) ow n c st
section
variable {T:Tab} {ow:bP}
theorem NW {n m:Nat} (h:n≤m) {c:ai} {st:St} {r:al×St} (hr:aQ (bz T ow n) ow n c st=some r):aQ (bz T ow m) ow m c st=some r:=
 ba (aZ T ow h) n m h hr
theorem bR {n:Nat} {c:ai} {st:St} {r:al×St} (h:aQ (bz T ow n) ow n c st=some r):dm T ow c st=some r:=
 Em (g:=fun n=>aQ (bz T ow n) ow n c st) (fun _ _ _ hnm h=>NW hnm h) h
theorem dD {c:ai} {st:St} {r:al×St} (h:dm T ow c st=some r): ∃n,aQ (bz T ow n) ow n c st=some r:=FV h
theorem AB {n:Nat} {f:FuncId} {a:List V} {b:List Blk} {r:V×List Blk} (h:bz T ow n f a b=some r):Call T ow f a b=some r:=
 Em (g:=fun n=>bz T ow n f a b) (fun _ _ _ hnm h=>aZ T ow hnm _ _ _ _ h) h
theorem vD {f:FuncId} {a:List V} {b:List Blk} {r:V×List Blk} (h:Call T ow f a b=some r): ∃n,bz T ow n f a b=some r:=FV h
theorem jW {α:Type} {a b:Option α} (h1: ∀r,a=some r→b=some r) (h2: ∀r,b=some r→a=some r):a=b:=by
 cases a with
 |none=>cases b with
  |none=>rfl
  |some r=>exact absurd (h2 r rfl) (by simp)
 |some r=>exact (h1 r rfl).symm
theorem xM: ∀{l:List aC} {n:Nat} {st:St} {r:St},dZ (Call T ow) ow l n st=some r→ ∃k,dZ (bz T ow k) ow l n st=some r
 |[],_,_,_,h=>⟨0,h⟩
 |s::l,n,st,r,h=>by
  simp only [dZ] at h
  cases h1:mF (Call T ow) ow st s n with
  |none=>rw [h1] at h;cases h
  |some st'=>
   rw [h1] at h
   obtain ⟨k2,hk2⟩:=xM h
   have: ∃k,mF (bz T ow k) ow st s n=some st':=by
    unfold mF at h1 ⊢
    split at h1
    ·cases h1
    ·exact ⟨0,h1⟩
    ·split at h1
     ·rename_i v u ho
      obtain ⟨k,hk⟩:=zw (C:=bz T ow) (D:=Call T ow) (fun _ _ _ _ h=>vD h) 0 ho
      exact ⟨k,by rw [hk];exact h1⟩
     ·cases h1
   obtain ⟨k1,hk1⟩:=this
   refine ⟨max k1 k2, ?_⟩
   simp only [dZ]
   rw [wa (aZ T ow (Nat.le_max_left k1 k2)) hk1]
   exact iZ (aZ T ow (Nat.le_max_right k1 k2)) hk2
theorem wE {base:Nat}: ∀{l:List aC} {n:Nat} {st:St} {r:St×List Rec},cY (Call T ow) ow base l n st=some r→ ∃k,cY (bz T ow k) ow base l n st=some r
 |[],_,_,_,h=>⟨0,h⟩
 |s::l,n,st,r,h=>by
  simp only [cY] at h
  cases h1:kY (Call T ow) ow st s n (base+n) with
  |none=>rw [h1] at h;cases h
  |some p=>
   obtain ⟨st',rc⟩:=p
   rw [h1] at h
   dsimp only at h
   cases h2:cY (Call T ow) ow base l (n+1) st' with
   |none=>rw [h2] at h;cases h
   |some q=>
    obtain ⟨st2,rs⟩:=q
    rw [h2] at h
    obtain ⟨k2,hk2⟩:=wE h2
    have: ∃k,kY (bz T ow k) ow st s n (base+n)=some (st',rc):=by
     unfold kY at h1 ⊢
     split at h1
     ·cases h1
     ·exact ⟨0,h1⟩
     ·split at h1
      ·rename_i v u ho
       obtain ⟨k,hk⟩:=zw (C:=bz T ow) (D:=Call T ow) (fun _ _ _ _ h=>vD h) 0 ho
       exact ⟨k,by rw [hk];exact h1⟩
      ·cases h1
    obtain ⟨k1,hk1⟩:=this
    refine ⟨max k1 k2, ?_⟩
    simp only [cY]
    rw [vP (aZ T ow (Nat.le_max_left k1 k2)) hk1]
    dsimp only
    rw [jg (aZ T ow (Nat.le_max_right k1 k2)) hk2]
    exact h
theorem vS (k:Nat): ∀f a b r,bz T ow k f a b=some r→Call T ow f a b=some r:=fun _ _ _ _ h=>AB h
theorem It (st:St):dm T ow .skip st=some (.normal,st):=bR (n:=1) rfl
theorem GU (id:Nat) (st:St):dm T ow (.exit id) st=some (.exit id,st):=bR (n:=1) rfl
theorem M4 (st:St):dm T ow .ret st=some (.ret,st):=bR (n:=1) rfl
theorem Dm (base:Nat) (steps:List aC) (live:List Nat) (st:St):dm T ow (.region base steps live) st=iH (Call T ow) ow base steps live st:=by
 refine jW (fun r h=> ?_) (fun r h=> ?_)
 ·obtain ⟨n,hn⟩:=dD h
  cases n with
  |zero=>simp [aQ] at hn
  |succ n=>
   simp only [aQ,iH] at hn ⊢
   split at hn
   ·rename_i st' h';rw [iZ (vS (n+1)) h'];exact hn
   ·cases hn
 ·unfold iH at h
  split at h
  ·rename_i st' h'
   obtain ⟨k,hk⟩:=xM h'
   refine bR (n:=k+1) ?_
   simp only [aQ,iH]
   rw [iZ (aZ T ow (Nat.le_succ k)) hk]
   exact h
  ·cases h
theorem FQ (base:Nat) (steps:List aC) (deps:List (List Nat)) (live:List Nat) (st:St):
 dm T ow (.drawn base steps deps live) st=lS (Call T ow) ow base steps deps live st:=by
 refine jW (fun r h=> ?_) (fun r h=> ?_)
 ·obtain ⟨n,hn⟩:=dD h
  cases n with
  |zero=>simp [aQ] at hn
  |succ n=>
   simp only [aQ,lS] at hn ⊢
   split at hn
   ·rename_i st' rs h';rw [jg (vS (n+1)) h'];exact hn
   ·cases hn
 ·unfold lS at h
  split at h
  ·rename_i st' rs h'
   obtain ⟨k,hk⟩:=wE h'
   refine bR (n:=k+1) ?_
   simp only [aQ,lS]
   rw [jg (aZ T ow (Nat.le_succ k)) hk]
   exact h
  ·cases h
theorem xr (a b:ai) (st:St):dm T ow (.seq a b) st=(match dm T ow a st with
 |some (.normal,st')=>dm T ow b st'
 |r=>r):=by
 refine jW (fun r h=> ?_) (fun r h=> ?_)
 ·obtain ⟨n,hn⟩:=dD h
  cases n with
  |zero=>simp [aQ] at hn
  |succ n=>
   simp only [aQ] at hn
   cases ha:aQ (bz T ow (n+1)) ow n a st with
   |none=>rw [ha] at hn;cases hn
   |some p=>
    obtain ⟨e,st'⟩:=p
    rw [bR (ba (fun _ _ _ _ h=>h) n (n+1) (by omega) ha)]
    rw [ha] at hn
    cases e with
    |normal=>exact bR (ba (fun _ _ _ _ h=>h) n (n+1) (by omega) hn)
    |exit id=>exact hn
    |ret=>exact hn
 ·cases ha:dm T ow a st with
  |none=>rw [ha] at h;cases h
  |some p=>
   obtain ⟨e,st'⟩:=p
   rw [ha] at h
   obtain ⟨n,hn⟩:=dD ha
   cases e with
   |normal=>
    obtain ⟨m,hm⟩:=dD (show dm T ow b st'=some r from h)
    refine bR (n:=max n m+1) ?_
    simp only [aQ]
    rw [ba (aZ T ow (by omega)) n (max n m) (by omega) hn]
    exact ba (aZ T ow (by omega)) m (max n m) (by omega) hm
   |exit id=>
    refine bR (n:=n+1) ?_
    simp only [aQ]
    rw [ba (aZ T ow (by omega)) n n (by omega) hn]
    exact h
   |ret=>
    refine bR (n:=n+1) ?_
    simp only [aQ]
    rw [ba (aZ T ow (by omega)) n n (by omega) hn]
    exact h
theorem If (c:Opd) (a b:ai) (st:St):dm T ow (.cond c a b) st=(match st.ev c with
 | .lit (.bool true)=>dm T ow a st
 | .lit (.bool false)=>dm T ow b st
 |_=>none):=by
 refine jW (fun r h=> ?_) (fun r h=> ?_)
 ·obtain ⟨n,hn⟩:=dD h
  cases n with
  |zero=>simp [aQ] at hn
  |succ n=>
   simp only [aQ] at hn
   split at hn
   ·rename_i hc;simp only [hc];exact bR (ba (fun _ _ _ _ h=>h) n (n+1) (by omega) hn)
   ·rename_i hc;simp only [hc];exact bR (ba (fun _ _ _ _ h=>h) n (n+1) (by omega) hn)
   ·cases hn
 ·split at h
  ·rename_i hc
   obtain ⟨n,hn⟩:=dD h
   refine bR (n:=n+1) ?_
   simp only [aQ,hc]
   exact ba (aZ T ow (by omega)) n n (by omega) hn
  ·rename_i hc
   obtain ⟨n,hn⟩:=dD h
   refine bR (n:=n+1) ?_
   simp only [aQ,hc]
   exact ba (aZ T ow (by omega)) n n (by omega) hn
  ·cases h
theorem sc (id:Nat) (c:ai) (st:St):dm T ow (.block id c) st=(match dm T ow c st with
 |some (.exit id',st')=>if id'=id then some (.normal,st') else some (.exit id',st')
 |r=>r):=by
 refine jW (fun r h=> ?_) (fun r h=> ?_)
 ·obtain ⟨n,hn⟩:=dD h
  cases n with
  |zero=>simp [aQ] at hn
  |succ n=>
   simp only [aQ] at hn
   cases ha:aQ (bz T ow (n+1)) ow n c st with
   |none=>rw [ha] at hn;cases hn
   |some p=>
    rw [bR (ba (fun _ _ _ _ h=>h) n (n+1) (by omega) ha)]
    rw [ha] at hn
    exact hn
 ·cases ha:dm T ow c st with
  |none=>rw [ha] at h;cases h
  |some p=>
   obtain ⟨n,hn⟩:=dD ha
   refine bR (n:=n+1) ?_
   simp only [aQ]
   rw [ba (aZ T ow (by omega)) n n (by omega) hn]
   rw [ha] at h
   exact h
theorem zB (c:ai) (st:St):dm T ow (.loop c) st=(match dm T ow c st with
 |some (.normal,st')=>dm T ow (.loop c) st'
 |r=>r):=by
 refine jW (fun r h=> ?_) (fun r h=> ?_)
 ·obtain ⟨n,hn⟩:=dD h
  cases n with
  |zero=>simp [aQ] at hn
  |succ n=>
   simp only [aQ] at hn
   cases ha:aQ (bz T ow (n+1)) ow n c st with
   |none=>rw [ha] at hn;cases hn
   |some p=>
    obtain ⟨e,st'⟩:=p
    rw [bR (ba (fun _ _ _ _ h=>h) n (n+1) (by omega) ha)]
    rw [ha] at hn
    cases e with
    |normal=>exact bR (ba (fun _ _ _ _ h=>h) n (n+1) (by omega) hn)
    |exit id=>exact hn
    |ret=>exact hn
 ·cases ha:dm T ow c st with
  |none=>rw [ha] at h;cases h
  |some p=>
   obtain ⟨e,st'⟩:=p
   rw [ha] at h
   obtain ⟨n,hn⟩:=dD ha
   cases e with
   |normal=>
    obtain ⟨m,hm⟩:=dD (show dm T ow (.loop c) st'=some r from h)
    refine bR (n:=max n m+1) ?_
    simp only [aQ]
    rw [ba (aZ T ow (by omega)) n (max n m) (by omega) hn]
    exact ba (aZ T ow (by omega)) m (max n m) (by omega) hm
   |exit id=>
    refine bR (n:=n+1) ?_
    simp only [aQ]
    rw [ba (aZ T ow (by omega)) n n (by omega) hn]
    exact h
   |ret=>
    refine bR (n:=n+1) ?_
    simp only [aQ]
    rw [ba (aZ T ow (by omega)) n n (by omega) hn]
    exact h
theorem e8 (g:bN) (c:ai) (st:St):dm T ow (.ghost g c) st=(match aR st g with
 |some st'=>dm T ow c st'
 |none=>none):=by
 refine jW (fun r h=> ?_) (fun r h=> ?_)
 ·obtain ⟨n,hn⟩:=dD h
  cases n with
  |zero=>simp [aQ] at hn
  |succ n=>
   simp only [aQ] at hn
   split at hn
   ·rename_i st' hg;simp only [hg];exact bR (ba (fun _ _ _ _ h=>h) n (n+1) (by omega) hn)
   ·cases hn
 ·split at h
  ·rename_i st' hg
   obtain ⟨n,hn⟩:=dD h
   refine bR (n:=n+1) ?_
   simp only [aQ,hg]
   exact ba (aZ T ow (by omega)) n n (by omega) hn
  ·cases h
theorem GC (f:FuncId) (a:List V) (b:List Blk):Call T ow f a b=(match T f with
 |none=>none
 |some (.code af)=>BV af (fA af b.length (dm T ow af.body (start a b)))
 |some (.ext g)=>g a b):=by
 refine jW (fun r h=> ?_) (fun r h=> ?_)
 ·obtain ⟨n,hn⟩:=vD h
  cases n with
  |zero=>simp [bz] at hn
  |succ n=>
   simp only [bz] at hn
   split at hn
   ·cases hn
   rotate_left
   ·rename_i g hg;simp only [hg];exact hn
   ·rename_i af haf
    cases he:aQ (bz T ow n) ow n af.body (start a b) with
    |none=>rw [he] at hn;simp [fA,BV] at hn
    |some p=>simp only [haf];rw [bR he];rw [he] at hn;exact hn
 ·split at h
  ·cases h
  rotate_left
  ·rename_i g hg
   refine AB (n:=1) ?_
   simp only [bz,hg]
   exact h
  ·rename_i af haf
   cases he:dm T ow af.body (start a b) with
   |none=>rw [he] at h;simp [fA,BV] at h
   |some p=>
    obtain ⟨n,hn⟩:=dD he
    refine AB (n:=n+1) ?_
    simp only [bz,haf]
    rw [hn]
    rw [he] at h
    exact h
end
end Go.AI
set_option linter.unusedVariables false
set_option linter.unusedSimpArgs false
namespace Go.AI
def br {α:Type} (c:Bool) (x y:α):α:=match c with
 |true=>x
 |false=>y
theorem bK {α:Type} (x y:α):br true x y=x:=rfl
theorem aH {α:Type} (x y:α):br false x y=y:=rfl
theorem Wc {α:Type} (c:Bool) (x y:α):br (!c) x y=br c y x:=by cases c<;>rfl
theorem tS {α:Type} {c:Bool} {x y r:α} (h:c=true) (hx:x=r):br c x y=r:=by subst h;exact hx
theorem I4 {α:Type} {c:Bool} {x y r:α} (h:c=false) (hy:y=r):br c x y=r:=by subst h;exact hy
theorem brc {α:Type} {c:Bool} {x y r:α} (h:br c x y=r):(c=true∧x=r)∨(c=false∧y=r):=by
 cases c
 ·exact .inr ⟨rfl,h⟩
 ·exact .inl ⟨rfl,h⟩
theorem brg {α:Type} {c:Bool} {x:Option α} {r:α} (h:br c x none=some r):c=true∧x=some r:=by
 cases c
 ·cases h
 ·exact ⟨rfl,h⟩
theorem bd {α β:Type} {x:Option α} {g:α→Option β} {r:β} (h:x.bind g=some r): ∃a,x=some a∧g a=some r:=by
 cases x with
 |none=>cases h
 |some a=>exact ⟨a,rfl,h⟩
inductive Fr where
 |code (c:ai)
 |steps (n:Nat) (ss:List aC) (live:List Nat)
 |dr (base i:Nat) (ss:List aC) (deps:List (List Nat)) (live:List Nat) (rs:List Rec)
 |blk (id:Nat)
section
variable {R:Type}
noncomputable def io (T:Tab) (ow:bP) (k:al→St→Option R):List Fr→Option Nat→St→Option R
 |[],none,st=>k .normal st
 |[],some id,st=>k (.exit id) st
 | .blk id'::K,some id,st=>if id'=id then io T ow k K none st else io T ow k K (some id) st
 |_::K,some id,st=>io T ow k K (some id) st
 | .blk _::K,none,st=>io T ow k K none st
 | .code c::K,none,st=>match dm T ow c st with
   |some (.normal,st')=>io T ow k K none st'
   |some (.exit id,st')=>io T ow k K (some id) st'
   |some (.ret,st')=>k .ret st'
   |none=>none
 | .steps n ss live::K,none,st=>match dZ (Call T ow) ow ss n st with
   |some st'=>io T ow k K none (trim live st')
   |none=>none
 | .dr base i ss deps live rs::K,none,st=>match cY (Call T ow) ow base ss i st with
   |some (st',rs')=>br (fY deps (rs++rs'.filter Rec.loud)) (io T ow k K none (trim live st')) none
   |none=>none
noncomputable def Rn (T:Tab) (ow:bP) (k:al→St→Option R) (K:List Fr) (st:St):Option R:=io T ow k K none st
noncomputable def Unw (T:Tab) (ow:bP) (k:al→St→Option R) (id:Nat) (K:List Fr) (st:St):Option R:=io T ow k K (some id) st
noncomputable def goR (T:Tab) (ow:bP) (k:al→St→Option R) (K:List Fr):Option (al×St)→Option R
 |some (.normal,st')=>Rn T ow k K st'
 |some (.exit id,st')=>Unw T ow k id K st'
 |some (.ret,st')=>k .ret st'
 |none=>none
variable {T:Tab} {ow:bP} {k:al→St→Option R}
theorem bt (c:ai) (K:List Fr) (st:St):Rn T ow k (.code c::K) st=goR T ow k K (dm T ow c st):=by
 unfold Rn io goR
 cases dm T ow c st with
 |none=>rfl
 |some p=>obtain ⟨e,st'⟩:=p;cases e<;>rfl
theorem P9 (st:St):Rn T ow k [] st=k .normal st:=rfl
theorem Qi (id:Nat) (K:List Fr) (st:St):Rn T ow k (.blk id::K) st=Rn T ow k K st:=rfl
theorem Lo (K:List Fr) (st:St):Rn T ow k (.code .skip::K) st=Rn T ow k K st:=by rw [bt,It];rfl
theorem LN (id:Nat) (K:List Fr) (st:St):Rn T ow k (.code (.exit id)::K) st=Unw T ow k id K st:=by rw [bt,GU];rfl
theorem O1 (K:List Fr) (st:St):Rn T ow k (.code .ret::K) st=k .ret st:=by rw [bt,M4];rfl
theorem ON (a b:ai) (K:List Fr) (st:St):Rn T ow k (.code (.seq a b)::K) st=Rn T ow k (.code a:: .code b::K) st:=by
 rw [bt,xr,bt]
 cases dm T ow a st with
 |none=>rfl
 |some p=>
  obtain ⟨e,st'⟩:=p
  cases e with
  |normal=>simp only [goR];rw [bt];rfl
  |exit id=>rfl
  |ret=>rfl
theorem HJ (id:Nat) (c:ai) (K:List Fr) (st:St):Rn T ow k (.code (.block id c)::K) st=Rn T ow k (.code c:: .blk id::K) st:=by
 rw [bt,sc,bt]
 cases dm T ow c st with
 |none=>rfl
 |some p=>
  obtain ⟨e,st'⟩:=p
  cases e with
  |normal=>rfl
  |exit id'=>
   simp only [goR,Unw,Rn,io]
   by_cases h:id'=id
   ·subst h;simp
   ·rw [if_neg h,if_neg (fun e=>h e.symm)]
  |ret=>rfl
noncomputable def K5 (T:Tab) (ow:bP) (k:al→St→Option R) (a b:ai) (K:List Fr) (st:St):V→Option R
 | .lit (.bool c)=>br c (Rn T ow k (.code a::K) st) (Rn T ow k (.code b::K) st)
 |_=>none
theorem JK (c:Opd) (a b:ai) (K:List Fr) (st:St):Rn T ow k (.code (.cond c a b)::K) st=K5 T ow k a b K st (st.ev c):=by
 rw [bt,If]
 unfold K5
 split
 ·rename_i h;rw [h];exact (bt _ _ _).symm
 ·rename_i h;rw [h];exact (bt _ _ _).symm
 ·rename_i h1 h2
  split
  ·rename_i c' h;cases c'
   ·exact absurd h h2
   ·exact absurd h h1
  ·rfl
theorem FY (a b:ai) (K:List Fr) (st:St) (c:Bool):K5 T ow k a b K st (.lit (.bool c))=br c (Rn T ow k (.code a::K) st) (Rn T ow k (.code b::K) st):=rfl
noncomputable def ghR (T:Tab) (ow:bP) (k:al→St→Option R) (c:ai) (K:List Fr):Option St→Option R
 |some st'=>Rn T ow k (.code c::K) st'
 |none=>none
theorem GN (g:bN) (c:ai) (K:List Fr) (st:St):Rn T ow k (.code (.ghost g c)::K) st=ghR T ow k c K (aR st g):=by
 rw [bt,e8]
 cases aR st g with
 |none=>rfl
 |some st'=>simp only [ghR];rw [bt]
theorem Ll (c:ai) (K:List Fr) (st:St):ghR T ow k c K (some st)=Rn T ow k (.code c::K) st:=rfl
theorem Uz (c:ai) (K:List Fr) (st:St):Rn T ow k (.code (.loop c)::K) st=goR T ow k K (dm T ow (.loop c) st):=bt _ _ _
theorem FH (K:List Fr) (st:St):goR T ow k K (some (.normal,st))=Rn T ow k K st:=rfl
theorem Lj (id:Nat) (K:List Fr) (st:St):goR T ow k K (some (.exit id,st))=Unw T ow k id K st:=rfl
theorem PA (K:List Fr) (st:St):goR T ow k K (some (.ret,st))=k .ret st:=rfl
theorem Nv (id:Nat) (st:St):Unw T ow k id [] st=k (.exit id) st:=rfl
theorem Mo (id:Nat) (c:ai) (K:List Fr) (st:St):Unw T ow k id (.code c::K) st=Unw T ow k id K st:=rfl
theorem PQ (id id':Nat) (K:List Fr) (st:St):Unw T ow k id (.blk id'::K) st=if id'=id then Rn T ow k K st else Unw T ow k id K st:=rfl
theorem Et (n:Nat) (ss:List aC) (live:List Nat) (K:List Fr) (st:St):Rn T ow k (.code (.region n ss live)::K) st=Rn T ow k (.steps n ss live::K) st:=by
 rw [bt,Dm]
 unfold iH
 simp only [Rn,io]
 cases dZ (Call T ow) ow ss n st<;>rfl
theorem HE (n:Nat) (ss:List aC) (deps:List (List Nat)) (live:List Nat) (K:List Fr) (st:St):Rn T ow k (.code (.drawn n ss deps live)::K) st=Rn T ow k (.dr n 0 ss deps live []::K) st:=by
 rw [bt,FQ]
 unfold lS
 simp only [Rn,io]
 cases cY (Call T ow) ow n ss 0 st with
 |none=>rfl
 |some p=>
  obtain ⟨st',rs⟩:=p
  simp only [List.nil_append]
  cases fY deps (rs.filter Rec.loud)<;>rfl
theorem yG (n:Nat) (live:List Nat) (K:List Fr) (st:St):Rn T ow k (.steps n [] live::K) st=Rn T ow k K (trim live st):=rfl
noncomputable def aft (T:Tab) (ow:bP) (k:al→St→Option R) (d:Option Nat) (n:Nat) (ss:List aC) (live:List Nat) (K:List Fr) (st:St):Option (V×Upd)→Option R
 |some (v,u)=>Rn T ow k (.steps (n+1) ss live::K) ((st.upd u).put d v)
 |none=>none
variable {d:Option Nat} {n:Nat} {ss:List aC} {live:List Nat} {K:List Fr} {st:St}
theorem GL (op:AOp):Rn T ow k (.steps n (⟨d,op,none⟩::ss) live::K) st=aft T ow k d n ss live K st (aa (Call T ow) ow op st.ev st.heap n):=by
 unfold aft
 simp only [Rn,io,dZ,mF,St.want]
 cases aa (Call T ow) ow op st.ev st.heap n with
 |none=>rfl
 |some p=>obtain ⟨v,u⟩:=p;rfl
theorem KY (v:V) (u:Upd):aft T ow k d n ss live K st (some (v,u))=Rn T ow k (.steps (n+1) ss live::K) ((st.upd u).put d v):=rfl
theorem L3:aft T ow k d n ss live K st none=none:=rfl
theorem RK (c:Bool) (x y:Option (V×Upd)):aft T ow k d n ss live K st (br c x y)=br c (aft T ow k d n ss live K st x) (aft T ow k d n ss live K st y):=by cases c<;>rfl
theorem Kb {α:Type} (x:Option α) (f:α→Option (V×Upd)):aft T ow k d n ss live K st (x.bind f)=x.bind (fun a=>aft T ow k d n ss live K st (f a)):=by cases x<;>rfl
noncomputable def gd (T:Tab) (ow:bP) (k:al→St→Option R) (t:Nat) (b:Bool) (d:Option Nat) (op:AOp) (n:Nat) (ss:List aC) (live:List Nat) (K:List Fr) (st:St):V→Option R
 | .lit (.bool c)=>br (c==b) (Rn T ow k (.steps n (⟨d,op,none⟩::ss) live::K) { st with e:=cI t (.lit (.bool c)) st.e })
  (Rn T ow k (.steps (n+1) ss live::K) ({ st with e:=cI t (.lit (.bool c)) st.e }.put d (.lit (.tuple #[]))))
 | .lit (.tuple _)=>Rn T ow k (.steps (n+1) ss live::K) (st.put d (.lit (.tuple #[])))
 |_=>none
theorem zx {α:Type}: ∀{l:List (Nat×α)} {t:Nat} {v:α},bT l t=some v→cI t v l=l
 |[],_,_,h=>by simp [bT] at h
 | (j,u)::r,t,v,h=>by
   simp only [bT] at h
   simp only [cI]
   split at h
   ·rename_i e;cases h;subst e;simp
   ·rename_i e;rw [if_neg e,zx h]
theorem Ci {v:V} {t:Nat} (h:st.get t=v) (hv:v≠ .undef):({ st with e:=cI t v st.e }:St)=st:=by
 unfold St.get at h
 cases ha:bT st.e t with
 |none=>rw [ha] at h;exact absurd h.symm hv
 |some u=>
  rw [ha] at h;cases h
  show ({ st with e:=cI t u st.e }:St)=st
  rw [zx ha]
theorem HB (t:Nat) (b:Bool) (op:AOp):Rn T ow k (.steps n (⟨d,op,some (t,b)⟩::ss) live::K) st=gd T ow k t b d op n ss live K st (st.get t):=by
 cases hg:st.get t with
 |lit v=>
  cases v with
  |bool c=>
   simp only [gd]
   rw [Ci hg (by simp)]
   simp only [Rn,io,dZ,mF,St.want,hg]
   cases hcb:(c==b)
   ·simp [aH,hcb]
   ·simp [bK,hcb]
  |tuple xs=>simp only [gd];simp only [Rn,io,dZ,mF,St.want,hg]
  |_=>simp only [gd];simp only [Rn,io,dZ,mF,St.want,hg]
 |_=>simp only [gd];simp only [Rn,io,dZ,mF,St.want,hg]
theorem QA (t:Nat) (op:AOp) (c:Bool):gd T ow k t true d op n ss live K st (.lit (.bool c))=
 br c (Rn T ow k (.steps n (⟨d,op,none⟩::ss) live::K) { st with e:=cI t (.lit (.bool true)) st.e })
  (Rn T ow k (.steps (n+1) ss live::K) ({ st with e:=cI t (.lit (.bool false)) st.e }.put d (.lit (.tuple #[])))):=by cases c<;>rfl
theorem LF (t:Nat) (op:AOp) (c:Bool):gd T ow k t false d op n ss live K st (.lit (.bool c))=
 br c (Rn T ow k (.steps (n+1) ss live::K) ({ st with e:=cI t (.lit (.bool true)) st.e }.put d (.lit (.tuple #[]))))
  (Rn T ow k (.steps n (⟨d,op,none⟩::ss) live::K) { st with e:=cI t (.lit (.bool false)) st.e }):=by cases c<;>rfl
theorem MV (t:Nat) (b:Bool) (op:AOp) (xs:Array Value):gd T ow k t b d op n ss live K st (.lit (.tuple xs))=Rn T ow k (.steps (n+1) ss live::K) (st.put d (.lit (.tuple #[]))):=rfl
variable {base i:Nat} {deps:List (List Nat)} {rs:List Rec} {fp:List Nat}
def J0 (rs:List Rec) (i:Nat) (fp wr:List Nat):List Rec:=rs++[Rec.mk i fp wr].filter Rec.loud
theorem FJ:Rn T ow k (.dr base i [] deps live rs::K) st=br (fY deps rs) (Rn T ow k K (trim live st)) none:=by
 simp only [Rn,io,cY,List.filter_nil,List.append_nil]
noncomputable def v5 (T:Tab) (ow:bP) (k:al→St→Option R) (d:Option Nat) (base i:Nat) (ss:List aC) (deps:List (List Nat)) (live:List Nat) (rs:List Rec) (K:List Fr) (st:St) (fp:List Nat):Option (V×Upd)→Option R
 |some (v,u)=>br ((u.map (·.1)).all (fun b=>decide (b∈fp)||(st.heap b).isNone))
  (Rn T ow k (.dr base (i+1) ss deps live (J0 rs i fp (u.map (·.1)))::K) ((st.upd u).put d v)) none
 |none=>none
theorem Rl (op:AOp):Rn T ow k (.dr base i (⟨d,op,none⟩::ss) deps live rs::K) st=
 v5 T ow k d base i ss deps live rs K st (cA ow op st.ev st.heap) (aa (Call T ow) ow op st.ev (gS st.heap (cA ow op st.ev st.heap)) (base+i)):=by
 unfold v5
 simp only [Rn,io,cY,kY,St.want]
 cases ho:aa (Call T ow) ow op st.ev (gS st.heap (cA ow op st.ev st.heap)) (base+i) with
 |none=>rfl
 |some p=>
  obtain ⟨v,u⟩:=p
  dsimp only
  by_cases hc:(u.map (·.1)).all (fun b=>decide (b∈cA ow op st.ev st.heap)||(st.heap b).isNone)=true
  ·rw [hc,bK,if_pos rfl]
   dsimp only
   cases cY (Call T ow) ow base ss (i+1) ((st.upd u).put d v) with
   |none=>rfl
   |some q=>
    obtain ⟨st2,rs2⟩:=q
    simp only [J0,List.filter_cons,List.filter_nil,List.append_assoc]
    cases Rec.loud ⟨i,cA ow op st.ev st.heap,u.map (·.1)⟩<;>rfl
  ·rw [Bool.not_eq_true] at hc
   rw [hc,aH,if_neg (by decide)]
theorem Ie (v:V) (u:Upd):v5 T ow k d base i ss deps live rs K st fp (some (v,u))=br ((u.map (·.1)).all (fun b=>decide (b∈fp)||(st.heap b).isNone))
 (Rn T ow k (.dr base (i+1) ss deps live (J0 rs i fp (u.map (·.1)))::K) ((st.upd u).put d v)) none:=rfl
theorem EB (v:V):v5 T ow k d base i ss deps live rs K st fp (some (v,[]))=Rn T ow k (.dr base (i+1) ss deps live (J0 rs i fp [])::K) (st.put d v):=rfl
theorem H9:v5 T ow k d base i ss deps live rs K st fp none=none:=rfl
theorem Ns (c:Bool) (x y:Option (V×Upd)):v5 T ow k d base i ss deps live rs K st fp (br c x y)=br c (v5 T ow k d base i ss deps live rs K st fp x) (v5 T ow k d base i ss deps live rs K st fp y):=by cases c<;>rfl
theorem Ja {α:Type} (x:Option α) (f:α→Option (V×Upd)):v5 T ow k d base i ss deps live rs K st fp (x.bind f)=x.bind (fun a=>v5 T ow k d base i ss deps live rs K st fp (f a)):=by cases x<;>rfl
noncomputable def gdD (T:Tab) (ow:bP) (k:al→St→Option R) (t:Nat) (b:Bool) (d:Option Nat) (op:AOp) (base i:Nat) (ss:List aC) (deps:List (List Nat)) (live:List Nat) (rs:List Rec) (K:List Fr) (st:St):V→Option R
 | .lit (.bool c)=>br (c==b) (Rn T ow k (.dr base i (⟨d,op,none⟩::ss) deps live rs::K) { st with e:=cI t (.lit (.bool c)) st.e })
  (Rn T ow k (.dr base (i+1) ss deps live rs::K) ({ st with e:=cI t (.lit (.bool c)) st.e }.put d (.lit (.tuple #[]))))
 | .lit (.tuple _)=>Rn T ow k (.dr base (i+1) ss deps live rs::K) (st.put d (.lit (.tuple #[])))
 |_=>none
theorem GF (op:AOp) (g:Nat×Bool) (h:st.want (some g)=some false):Rn T ow k (.dr base i (⟨d,op,some g⟩::ss) deps live rs::K) st=Rn T ow k (.dr base (i+1) ss deps live rs::K) (st.put d (.lit (.tuple #[]))):=by
 simp only [Rn,io,cY,kY,h]
 cases cY (Call T ow) ow base ss (i+1) (st.put d (.lit (.tuple #[]))) with
 |none=>rfl
 |some q=>obtain ⟨st2,rs2⟩:=q;rfl
theorem Vu (op:AOp) (g:Nat×Bool) (h:st.want (some g)=some true):Rn T ow k (.dr base i (⟨d,op,some g⟩::ss) deps live rs::K) st=Rn T ow k (.dr base i (⟨d,op,none⟩::ss) deps live rs::K) st:=by
 have h2:st.want none=some true:=rfl
 simp only [Rn,io,cY,kY,h,h2]
theorem GI (op:AOp) (g:Nat×Bool) (h:st.want (some g)=none):Rn T ow k (.dr base i (⟨d,op,some g⟩::ss) deps live rs::K) st=none:=by
 simp only [Rn,io,cY,kY,h]
theorem Bc (t:Nat) (b:Bool) (op:AOp):Rn T ow k (.dr base i (⟨d,op,some (t,b)⟩::ss) deps live rs::K) st=gdD T ow k t b d op base i ss deps live rs K st (st.get t):=by
 cases hg:st.get t with
 |lit v=>
  cases v with
  |bool c=>
   simp only [gdD]
   rw [Ci hg (by simp)]
   cases hcb:(c==b)
   ·rw [aH];exact GF op (t,b) (by simp [St.want,hg,hcb])
   ·rw [bK];exact Vu op (t,b) (by simp [St.want,hg,hcb])
  |tuple xs=>exact GF op (t,b) (by simp [St.want,hg])
  |_=>exact GI op (t,b) (by simp [St.want,hg])
 |_=>exact GI op (t,b) (by simp [St.want,hg])
theorem M1 (t:Nat) (op:AOp) (c:Bool):gdD T ow k t true d op base i ss deps live rs K st (.lit (.bool c))=
 br c (Rn T ow k (.dr base i (⟨d,op,none⟩::ss) deps live rs::K) { st with e:=cI t (.lit (.bool true)) st.e })
  (Rn T ow k (.dr base (i+1) ss deps live rs::K) ({ st with e:=cI t (.lit (.bool false)) st.e }.put d (.lit (.tuple #[])))):=by cases c<;>rfl
theorem Hg (t:Nat) (op:AOp) (c:Bool):gdD T ow k t false d op base i ss deps live rs K st (.lit (.bool c))=
 br c (Rn T ow k (.dr base (i+1) ss deps live rs::K) ({ st with e:=cI t (.lit (.bool true)) st.e }.put d (.lit (.tuple #[]))))
  (Rn T ow k (.dr base i (⟨d,op,none⟩::ss) deps live rs::K) { st with e:=cI t (.lit (.bool false)) st.e }):=by cases c<;>rfl
theorem Iy (t:Nat) (b:Bool) (op:AOp) (xs:Array Value):gdD T ow k t b d op base i ss deps live rs K st (.lit (.tuple xs))=Rn T ow k (.dr base (i+1) ss deps live rs::K) (st.put d (.lit (.tuple #[]))):=rfl
end
def Ec (af:ak) (m:Nat) (x:al) (st:St):Option (V×List Blk):=BV af (fA af m (some (x,st)))
theorem ab {T:Tab} {ow:bP} {f:FuncId} {af:ak} (hT:T f=some (.code af)) (a:List V) (b:List Blk):Call T ow f a b=Rn T ow (Ec af b.length) [.code af.body] (start a b):=by
 rw [GC,hT]
 dsimp only
 rw [bt]
 cases dm T ow af.body (start a b) with
 |none=>rfl
 |some p=>obtain ⟨e,st⟩:=p;cases e<;>rfl
def sd {S E:Type} (step:S→Option (S⊕E)):Nat→S→Option E
 |0,_=>none
 |n+1,s=>match step s with
  |none=>none
  |some (.inl s')=>sd step n s'
  |some (.inr e)=>some e
theorem zj {S E:Type} {step:S→Option (S⊕E)}: ∀{n:Nat} {s:S} {e:E},sd step n s=some e→sd step (n+1) s=some e
 |0,_,_,h=>by cases h
 |n+1,s,e,h=>by
  simp only [sd] at h ⊢
  split at h
  ·cases h
  ·rename_i s' hs;exact zj h
  ·rename_i e' hs;exact h
theorem Oh {S E:Type} {step:S→Option (S⊕E)} {n m:Nat} (hnm:n≤m) {s:S} {e:E} (h:sd step n s=some e):sd step m s=some e:=by
 induction hnm with
 |refl=>exact h
 |step _ ih=>exact zj ih
noncomputable def Loop {S E:Type} (step:S→Option (S⊕E)) (s:S):Option E:=lim (fun n=>sd step n s)
theorem vA {S E:Type} {step:S→Option (S⊕E)} {s:S} {e:E} (h:Loop step s=some e): ∃n,sd step n s=some e:=FV h
theorem Ag {S E:Type} {step:S→Option (S⊕E)} {n:Nat} {s:S} {e:E} (h:sd step n s=some e):Loop step s=some e:=
 Em (g:=fun n=>sd step n s) (fun _ _ _ hnm h=>Oh hnm h) h
def V0 {S E:Type} (lp:S→Option E):Option (S⊕E)→Option E
 |none=>none
 |some (.inl s')=>lp s'
 |some (.inr e)=>some e
theorem Af {S E:Type} (step:S→Option (S⊕E)) (s:S):Loop step s=V0 (Loop step) (step s):=by
 refine jW (fun r h=> ?_) (fun r h=> ?_)
 ·obtain ⟨n,hn⟩:=vA h
  cases n with
  |zero=>cases hn
  |succ n=>
   simp only [sd] at hn
   split at hn
   ·cases hn
   ·rename_i s' hs;rw [hs];exact Ag hn
   ·rename_i e' hs;rw [hs];exact hn
 ·cases hs:step s with
  |none=>rw [hs] at h;cases h
  |some o=>
   rw [hs] at h
   cases o with
   |inl s'=>
    obtain ⟨n,hn⟩:=vA (show Loop step s'=some r from h)
    exact Ag (n:=n+1) (by simp only [sd,hs];exact hn)
   |inr e=>exact Ag (n:=1) (by simp only [sd,hs];exact h)
def UN (x:al) (st:St):Option (al×St):=some (x,st)
theorem Md {T:Tab} {ow:bP} (c:ai) (st:St):dm T ow c st=Rn T ow UN [.code c] st:=by
 rw [bt]
 cases dm T ow c st with
 |none=>rfl
 |some p=>obtain ⟨e,st⟩:=p;cases e<;>rfl
theorem Vr {T:Tab} {ow:bP} {S E:Type} {c:ai} {step:S→Option (S⊕E)} {eS:S→St} {eE:E→al×St} (hne: ∀e,(eE e).1≠ .normal)
 (hb: ∀s o,step s=some o→Rn T ow UN [.code c] (eS s)=some (match o with
  | .inl s'=>(.normal,eS s')
  | .inr e=>eE e)) {s:S} {e:E} (h:Loop step s=some e):dm T ow (.loop c) (eS s)=some (eE e):=by
 obtain ⟨n,hn⟩:=vA h
 clear h
 induction n generalizing s with
 |zero=>cases hn
 |succ n ih=>
  simp only [sd] at hn
  rw [zB,Md]
  split at hn
  ·cases hn
  ·rename_i s' hs
   rw [hb s _ hs]
   exact ih hn
  ·rename_i e' hs
   rw [hb s _ hs]
   cases hn
   dsimp only
   have:=hne e
   revert this
   generalize eE e=p
   obtain ⟨x,st⟩:=p
   intro this
   cases x with
   |normal=>exact absurd rfl this
   |exit id=>rfl
   |ret=>rfl
def fP (g:bN):ai→ai
 | .seq a b=> .seq (fP g a) b
 | .block id a=> .block id (fP g a)
 |c=> .ghost g c
section
variable {R:Type} {T:Tab} {ow:bP} {k:al→St→Option R}
def ghE (T:Tab) (ow:bP) (c:ai):Option St→Option (al×St)→Option (al×St)
 |some _,r=>r
 |none,_=>none
theorem uj (g:bN): ∀(c:ai) (st:St),dm T ow (fP g c) st=(match aR st g with
 |some st'=>dm T ow c st'
 |none=>none)
 | .seq a b,st=>by
   simp only [fP]
   rw [xr,uj g a st]
   cases aR st g with
   |none=>rfl
   |some st'=>dsimp only;rw [xr]
 | .block id a,st=>by
   simp only [fP]
   rw [sc,uj g a st]
   cases aR st g with
   |none=>rfl
   |some st'=>dsimp only;rw [sc]
 | .skip,st=>e8 _ _ _
 | .region _ _ _,st=>e8 _ _ _
 | .drawn _ _ _ _,st=>e8 _ _ _
 | .cond _ _ _,st=>e8 _ _ _
 | .loop _,st=>e8 _ _ _
 | .exit _,st=>e8 _ _ _
 | .ret,st=>e8 _ _ _
 | .ghost _ _,st=>e8 _ _ _
noncomputable def aX (T:Tab) (ow:bP) (g:bN) (c:ai) (st:St):Option (al×St):=match dm T ow c st with
 |some (.normal,st')=>dm T ow (.loop (fP g c)) st'
 |r=>r
noncomputable def goL (T:Tab) (ow:bP) (k:al→St→Option R) (K:List Fr) (g:bN) (c:ai):Option St→Option R
 |some st'=>goR T ow k K (aX T ow g c st')
 |none=>none
theorem wN (g:bN) (c:ai) (st:St):dm T ow (.loop (fP g c)) st=(match aR st g with
 |some st'=>aX T ow g c st'
 |none=>none):=by
 rw [zB,uj]
 cases aR st g<;>rfl
theorem II (g:bN) (c:ai) (K:List Fr) (st:St):Rn T ow k (.code (.loop (fP g c))::K) st=goL T ow k K g c (aR st g):=by
 rw [bt,wN]
 cases aR st g<;>rfl
theorem MP (K:List Fr) (g:bN) (c:ai) (st':St):goL T ow k K g c (some st')=goR T ow k K (aX T ow g c st'):=rfl
def ogM:Option St→Option (al×St)
 |some st=>some (.normal,st)
 |none=>none
def A1 (g:bN):al→St→Option (al×St)
 | .normal,st=>ogM (aR st g)
 |x,st=>some (x,st)
theorem DM (g:bN) (st:St):A1 g .normal st=ogM (aR st g):=rfl
theorem GW (g:bN) (id:Nat) (st:St):A1 g (.exit id) st=some (.exit id,st):=rfl
theorem KS (g:bN) (st:St):A1 g .ret st=some (.ret,st):=rfl
theorem Jn (st:St):ogM (some st)=some (.normal,st):=rfl
theorem J9 {S E:Type} {g:bN} {c:ai} {step:S→Option (S⊕E)} {eS:S→St} {eE:E→al×St} (hne: ∀e,(eE e).1≠ .normal)
 (hb: ∀s o,step s=some o→Rn T ow (A1 g) [.code c] (eS s)=some (match o with
  | .inl s'=>(.normal,eS s')
  | .inr e=>eE e)) {s:S} {e:E} (h:Loop step s=some e):aX T ow g c (eS s)=some (eE e):=by
 obtain ⟨n,hn⟩:=vA h
 clear h
 induction n generalizing s with
 |zero=>cases hn
 |succ n ih=>
  simp only [sd] at hn
  unfold aX
  split at hn
  ·cases hn
  ·rename_i s' hs
   have h1:=hb s _ hs
   rw [bt] at h1
   cases hx:dm T ow c (eS s) with
   |none=>rw [hx] at h1;cases h1
   |some p=>
    obtain ⟨x,st'⟩:=p
    rw [hx] at h1
    cases x with
    |normal=>
     dsimp only
     rw [wN]
     simp only [goR,Rn,io,A1,ogM] at h1
     cases hg:aR st' g with
     |none=>rw [hg] at h1;cases h1
     |some st2=>rw [hg] at h1;cases h1;exact ih hn
    |exit id=>simp [goR,Unw,io,A1] at h1
    |ret=>simp [goR,A1] at h1
  ·rename_i e' hs
   have h1:=hb s _ hs
   cases hn
   have hn2:=hne e
   rw [bt] at h1
   dsimp only at h1
   revert h1 hn2
   generalize eE e=q
   intro h1 hn2
   cases hx:dm T ow c (eS s) with
   |none=>rw [hx] at h1;cases h1
   |some p=>
    obtain ⟨x,st'⟩:=p
    rw [hx] at h1
    cases x with
    |normal=>
     simp only [goR,Rn,io,A1,ogM] at h1
     cases hg:aR st' g with
     |none=>rw [hg] at h1;cases h1
     |some st2=>rw [hg] at h1;cases h1;exact absurd rfl hn2
    |exit id=>exact h1
    |ret=>exact h1
variable {d:Option Nat} {n:Nat} {ss:List aC} {live:List Nat} {K:List Fr} {st:St} {base i:Nat} {deps:List (List Nat)} {rs:List Rec} {fp:List Nat} {r:R}
theorem AH {x:Option (al×St)} {p:al×St} (h:x=some p) (hr:goR T ow k K (some p)=some r):goR T ow k K x=some r:=by rw [h];exact hr
theorem IL (g:bN) (c:ai):goR T ow k K (aX T ow g c st)=Rn T ow k (.code c:: .code (.loop (fP g c))::K) st:=by
 rw [bt]
 unfold aX
 cases hx:dm T ow c st with
 |none=>rfl
 |some p=>
  obtain ⟨x,st'⟩:=p
  cases x with
  |normal=>dsimp only;simp only [goR];rw [bt];rfl
  |exit id=>rfl
  |ret=>rfl
theorem gB {g:bN} {c:ai} (h:Rn T ow k (.code c:: .code (.loop (fP g c))::K) st=some r):goR T ow k K (aX T ow g c st)=some r:=by rw [IL];exact h
theorem bind_some {α β:Type} {x:Option α} {a:α} {F:α→Option β} {r:β} (h:x=some a) (hr:F a=some r):x.bind F=some r:=by rw [h];exact hr
end
end Go.AI
set_option linter.unusedVariables false
set_option linter.unusedSimpArgs false
namespace Go.AI
abbrev I (n:Int):V:= .lit (.int .i64 n)
abbrev B (b:Bool):V:= .lit (.bool b)
abbrev S (s:List UInt8):V:= .lit (.string ⟨⟨s⟩⟩)
structure En (α:Type) where
 esz:Nat
 enc:α→List V
def rws {α:Type} (e:En α) (l:List α):List (List V):=l.map e.enc
def sl {α:Type} (e:En α) (l:List α):V:=(V.imm e.esz (rws e l)).cz
theorem SB {α:Type} (e:En α):sl e []= .imm 1 []:=rfl
theorem W0 {α:Type} (e:En α) (x:α) (l:List α):sl e (x::l)= .imm e.esz (rws e (x::l)):=rfl
def eI:En Int:=⟨1,fun n=>[I n]⟩
def eU8:En UInt8:=⟨1,fun b=>[.lit (.int .u8 b.toNat)]⟩
def D5:En Int:=⟨1,fun n=>[.lit (.int .u64 n)]⟩
def eB:En Bool:=⟨1,fun b=>[B b]⟩
def eS:En (List UInt8):=⟨1,fun s=>[S s]⟩
def eL {α:Type} (e:En α):En (List α):=⟨1,fun l=>[sl e l]⟩
theorem Sb:eI.esz=1:=by decide
theorem TC (n:Int):eI.enc n=[I n]:=rfl
theorem PI:eU8.esz=1:=by decide
theorem PV (n:UInt8):eU8.enc n=[.lit (.int .u8 n.toNat)]:=rfl
theorem L6:D5.esz=1:=by decide
theorem L1 (n:Int):D5.enc n=[.lit (.int .u64 n)]:=rfl
theorem SR:eB.esz=1:=by decide
theorem Rq (n:Bool):eB.enc n=[B n]:=rfl
theorem RA:eS.esz=1:=by decide
theorem RE (n:List UInt8):eS.enc n=[S n]:=rfl
theorem Tk {α:Type} (e:En α):(eL e).esz=1:=of_decide_eq_true rfl
theorem Se {α:Type} (e:En α) (l:List α):(eL e).enc l=[sl e l]:=rfl
def atL {α:Type} (l:List α) (i:Int):Option α:=if 0≤i then l[i.toNat]? else none
def ox {α:Type} (l:List α) (a b:Int):Option (List α):=if 0≤a∧a≤b∧b≤l.length then some ((l.take b.toNat).drop a.toNat) else none
def inb (i:Int) (n:Nat):Bool:=decide (0≤i)&&decide (i.toNat<n)
def dC (n bytes:Nat):Bool:=decide (n*bytes≤aM)
def vt (l c:Int) (bytes:Nat):Bool:=decide (0≤l)&&decide (l≤c)&&decide (c*bytes≤aM)
def mx (a b:Int):Int:=if b>a then b else a
def mn (a b:Int):Int:=if b<a then b else a
def Gb (r:List (List V)):Nat:=r.length
def app (r q:List (List V)):List (List V):=r++q
def mkR (n:Nat) (r:List (List V)):List (List V):=r
def bA (row:List V) (r:List (List V)):List (List V):=row::r
def yx (n k:Nat) (row:List V):List (List V):=List.replicate k row
def dS (r:List (List V)) (i:Nat) (row:List V):List (List V):=r.set i row
section
variable {α:Type} {e:En α} {l l2:List α}
theorem Hb:Gb (rws e l)=l.length:=by simp [Gb,rws]
theorem Pc:app (rws e l) (rws e l2)=rws e (l++l2):=by simp [app,rws]
theorem mk0 (e:En α) (n:Nat):mkR n []=rws e []:=rfl
theorem Kk (n:Nat) (row:List V) (r:List (List V)):mkR n (row::r)=bA row (mkR n r):=rfl
theorem VI (a:Int) (l:List Int):bA [I a] (rws eI l)=rws eI (a::l):=rfl
theorem UX (a:List UInt8) (l:List (List UInt8)):bA [S a] (rws eS l)=rws eS (a::l):=rfl
theorem US (a:List α) (l:List (List α)):bA [sl e a] (rws (eL e) l)=rws (eL e) (a::l):=rfl
theorem Tg (l:List (List α)):bA [.imm 1 []] (rws (eL e) l)=rws (eL e) ([]::l):=rfl
theorem Vc (b:Bool) (l:List Bool):bA [B b] (rws eB l)=rws eB (b::l):=rfl
theorem Q8 (a:Int) (l:List Int):bA [.lit (.int .u64 a)] (rws D5 l)=rws D5 (a::l):=rfl
theorem EP (b:UInt8) (l:List UInt8):bA [.lit (.int .u8 b.toNat)] (rws eU8 l)=rws eU8 (b::l):=rfl
theorem iR (x:Int):((UInt8.ofInt x).toNat:Int)=IntKind.u8.wrap x:=by
 simp [UInt8.ofInt,IntKind.wrap,IntKind.bits,IntKind.signed]
 omega
theorem tm (x:Int) (l:List UInt8):bA [.lit (.int .u8 (IntKind.u8.wrap x))] (rws eU8 l)=rws eU8 (UInt8.ofInt x::l):=by
 rw [←iR];rfl
theorem VY (n:Nat) (h:n<256) (l:List UInt8):bA [.lit (.int .u8 (n:Int))] (rws eU8 l)=rws eU8 (UInt8.ofNat n::l):=by
 have:(UInt8.ofNat n).toNat=n:=by simp;omega
 rw [←EP,this]
theorem OX (n:Nat) (h:Nat.ble n 255=true) (l:List UInt8):bA [.lit (.int .u8 (no_index (OfNat.ofNat n:Int)))] (rws eU8 l)=rws eU8 ((OfNat.ofNat n:UInt8)::l):=by
 have h':=Nat.le_of_ble_eq_true h
 have:((OfNat.ofNat n:UInt8).toNat:Int)=(OfNat.ofNat n:Int):=by
  show ((UInt8.ofNat n).toNat:Int)=(n:Int)
  simp;omega
 rw [←EP,this]
theorem Wj (l:List Int) (i:Nat) (a:Int):dS (rws eI l) i [I a]=rws eI (l.set i a):=by simp [dS,rws,eI]
theorem Sj (l:List Int) (i:Nat) (a:Int):dS (rws D5 l) i [.lit (.int .u64 a)]=rws D5 (l.set i a):=by simp [dS,rws,D5]
theorem setB (l:List Bool) (i:Nat) (a:Bool):dS (rws eB l) i [B a]=rws eB (l.set i a):=by simp [dS,rws,eB]
theorem Sa (l:List (List UInt8)) (i:Nat) (a:List UInt8):dS (rws eS l) i [S a]=rws eS (l.set i a):=by simp [dS,rws,eS]
theorem W6 (l:List (List α)) (i:Nat) (a:List α):dS (rws (eL e) l) i [sl e a]=rws (eL e) (l.set i a):=by simp [dS,rws,eL]
theorem QT (l:List UInt8) (i:Nat) (a:UInt8):dS (rws eU8 l) i [.lit (.int .u8 a.toNat)]=rws eU8 (l.set i a):=by simp [dS,rws,eU8]
theorem xI (l:List UInt8) (i:Nat) (x:Int):dS (rws eU8 l) i [.lit (.int .u8 (IntKind.u8.wrap x))]=rws eU8 (l.set i (UInt8.ofInt x)):=by
 rw [←iR,QT]
theorem T9 (e:En α) (x:α) (n k:Nat):yx n k (e.enc x)=rws e (List.replicate k x):=by simp [yx,rws]
theorem SQ (m:Nat) (h:e.esz=m):V.cz (.imm m (rws e l))=sl e l:=by subst h;rfl
theorem VE (r:List (List V)):r.drop 0=r:=rfl
theorem Vs (k:Nat):(rws e l).drop k=rws e (l.drop k):=by simp [rws]
theorem dQ (e:En α) (l:List α):(l=[]∧sl e l= .imm 1 [])∨(l≠[]∧sl e l= .imm e.esz (rws e l)):=by
 cases l with
 |nil=>exact .inl ⟨rfl,rfl⟩
 |cons x l=>exact .inr ⟨by simp,rfl⟩
theorem Vx:(sl e l).cz=sl e l:=by
 cases l with
 |nil=>rfl
 |cons x l=>rfl
theorem So:(sl e l).czA=sl e l:=by
 cases l with
 |nil=>rfl
 |cons x l=>rfl
theorem TG:(sl e l).czR=sl e l:=by
 cases l with
 |nil=>rfl
 |cons x l=>rfl
theorem Qp:(sl e l).cell=true:=by
 rcases dQ e l with ⟨_,h⟩|⟨_,h⟩<;>rw [h]<;>rfl
theorem Va:(sl e l).cl=true:=by
 rcases dQ e l with ⟨_,h⟩|⟨_,h⟩<;>rw [h]<;>rfl
theorem JR:(sl e l).cells=[sl e l]:=by
 rcases dQ e l with ⟨_,h⟩|⟨_,h⟩<;>rw [h]<;>rfl
theorem PM:cn (sl e l)=[]:=by
 rcases dQ e l with ⟨_,h⟩|⟨_,h⟩<;>rw [h]<;>rfl
theorem NZ:jm (sl e l)=[]:=by
 rcases dQ e l with ⟨_,h⟩|⟨_,h⟩<;>rw [h]<;>rfl
theorem Gv {h:ag}:g9 h (sl e l)=some (sl e l,[]):=by
 rcases dQ e l with ⟨_,h⟩|⟨_,h⟩<;>rw [h]<;>rfl
theorem E4 {h:ag} {own:Bool} {ids:List Nat}:be h own ids (sl e l)=some (sl e l,ids,[]):=by
 rcases dQ e l with ⟨_,h⟩|⟨_,h⟩<;>rw [h]<;>rfl
theorem HN {h:ag} {own:Bool} {ids:List Nat}:bI h own ids (sl e l)=some (sl e l,ids,[]):=by
 rcases dQ e l with ⟨_,h⟩|⟨_,h⟩<;>rw [h]<;>rfl
theorem Tc {ids:List Nat}:unV ids (sl e l)=sl e l:=by
 rcases dQ e l with ⟨_,h⟩|⟨_,h⟩<;>rw [h]<;>rfl
theorem L5 {ids:List Nat}:fQ ids (sl e l)=sl e l:=by
 rcases dQ e l with ⟨_,h⟩|⟨_,h⟩<;>rw [h]<;>rfl
theorem JO {ids:List Nat}:oi ids (sl e l)=sl e l:=by
 rcases dQ e l with ⟨_,h⟩|⟨_,h⟩<;>rw [h]<;>rfl
theorem Jx:hK (sl e l)=false:=by
 rcases dQ e l with ⟨_,h⟩|⟨_,h⟩<;>rw [h]<;>rfl
theorem Lh:oQ (sl e l)=false:=by
 rcases dQ e l with ⟨_,h⟩|⟨_,h⟩<;>rw [h]<;>rfl
theorem LD:ja (sl e l)=false:=by
 rcases dQ e l with ⟨_,h⟩|⟨_,h⟩<;>rw [h]<;>rfl
theorem Sm {h:ag} {bs:List Nat}:fzC h bs (sl e l)=sl e l:=by
 rcases dQ e l with ⟨_,h⟩|⟨_,h⟩<;>rw [h]<;>rfl
theorem U2 {h:ag} {bs:List Nat}:fzA h bs (sl e l)=sl e l:=by
 rcases dQ e l with ⟨_,h⟩|⟨_,h⟩<;>rw [h]<;>rfl
theorem NB {h:ag} {m:Nat} {kp:List Nat}:ik h m kp (sl e l)=some (sl e l):=by
 rcases dQ e l with ⟨_,h⟩|⟨_,h⟩<;>rw [h]<;>rfl
theorem PF {h:ag} {m:Nat} {kp:List Nat}:s5 h m kp (sl e l)=some (sl e l):=by
 rcases dQ e l with ⟨_,h⟩|⟨_,h⟩<;>rw [h]<;>rfl
theorem QJ {h:ag} {m:Nat} {kp:List Nat}:rZ h m kp (sl e l)=some (sl e l):=by
 rcases dQ e l with ⟨_,h⟩|⟨_,h⟩<;>rw [h]<;>rfl
theorem RC:okC (sl e l)=true:=by
 rcases dQ e l with ⟨_,h⟩|⟨_,h⟩<;>rw [h]<;>rfl
theorem zi {h:ag} (m:Nat) (hm:e.esz=m):bg h m (sl e l)=some (rws e l):=by
 subst hm
 rcases dQ e l with ⟨rfl,h⟩|⟨hl,h⟩
 ·rw [h];simp [bg,rws]
 ·rw [h];simp [bg]
theorem C0:GE (sl e l)=false:=by
 rcases dQ e l with ⟨_,h⟩|⟨_,h⟩<;>rw [h]<;>rfl
end
end Go.AI
