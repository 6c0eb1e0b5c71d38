/- The limit of the abstract machine's runs: more rounds tell the same; the equations of the limit. -/
import Derived.Test.YtdmhkkcihecndaaGreatAiDefs
namespace Go.AI
theorem KX {C C':aZ} (hC: ∀f a b r,C f a b=some r→C' f a b=some r) {ow:dI} {h:al} {new:Nat} {f:FuncId} {args:List V} {r:V×Upd}
 (hr:ku C ow h new f args=some r):ku C' ow h new f args=some r:=by
 unfold ku at hr ⊢
 cases hp:cX ow h f args with
 |none=>rw [hp] at hr;cases hr
 |some p=>
  obtain ⟨args',blks,ids,bor⟩:=p
  rw [hp] at hr
  dsimp only at hr ⊢
  cases hc:C f (pG (ow f) args') (qa (ow f) blks) with
  |none=>rw [hc] at hr;cases hr
  |some q=>rw [hC _ _ _ _ hc];rw [hc] at hr;exact hr
theorem Qu {C C':aZ} (hC: ∀f a b r,C f a b=some r→C' f a b=some r) {ow:dI} {o:AOp} {ev:Opd→V} {h:al} {new:Nat} {r:V×Upd}
 (hr:ah C ow o ev h new=some r):ah C' ow o ev h new=some r:=by
 cases o
 case call f args=>simp only [ah] at hr ⊢;exact KX hC hr
 case dyn f args=>
  simp only [ah] at hr ⊢
  split at hr
  ·exact KX hC hr
  ·cases hr
 all_goals exact hr
theorem SQ {C:Nat→aZ} {D:aZ} (hD: ∀f a b r,D f a b=some r→ ∃n,C n f a b=some r) (n0:Nat) {ow:dI} {o:AOp} {ev:Opd→V} {h:al} {new:Nat} {r:V×Upd}
 (hr:ah D ow o ev h new=some r): ∃n,ah (C n) ow o ev h new=some r:=by
 have key: ∀f args,ku D ow h new f args=some r→ ∃n,ku (C n) ow h new f args=some r:=by
  intro f args hr
  unfold ku at hr
  cases hp:cX ow h f args with
  |none=>rw [hp] at hr;cases hr
  |some p=>
   obtain ⟨args',blks,ids,bor⟩:=p
   rw [hp] at hr
   dsimp only at hr
   cases hc:D f (pG (ow f) args') (qa (ow f) blks) with
   |none=>rw [hc] at hr;cases hr
   |some q=>
    rw [hc] at hr
    obtain ⟨n,hn⟩:=hD _ _ _ _ hc
    refine ⟨n, ?_⟩
    unfold ku
    rw [hp]
    dsimp only
    rw [hn]
    exact hr
 cases o
 case call f args=>simp only [ah] at hr ⊢;exact key _ _ hr
 case dyn f args=>
  simp only [ah] at hr ⊢
  split at hr
  ·exact key _ _ hr
  ·cases hr
 all_goals exact ⟨n0,hr⟩
theorem Pi {C C':aZ} (hC: ∀f a b r,C f a b=some r→C' f a b=some r) {ow:dI} {st:St} {s:aV} {n:Nat} {r:St}
 (hr:y0 C ow st s n=some r):y0 C' ow st s n=some r:=by
 unfold y0 at hr ⊢
 split at hr
 ·cases hr
 ·exact hr
 ·split at hr
  ·rename_i v u ho;rw [Qu hC ho];exact hr
  ·cases hr
theorem qZ {C C':aZ} (hC: ∀f a b r,C f a b=some r→C' f a b=some r) {ow:dI}: ∀{l:List aV} {n:Nat} {st:St} {r:St},
 jn C ow l n st=some r→jn C' ow l n st=some r
 |[],_,_,_,hr=>hr
 |s::l,n,st,r,hr=>by
  simp only [jn] at hr ⊢
  split at hr
  ·rename_i st' h;rw [Pi hC h];exact qZ hC hr
  ·cases hr
theorem PN {C C':aZ} (hC: ∀f a b r,C f a b=some r→C' f a b=some r) {ow:dI} {st:St} {s:aV} {i n:Nat} {r:St×Rec}
 (hr:ua C ow st s i n=some r):ua C' ow st s i n=some r:=by
 unfold ua at hr ⊢
 split at hr
 ·cases hr
 ·exact hr
 ·split at hr
  ·rename_i v u ho;rw [Qu hC ho];exact hr
  ·cases hr
theorem rN {C C':aZ} (hC: ∀f a b r,C f a b=some r→C' f a b=some r) {ow:dI} {base:Nat}: ∀{l:List aV} {n:Nat} {st:St} {r:St×List Rec},
 gr C ow base l n st=some r→gr C' ow base l n st=some r
 |[],_,_,_,hr=>hr
 |s::l,n,st,r,hr=>by
  simp only [gr] at hr ⊢
  split at hr
  ·rename_i st' rc h
   rw [PN hC h]
   dsimp only
   split at hr
   ·rename_i st2 rs h2;rw [rN hC h2];exact hr
   ·cases hr
  ·cases hr
theorem ce {C C':aZ} (hC: ∀f a b r,C f a b=some r→C' f a b=some r) {ow:dI}: ∀(n m:Nat),n≤m→ ∀{c:ai} {st:St} {r:ag×St},
 bI C ow n c st=some r→bI C' ow m c st=some r
 |0,_,_,_,_,_,hr=>by simp [bI] at hr
 |n+1,0,h,_,_,_,_=>absurd h (by omega)
 |n+1,m+1,h,c,st,r,hr=>by
  have ih:=fun {c st r}=>ce hC (ow:=ow) n m (by omega) (c:=c) (st:=st) (r:=r)
  cases c with
  |skip=>exact hr
  |region base steps live=>
   simp only [bI,pD] at hr ⊢
   split at hr
   ·rename_i st' h;rw [qZ hC h];exact hr
   ·cases hr
  |drawn base steps deps live=>
   simp only [bI,wz] at hr ⊢
   split at hr
   ·rename_i st' rs h;rw [rN hC h];exact hr
   ·cases hr
  |seq a b=>
   simp only [bI] at hr ⊢
   cases ha:bI C ow n a st with
   |none=>rw [ha] at hr;cases hr
   |some p=>
    obtain ⟨e,st'⟩:=p
    rw [ih ha]
    rw [ha] at hr
    cases e with
    |normal=>exact ih hr
    |exit id=>exact hr
    |ret=>exact hr
  |cond c a b=>
   simp only [bI] at hr ⊢
   split at hr
   ·exact ih hr
   ·exact ih hr
   ·cases hr
  |block id c=>
   simp only [bI] at hr ⊢
   cases ha:bI C ow n c st with
   |none=>rw [ha] at hr;cases hr
   |some p=>rw [ih ha];rw [ha] at hr;exact hr
  |loop c=>
   simp only [bI] at hr ⊢
   cases ha:bI C ow n c st with
   |none=>rw [ha] at hr;cases hr
   |some p=>
    obtain ⟨e,st'⟩:=p
    rw [ih ha]
    rw [ha] at hr
    cases e with
    |normal=>exact ih hr
    |exit id=>exact hr
    |ret=>exact hr
  |exit id=>exact hr
  |ret=>exact hr
  |ghost g c=>
   simp only [bI] at hr ⊢
   split at hr
   ·exact ih hr
   ·cases hr
theorem Q7 (T:Tab) (ow:dI): ∀(n:Nat) f a b r,cW T ow n f a b=some r→cW T ow (n+1) f a b=some r
 |0,_,_,_,_,h=>by simp [cW] at h
 |n+1,f,a,b,r,h=>by
  simp only [cW] at h ⊢
  split at h
  ·cases h
  rotate_left
  ·exact h
  ·rename_i af haf
   cases he:bI (cW T ow n) ow n af.body (start a b) with
   |none=>rw [he] at h;simp [lJ,Zw] at h
   |some p=>
    have:=ce (Q7 T ow n) (ow:=ow) n (n+1) (by omega) he
    simp only [cW] at this
    rw [this]
    rw [he] at h
    exact h
theorem bZ (T:Tab) (ow:dI) {n m:Nat} (h:n≤m): ∀f a b r,cW T ow n f a b=some r→cW T ow m f a b=some r:=by
 induction h with
 |refl=>exact fun _ _ _ _ h=>h
 |step _ ih=>exact fun f a b r h=>Q7 T ow _ f a b r (ih f a b r h)
open Classical in
noncomputable def lim {α:Type} (g:Nat→Option α):Option α:=if h: ∃n r,g n=some r then g h.choose else none
theorem a1k {α:Type} {g:Nat→Option α} (hm: ∀n m r,n≤m→g n=some r→g m=some r) {n:Nat} {r:α} (h:g n=some r):lim g=some r:=by
 have hx: ∃n r,g n=some r:=⟨n,r,h⟩
 unfold lim
 rw [dif_pos hx]
 obtain ⟨r',hr'⟩:=hx.choose_spec
 have h1:=hm _ (max n hx.choose) _ (Nat.le_max_left _ _) h
 have h2:=hm _ (max n hx.choose) _ (Nat.le_max_right _ _) hr'
 rw [h1] at h2
 rw [hr', ←h2]
theorem a0M {α:Type} {g:Nat→Option α} {r:α} (h:lim g=some r): ∃n,g n=some r:=by
 unfold lim at h
 split at h
 ·exact ⟨_,h⟩
 ·cases h
noncomputable def Call (T:Tab) (ow:dI):aZ:=fun f a b=>lim fun n=>cW T ow n f a b
noncomputable def hZ (T:Tab) (ow:dI) (c:ai) (st:St):Option (ag×St):=lim fun n=>bI (cW T ow n) ow n c st
section
variable {T:Tab} {ow:dI}
theorem b5f {n m:Nat} (h:n≤m) {c:ai} {st:St} {r:ag×St} (hr:bI (cW T ow n) ow n c st=some r):bI (cW T ow m) ow m c st=some r:=
 ce (bZ T ow h) n m h hr
theorem dF {n:Nat} {c:ai} {st:St} {r:ag×St} (h:bI (cW T ow n) ow n c st=some r):hZ T ow c st=some r:=
 a1k (g:=fun n=>bI (cW T ow n) ow n c st) (fun _ _ _ hnm h=>b5f hnm h) h
theorem iw {c:ai} {st:St} {r:ag×St} (h:hZ T ow c st=some r): ∃n,bI (cW T ow n) ow n c st=some r:=a0M h
theorem VV {n:Nat} {f:FuncId} {a:List V} {b:List Blk} {r:V×List Blk} (h:cW T ow n f a b=some r):Call T ow f a b=some r:=
 a1k (g:=fun n=>cW T ow n f a b) (fun _ _ _ hnm h=>bZ T ow hnm _ _ _ _ h) h
theorem MV {f:FuncId} {a:List V} {b:List Blk} {r:V×List Blk} (h:Call T ow f a b=some r): ∃n,cW T ow n f a b=some r:=a0M h
theorem sO {α:Type} {a b:Option α} (h1: ∀r,a=some r→b=some r) (h2: ∀r,b=some r→a=some r):a=b:=by
 cases a with
 |none=>cases b with
  |none=>rfl
  |some r=>exact absurd (h2 r rfl) (by simp)
 |some r=>exact (h1 r rfl).symm
theorem Q2: ∀{l:List aV} {n:Nat} {st:St} {r:St},jn (Call T ow) ow l n st=some r→ ∃k,jn (cW T ow k) ow l n st=some r
 |[],_,_,_,h=>⟨0,h⟩
 |s::l,n,st,r,h=>by
  simp only [jn] at h
  cases h1:y0 (Call T ow) ow st s n with
  |none=>rw [h1] at h;cases h
  |some st'=>
   rw [h1] at h
   obtain ⟨k2,hk2⟩:=Q2 h
   have: ∃k,y0 (cW T ow k) ow st s n=some st':=by
    unfold y0 at h1 ⊢
    split at h1
    ·cases h1
    ·exact ⟨0,h1⟩
    ·split at h1
     ·rename_i v u ho
      obtain ⟨k,hk⟩:=SQ (C:=cW T ow) (D:=Call T ow) (fun _ _ _ _ h=>MV h) 0 ho
      exact ⟨k,by rw [hk];exact h1⟩
     ·cases h1
   obtain ⟨k1,hk1⟩:=this
   refine ⟨max k1 k2, ?_⟩
   simp only [jn]
   rw [Pi (bZ T ow (Nat.le_max_left k1 k2)) hk1]
   exact qZ (bZ T ow (Nat.le_max_right k1 k2)) hk2
theorem Qb {base:Nat}: ∀{l:List aV} {n:Nat} {st:St} {r:St×List Rec},gr (Call T ow) ow base l n st=some r→ ∃k,gr (cW T ow k) ow base l n st=some r
 |[],_,_,_,h=>⟨0,h⟩
 |s::l,n,st,r,h=>by
  simp only [gr] at h
  cases h1:ua (Call T ow) ow st s n (base+n) with
  |none=>rw [h1] at h;cases h
  |some p=>
   obtain ⟨st',rc⟩:=p
   rw [h1] at h
   dsimp only at h
   cases h2:gr (Call T ow) ow base l (n+1) st' with
   |none=>rw [h2] at h;cases h
   |some q=>
    obtain ⟨st2,rs⟩:=q
    rw [h2] at h
    obtain ⟨k2,hk2⟩:=Qb h2
    have: ∃k,ua (cW T ow k) ow st s n (base+n)=some (st',rc):=by
     unfold ua at h1 ⊢
     split at h1
     ·cases h1
     ·exact ⟨0,h1⟩
     ·split at h1
      ·rename_i v u ho
       obtain ⟨k,hk⟩:=SQ (C:=cW T ow) (D:=Call T ow) (fun _ _ _ _ h=>MV h) 0 ho
       exact ⟨k,by rw [hk];exact h1⟩
      ·cases h1
    obtain ⟨k1,hk1⟩:=this
    refine ⟨max k1 k2, ?_⟩
    simp only [gr]
    rw [PN (bZ T ow (Nat.le_max_left k1 k2)) hk1]
    dsimp only
    rw [rN (bZ T ow (Nat.le_max_right k1 k2)) hk2]
    exact h
theorem ON (k:Nat): ∀f a b r,cW T ow k f a b=some r→Call T ow f a b=some r:=fun _ _ _ _ h=>VV h
theorem a4S (st:St):hZ T ow .skip st=some (.normal,st):=dF (n:=1) rfl
theorem a4u (id:Nat) (st:St):hZ T ow (.exit id) st=some (.exit id,st):=dF (n:=1) rfl
theorem a8E (st:St):hZ T ow .ret st=some (.ret,st):=dF (n:=1) rfl
theorem Yt (base:Nat) (steps:List aV) (live:List Nat) (st:St):hZ T ow (.region base steps live) st=pD (Call T ow) ow base steps live st:=by
 refine sO (fun r h=> ?_) (fun r h=> ?_)
 ·obtain ⟨n,hn⟩:=iw h
  cases n with
  |zero=>simp [bI] at hn
  |succ n=>
   simp only [bI,pD] at hn ⊢
   split at hn
   ·rename_i st' h';rw [qZ (ON (n+1)) h'];exact hn
   ·cases hn
 ·unfold pD at h
  split at h
  ·rename_i st' h'
   obtain ⟨k,hk⟩:=Q2 h'
   refine dF (n:=k+1) ?_
   simp only [bI,pD]
   rw [qZ (bZ T ow (Nat.le_succ k)) hk]
   exact h
  ·cases h
theorem a0C (base:Nat) (steps:List aV) (deps:List (List Nat)) (live:List Nat) (st:St):
 hZ T ow (.drawn base steps deps live) st=wz (Call T ow) ow base steps deps live st:=by
 refine sO (fun r h=> ?_) (fun r h=> ?_)
 ·obtain ⟨n,hn⟩:=iw h
  cases n with
  |zero=>simp [bI] at hn
  |succ n=>
   simp only [bI,wz] at hn ⊢
   split at hn
   ·rename_i st' rs h';rw [rN (ON (n+1)) h'];exact hn
   ·cases hn
 ·unfold wz at h
  split at h
  ·rename_i st' rs h'
   obtain ⟨k,hk⟩:=Qb h'
   refine dF (n:=k+1) ?_
   simp only [bI,wz]
   rw [rN (bZ T ow (Nat.le_succ k)) hk]
   exact h
  ·cases h
theorem Nz (a b:ai) (st:St):hZ T ow (.seq a b) st=(match hZ T ow a st with
 |some (.normal,st')=>hZ T ow b st'
 |r=>r):=by
 refine sO (fun r h=> ?_) (fun r h=> ?_)
 ·obtain ⟨n,hn⟩:=iw h
  cases n with
  |zero=>simp [bI] at hn
  |succ n=>
   simp only [bI] at hn
   cases ha:bI (cW T ow (n+1)) ow n a st with
   |none=>rw [ha] at hn;cases hn
   |some p=>
    obtain ⟨e,st'⟩:=p
    rw [dF (ce (fun _ _ _ _ h=>h) n (n+1) (by omega) ha)]
    rw [ha] at hn
    cases e with
    |normal=>exact dF (ce (fun _ _ _ _ h=>h) n (n+1) (by omega) hn)
    |exit id=>exact hn
    |ret=>exact hn
 ·cases ha:hZ T ow a st with
  |none=>rw [ha] at h;cases h
  |some p=>
   obtain ⟨e,st'⟩:=p
   rw [ha] at h
   obtain ⟨n,hn⟩:=iw ha
   cases e with
   |normal=>
    obtain ⟨m,hm⟩:=iw (show hZ T ow b st'=some r from h)
    refine dF (n:=max n m+1) ?_
    simp only [bI]
    rw [ce (bZ T ow (by omega)) n (max n m) (by omega) hn]
    exact ce (bZ T ow (by omega)) m (max n m) (by omega) hm
   |exit id=>
    refine dF (n:=n+1) ?_
    simp only [bI]
    rw [ce (bZ T ow (by omega)) n n (by omega) hn]
    exact h
   |ret=>
    refine dF (n:=n+1) ?_
    simp only [bI]
    rw [ce (bZ T ow (by omega)) n n (by omega) hn]
    exact h
theorem a5S (c:Opd) (a b:ai) (st:St):hZ T ow (.cond c a b) st=(match st.ev c with
 | .lit (.bool true)=>hZ T ow a st
 | .lit (.bool false)=>hZ T ow b st
 |_=>none):=by
 refine sO (fun r h=> ?_) (fun r h=> ?_)
 ·obtain ⟨n,hn⟩:=iw h
  cases n with
  |zero=>simp [bI] at hn
  |succ n=>
   simp only [bI] at hn
   split at hn
   ·rename_i hc;simp only [hc];exact dF (ce (fun _ _ _ _ h=>h) n (n+1) (by omega) hn)
   ·rename_i hc;simp only [hc];exact dF (ce (fun _ _ _ _ h=>h) n (n+1) (by omega) hn)
   ·cases hn
 ·split at h
  ·rename_i hc
   obtain ⟨n,hn⟩:=iw h
   refine dF (n:=n+1) ?_
   simp only [bI,hc]
   exact ce (bZ T ow (by omega)) n n (by omega) hn
  ·rename_i hc
   obtain ⟨n,hn⟩:=iw h
   refine dF (n:=n+1) ?_
   simp only [bI,hc]
   exact ce (bZ T ow (by omega)) n n (by omega) hn
  ·cases h
theorem GL (id:Nat) (c:ai) (st:St):hZ T ow (.block id c) st=(match hZ T ow c st with
 |some (.exit id',st')=>if id'=id then some (.normal,st') else some (.exit id',st')
 |r=>r):=by
 refine sO (fun r h=> ?_) (fun r h=> ?_)
 ·obtain ⟨n,hn⟩:=iw h
  cases n with
  |zero=>simp [bI] at hn
  |succ n=>
   simp only [bI] at hn
   cases ha:bI (cW T ow (n+1)) ow n c st with
   |none=>rw [ha] at hn;cases hn
   |some p=>
    rw [dF (ce (fun _ _ _ _ h=>h) n (n+1) (by omega) ha)]
    rw [ha] at hn
    exact hn
 ·cases ha:hZ T ow c st with
  |none=>rw [ha] at h;cases h
  |some p=>
   obtain ⟨n,hn⟩:=iw ha
   refine dF (n:=n+1) ?_
   simp only [bI]
   rw [ce (bZ T ow (by omega)) n n (by omega) hn]
   rw [ha] at h
   exact h
theorem TV (c:ai) (st:St):hZ T ow (.loop c) st=(match hZ T ow c st with
 |some (.normal,st')=>hZ T ow (.loop c) st'
 |r=>r):=by
 refine sO (fun r h=> ?_) (fun r h=> ?_)
 ·obtain ⟨n,hn⟩:=iw h
  cases n with
  |zero=>simp [bI] at hn
  |succ n=>
   simp only [bI] at hn
   cases ha:bI (cW T ow (n+1)) ow n c st with
   |none=>rw [ha] at hn;cases hn
   |some p=>
    obtain ⟨e,st'⟩:=p
    rw [dF (ce (fun _ _ _ _ h=>h) n (n+1) (by omega) ha)]
    rw [ha] at hn
    cases e with
    |normal=>exact dF (ce (fun _ _ _ _ h=>h) n (n+1) (by omega) hn)
    |exit id=>exact hn
    |ret=>exact hn
 ·cases ha:hZ T ow c st with
  |none=>rw [ha] at h;cases h
  |some p=>
   obtain ⟨e,st'⟩:=p
   rw [ha] at h
   obtain ⟨n,hn⟩:=iw ha
   cases e with
   |normal=>
    obtain ⟨m,hm⟩:=iw (show hZ T ow (.loop c) st'=some r from h)
    refine dF (n:=max n m+1) ?_
    simp only [bI]
    rw [ce (bZ T ow (by omega)) n (max n m) (by omega) hn]
    exact ce (bZ T ow (by omega)) m (max n m) (by omega) hm
   |exit id=>
    refine dF (n:=n+1) ?_
    simp only [bI]
    rw [ce (bZ T ow (by omega)) n n (by omega) hn]
    exact h
   |ret=>
    refine dF (n:=n+1) ?_
    simp only [bI]
    rw [ce (bZ T ow (by omega)) n n (by omega) hn]
    exact h
theorem jd (g:dB) (c:ai) (st:St):hZ T ow (.ghost g c) st=(match bK st g with
 |some st'=>hZ T ow c st'
 |none=>none):=by
 refine sO (fun r h=> ?_) (fun r h=> ?_)
 ·obtain ⟨n,hn⟩:=iw h
  cases n with
  |zero=>simp [bI] at hn
  |succ n=>
   simp only [bI] at hn
   split at hn
   ·rename_i st' hg;simp only [hg];exact dF (ce (fun _ _ _ _ h=>h) n (n+1) (by omega) hn)
   ·cases hn
 ·split at h
  ·rename_i st' hg
   obtain ⟨n,hn⟩:=iw h
   refine dF (n:=n+1) ?_
   simp only [bI,hg]
   exact ce (bZ T ow (by omega)) n n (by omega) hn
  ·cases h
theorem a3j (f:FuncId) (a:List V) (b:List Blk):Call T ow f a b=(match T f with
 |none=>none
 |some (.code af)=>Zw af (lJ af b.length (hZ T ow af.body (start a b)))
 |some (.ext g)=>g a b):=by
 refine sO (fun r h=> ?_) (fun r h=> ?_)
 ·obtain ⟨n,hn⟩:=MV h
  cases n with
  |zero=>simp [cW] at hn
  |succ n=>
   simp only [cW] at hn
   split at hn
   ·cases hn
   rotate_left
   ·rename_i g hg;simp only [hg];exact hn
   ·rename_i af haf
    cases he:bI (cW T ow n) ow n af.body (start a b) with
    |none=>rw [he] at hn;simp [lJ,Zw] at hn
    |some p=>simp only [haf];rw [dF he];rw [he] at hn;exact hn
 ·split at h
  ·cases h
  rotate_left
  ·rename_i g hg
   refine VV (n:=1) ?_
   simp only [cW,hg]
   exact h
  ·rename_i af haf
   cases he:hZ T ow af.body (start a b) with
   |none=>rw [he] at h;simp [lJ,Zw] at h
   |some p=>
    obtain ⟨n,hn⟩:=iw he
    refine VV (n:=n+1) ?_
    simp only [cW,haf]
    rw [hn]
    rw [he] at h
    exact h
end
end Go.AI
set_option linter.unusedVariables false
set_option linter.unusedSimpArgs false
namespace Go.AI
def br {α:Type} (c:Bool) (x y:α):α:=match c with
 |true=>x
 |false=>y
theorem bF {α:Type} (x y:α):br true x y=x:=rfl
theorem aw {α:Type} (x y:α):br false x y=y:=rfl
theorem GV {α:Type} {c:Bool} {x y r:α} (h:c=true) (hx:x=r):br c x y=r:=by subst h;exact hx
theorem a5t {α:Type} {c:Bool} {x y r:α} (h:c=false) (hy:y=r):br c x y=r:=by subst h;exact hy
theorem brc {α:Type} {c:Bool} {x y r:α} (h:br c x y=r):(c=true∧x=r)∨(c=false∧y=r):=by
 cases c
 ·exact .inr ⟨rfl,h⟩
 ·exact .inl ⟨rfl,h⟩
theorem brg {α:Type} {c:Bool} {x:Option α} {r:α} (h:br c x none=some r):c=true∧x=some r:=by
 cases c
 ·cases h
 ·exact ⟨rfl,h⟩
theorem bd {α β:Type} {x:Option α} {g:α→Option β} {r:β} (h:x.bind g=some r): ∃a,x=some a∧g a=some r:=by
 cases x with
 |none=>cases h
 |some a=>exact ⟨a,rfl,h⟩
inductive Fr where
 |code (c:ai)
 |steps (n:Nat) (ss:List aV) (live:List Nat)
 |dr (base i:Nat) (ss:List aV) (deps:List (List Nat)) (live:List Nat) (rs:List Rec)
 |blk (id:Nat)
section
variable {R:Type}
noncomputable def oM (T:Tab) (ow:dI) (k:ag→St→Option R):List Fr→Option Nat→St→Option R
 |[],none,st=>k .normal st
 |[],some id,st=>k (.exit id) st
 | .blk id'::K,some id,st=>if id'=id then oM T ow k K none st else oM T ow k K (some id) st
 |_::K,some id,st=>oM T ow k K (some id) st
 | .blk _::K,none,st=>oM T ow k K none st
 | .code c::K,none,st=>match hZ T ow c st with
   |some (.normal,st')=>oM T ow k K none st'
   |some (.exit id,st')=>oM T ow k K (some id) st'
   |some (.ret,st')=>k .ret st'
   |none=>none
 | .steps n ss live::K,none,st=>match jn (Call T ow) ow ss n st with
   |some st'=>oM T ow k K none (trim live st')
   |none=>none
 | .dr base i ss deps live rs::K,none,st=>match gr (Call T ow) ow base ss i st with
   |some (st',rs')=>br (mT deps (rs++rs'.filter Rec.loud)) (oM T ow k K none (trim live st')) none
   |none=>none
noncomputable def Rn (T:Tab) (ow:dI) (k:ag→St→Option R) (K:List Fr) (st:St):Option R:=oM T ow k K none st
noncomputable def Unw (T:Tab) (ow:dI) (k:ag→St→Option R) (id:Nat) (K:List Fr) (st:St):Option R:=oM T ow k K (some id) st
noncomputable def goR (T:Tab) (ow:dI) (k:ag→St→Option R) (K:List Fr):Option (ag×St)→Option R
 |some (.normal,st')=>Rn T ow k K st'
 |some (.exit id,st')=>Unw T ow k id K st'
 |some (.ret,st')=>k .ret st'
 |none=>none
variable {T:Tab} {ow:dI} {k:ag→St→Option R}
theorem cY (c:ai) (K:List Fr) (st:St):Rn T ow k (.code c::K) st=goR T ow k K (hZ T ow c st):=by
 unfold Rn oM goR
 cases hZ T ow c st with
 |none=>rfl
 |some p=>obtain ⟨e,st'⟩:=p;cases e<;>rfl
theorem b4D (st:St):Rn T ow k [] st=k .normal st:=rfl
theorem b4v (id:Nat) (K:List Fr) (st:St):Rn T ow k (.blk id::K) st=Rn T ow k K st:=rfl
theorem b0Q (K:List Fr) (st:St):Rn T ow k (.code .skip::K) st=Rn T ow k K st:=by rw [cY,a4S];rfl
theorem a7t (id:Nat) (K:List Fr) (st:St):Rn T ow k (.code (.exit id)::K) st=Unw T ow k id K st:=by rw [cY,a4u];rfl
theorem b2i (K:List Fr) (st:St):Rn T ow k (.code .ret::K) st=k .ret st:=by rw [cY,a8E];rfl
theorem b3h (a b:ai) (K:List Fr) (st:St):Rn T ow k (.code (.seq a b)::K) st=Rn T ow k (.code a:: .code b::K) st:=by
 rw [cY,Nz,cY]
 cases hZ T ow a st with
 |none=>rfl
 |some p=>
  obtain ⟨e,st'⟩:=p
  cases e with
  |normal=>simp only [goR];rw [cY];rfl
  |exit id=>rfl
  |ret=>rfl
theorem a6v (id:Nat) (c:ai) (K:List Fr) (st:St):Rn T ow k (.code (.block id c)::K) st=Rn T ow k (.code c:: .blk id::K) st:=by
 rw [cY,GL,cY]
 cases hZ T ow c st with
 |none=>rfl
 |some p=>
  obtain ⟨e,st'⟩:=p
  cases e with
  |normal=>rfl
  |exit id'=>
   simp only [goR,Unw,Rn,oM]
   by_cases h:id'=id
   ·subst h;simp
   ·rw [if_neg h,if_neg (fun e=>h e.symm)]
  |ret=>rfl
noncomputable def a7a (T:Tab) (ow:dI) (k:ag→St→Option R) (a b:ai) (K:List Fr) (st:St):V→Option R
 | .lit (.bool c)=>br c (Rn T ow k (.code a::K) st) (Rn T ow k (.code b::K) st)
 |_=>none
theorem b1f (c:Opd) (a b:ai) (K:List Fr) (st:St):Rn T ow k (.code (.cond c a b)::K) st=a7a T ow k a b K st (st.ev c):=by
 rw [cY,a5S]
 unfold a7a
 split
 ·rename_i h;rw [h];exact (cY _ _ _).symm
 ·rename_i h;rw [h];exact (cY _ _ _).symm
 ·rename_i h1 h2
  split
  ·rename_i c' h;cases c'
   ·exact absurd h h2
   ·exact absurd h h1
  ·rfl
theorem a1J (a b:ai) (K:List Fr) (st:St) (c:Bool):a7a T ow k a b K st (.lit (.bool c))=br c (Rn T ow k (.code a::K) st) (Rn T ow k (.code b::K) st):=rfl
noncomputable def ghR (T:Tab) (ow:dI) (k:ag→St→Option R) (c:ai) (K:List Fr):Option St→Option R
 |some st'=>Rn T ow k (.code c::K) st'
 |none=>none
theorem a4Q (g:dB) (c:ai) (K:List Fr) (st:St):Rn T ow k (.code (.ghost g c)::K) st=ghR T ow k c K (bK st g):=by
 rw [cY,jd]
 cases bK st g with
 |none=>rfl
 |some st'=>simp only [ghR];rw [cY]
theorem a9r (c:ai) (K:List Fr) (st:St):ghR T ow k c K (some st)=Rn T ow k (.code c::K) st:=rfl
theorem a2t (K:List Fr) (st:St):goR T ow k K (some (.normal,st))=Rn T ow k K st:=rfl
theorem a89 (id:Nat) (K:List Fr) (st:St):goR T ow k K (some (.exit id,st))=Unw T ow k id K st:=rfl
theorem b47 (K:List Fr) (st:St):goR T ow k K (some (.ret,st))=k .ret st:=rfl
theorem b3q (id:Nat) (st:St):Unw T ow k id [] st=k (.exit id) st:=rfl
theorem a7y (id:Nat) (c:ai) (K:List Fr) (st:St):Unw T ow k id (.code c::K) st=Unw T ow k id K st:=rfl
theorem b57 (id id':Nat) (K:List Fr) (st:St):Unw T ow k id (.blk id'::K) st=if id'=id then Rn T ow k K st else Unw T ow k id K st:=rfl
theorem a0P (n:Nat) (ss:List aV) (live:List Nat) (K:List Fr) (st:St):Rn T ow k (.code (.region n ss live)::K) st=Rn T ow k (.steps n ss live::K) st:=by
 rw [cY,Yt]
 unfold pD
 simp only [Rn,oM]
 cases jn (Call T ow) ow ss n st<;>rfl
theorem a5J (n:Nat) (ss:List aV) (deps:List (List Nat)) (live:List Nat) (K:List Fr) (st:St):Rn T ow k (.code (.drawn n ss deps live)::K) st=Rn T ow k (.dr n 0 ss deps live []::K) st:=by
 rw [cY,a0C]
 unfold wz
 simp only [Rn,oM]
 cases gr (Call T ow) ow n ss 0 st with
 |none=>rfl
 |some p=>
  obtain ⟨st',rs⟩:=p
  simp only [List.nil_append]
  cases mT deps (rs.filter Rec.loud)<;>rfl
theorem QV (n:Nat) (live:List Nat) (K:List Fr) (st:St):Rn T ow k (.steps n [] live::K) st=Rn T ow k K (trim live st):=rfl
noncomputable def aft (T:Tab) (ow:dI) (k:ag→St→Option R) (d:Option Nat) (n:Nat) (ss:List aV) (live:List Nat) (K:List Fr) (st:St):Option (V×Upd)→Option R
 |some (v,u)=>Rn T ow k (.steps (n+1) ss live::K) ((st.upd u).put d v)
 |none=>none
variable {d:Option Nat} {n:Nat} {ss:List aV} {live:List Nat} {K:List Fr} {st:St}
theorem a5I (op:AOp):Rn T ow k (.steps n (⟨d,op,none⟩::ss) live::K) st=aft T ow k d n ss live K st (ah (Call T ow) ow op st.ev st.heap n):=by
 unfold aft
 simp only [Rn,oM,jn,y0,St.want]
 cases ah (Call T ow) ow op st.ev st.heap n with
 |none=>rfl
 |some p=>obtain ⟨v,u⟩:=p;rfl
theorem b1t (v:V) (u:Upd):aft T ow k d n ss live K st (some (v,u))=Rn T ow k (.steps (n+1) ss live::K) ((st.upd u).put d v):=rfl
theorem a9G:aft T ow k d n ss live K st none=none:=rfl
theorem b6k (c:Bool) (x y:Option (V×Upd)):aft T ow k d n ss live K st (br c x y)=br c (aft T ow k d n ss live K st x) (aft T ow k d n ss live K st y):=by cases c<;>rfl
theorem a8F {α:Type} (x:Option α) (f:α→Option (V×Upd)):aft T ow k d n ss live K st (x.bind f)=x.bind (fun a=>aft T ow k d n ss live K st (f a)):=by cases x<;>rfl
noncomputable def gd (T:Tab) (ow:dI) (k:ag→St→Option R) (t:Nat) (b:Bool) (d:Option Nat) (op:AOp) (n:Nat) (ss:List aV) (live:List Nat) (K:List Fr) (st:St):V→Option R
 | .lit (.bool c)=>br (c==b) (Rn T ow k (.steps n (⟨d,op,none⟩::ss) live::K) { st with e:=fJ t (.lit (.bool c)) st.e })
  (Rn T ow k (.steps (n+1) ss live::K) ({ st with e:=fJ t (.lit (.bool c)) st.e }.put d (.lit (.tuple #[]))))
 | .lit (.tuple _)=>Rn T ow k (.steps (n+1) ss live::K) (st.put d (.lit (.tuple #[])))
 |_=>none
theorem TA {α:Type}: ∀{l:List (Nat×α)} {t:Nat} {v:α},dR l t=some v→fJ t v l=l
 |[],_,_,h=>by simp [dR] at h
 | (j,u)::r,t,v,h=>by
   simp only [dR] at h
   simp only [fJ]
   split at h
   ·rename_i e;cases h;subst e;simp
   ·rename_i e;rw [if_neg e,TA h]
theorem a0f {v:V} {t:Nat} (h:st.get t=v) (hv:v≠ .undef):({ st with e:=fJ t v st.e }:St)=st:=by
 unfold St.get at h
 cases ha:dR st.e t with
 |none=>rw [ha] at h;exact absurd h.symm hv
 |some u=>
  rw [ha] at h;cases h
  show ({ st with e:=fJ t u st.e }:St)=st
  rw [TA ha]
theorem a5d (t:Nat) (b:Bool) (op:AOp):Rn T ow k (.steps n (⟨d,op,some (t,b)⟩::ss) live::K) st=gd T ow k t b d op n ss live K st (st.get t):=by
 cases hg:st.get t with
 |lit v=>
  cases v with
  |bool c=>
   simp only [gd]
   rw [a0f hg (by simp)]
   simp only [Rn,oM,jn,y0,St.want,hg]
   cases hcb:(c==b)
   ·simp [aw,hcb]
   ·simp [bF,hcb]
  |tuple xs=>simp only [gd];simp only [Rn,oM,jn,y0,St.want,hg]
  |_=>simp only [gd];simp only [Rn,oM,jn,y0,St.want,hg]
 |_=>simp only [gd];simp only [Rn,oM,jn,y0,St.want,hg]
theorem b1Y (t:Nat) (op:AOp) (c:Bool):gd T ow k t true d op n ss live K st (.lit (.bool c))=
 br c (Rn T ow k (.steps n (⟨d,op,none⟩::ss) live::K) { st with e:=fJ t (.lit (.bool true)) st.e })
  (Rn T ow k (.steps (n+1) ss live::K) ({ st with e:=fJ t (.lit (.bool false)) st.e }.put d (.lit (.tuple #[])))):=by cases c<;>rfl
theorem b0U (t:Nat) (op:AOp) (c:Bool):gd T ow k t false d op n ss live K st (.lit (.bool c))=
 br c (Rn T ow k (.steps (n+1) ss live::K) ({ st with e:=fJ t (.lit (.bool true)) st.e }.put d (.lit (.tuple #[]))))
  (Rn T ow k (.steps n (⟨d,op,none⟩::ss) live::K) { st with e:=fJ t (.lit (.bool false)) st.e }):=by cases c<;>rfl
theorem a7c (t:Nat) (b:Bool) (op:AOp) (xs:Array Value):gd T ow k t b d op n ss live K st (.lit (.tuple xs))=Rn T ow k (.steps (n+1) ss live::K) (st.put d (.lit (.tuple #[]))):=rfl
variable {base i:Nat} {deps:List (List Nat)} {rs:List Rec} {fp:List Nat}
def a6g (rs:List Rec) (i:Nat) (fp wr:List Nat):List Rec:=rs++[Rec.mk i fp wr].filter Rec.loud
theorem a1V:Rn T ow k (.dr base i [] deps live rs::K) st=br (mT deps rs) (Rn T ow k K (trim live st)) none:=by
 simp only [Rn,oM,gr,List.filter_nil,List.append_nil]
noncomputable def MR (T:Tab) (ow:dI) (k:ag→St→Option R) (d:Option Nat) (base i:Nat) (ss:List aV) (deps:List (List Nat)) (live:List Nat) (rs:List Rec) (K:List Fr) (st:St) (fp:List Nat):Option (V×Upd)→Option R
 |some (v,u)=>br ((u.map (·.1)).all (fun b=>b==(base+i)||b∈fp)&&(!(u.map (·.1)).contains (base+i)||(st.heap (base+i)).isNone))
  (Rn T ow k (.dr base (i+1) ss deps live (a6g rs i fp (u.map (·.1)))::K) ((st.upd u).put d v)) none
 |none=>none
theorem b7E (op:AOp):Rn T ow k (.dr base i (⟨d,op,none⟩::ss) deps live rs::K) st=
 MR T ow k d base i ss deps live rs K st (gj ow op st.ev st.heap) (ah (Call T ow) ow op st.ev (oA st.heap (gj ow op st.ev st.heap)) (base+i)):=by
 unfold MR
 simp only [Rn,oM,gr,ua,St.want]
 cases ho:ah (Call T ow) ow op st.ev (oA st.heap (gj ow op st.ev st.heap)) (base+i) with
 |none=>rfl
 |some p=>
  obtain ⟨v,u⟩:=p
  dsimp only
  by_cases hc:((u.map (·.1)).all (fun b=>b==(base+i)||b∈gj ow op st.ev st.heap)&&(!(u.map (·.1)).contains (base+i)||(st.heap (base+i)).isNone))=true
  ·rw [hc,bF,if_pos rfl]
   dsimp only
   cases gr (Call T ow) ow base ss (i+1) ((st.upd u).put d v) with
   |none=>rfl
   |some q=>
    obtain ⟨st2,rs2⟩:=q
    simp only [a6g,List.filter_cons,List.filter_nil,List.append_assoc]
    cases Rec.loud ⟨i,gj ow op st.ev st.heap,u.map (·.1)⟩<;>rfl
  ·rw [Bool.not_eq_true] at hc
   rw [hc,aw,if_neg (by decide)]
theorem a4X (v:V) (u:Upd):MR T ow k d base i ss deps live rs K st fp (some (v,u))=br ((u.map (·.1)).all (fun b=>b==(base+i)||b∈fp)&&(!(u.map (·.1)).contains (base+i)||(st.heap (base+i)).isNone))
 (Rn T ow k (.dr base (i+1) ss deps live (a6g rs i fp (u.map (·.1)))::K) ((st.upd u).put d v)) none:=rfl
theorem a0y (v:V):MR T ow k d base i ss deps live rs K st fp (some (v,[]))=Rn T ow k (.dr base (i+1) ss deps live (a6g rs i fp [])::K) (st.put d v):=rfl
theorem a4B:MR T ow k d base i ss deps live rs K st fp none=none:=rfl
theorem b5h (c:Bool) (x y:Option (V×Upd)):MR T ow k d base i ss deps live rs K st fp (br c x y)=br c (MR T ow k d base i ss deps live rs K st fp x) (MR T ow k d base i ss deps live rs K st fp y):=by cases c<;>rfl
theorem a55 {α:Type} (x:Option α) (f:α→Option (V×Upd)):MR T ow k d base i ss deps live rs K st fp (x.bind f)=x.bind (fun a=>MR T ow k d base i ss deps live rs K st fp (f a)):=by cases x<;>rfl
noncomputable def gdD (T:Tab) (ow:dI) (k:ag→St→Option R) (t:Nat) (b:Bool) (d:Option Nat) (op:AOp) (base i:Nat) (ss:List aV) (deps:List (List Nat)) (live:List Nat) (rs:List Rec) (K:List Fr) (st:St):V→Option R
 | .lit (.bool c)=>br (c==b) (Rn T ow k (.dr base i (⟨d,op,none⟩::ss) deps live rs::K) { st with e:=fJ t (.lit (.bool c)) st.e })
  (Rn T ow k (.dr base (i+1) ss deps live rs::K) ({ st with e:=fJ t (.lit (.bool c)) st.e }.put d (.lit (.tuple #[]))))
 | .lit (.tuple _)=>Rn T ow k (.dr base (i+1) ss deps live rs::K) (st.put d (.lit (.tuple #[])))
 |_=>none
theorem a3y (op:AOp) (g:Nat×Bool) (h:st.want (some g)=some false):Rn T ow k (.dr base i (⟨d,op,some g⟩::ss) deps live rs::K) st=Rn T ow k (.dr base (i+1) ss deps live rs::K) (st.put d (.lit (.tuple #[]))):=by
 simp only [Rn,oM,gr,ua,h]
 cases gr (Call T ow) ow base ss (i+1) (st.put d (.lit (.tuple #[]))) with
 |none=>rfl
 |some q=>obtain ⟨st2,rs2⟩:=q;rfl
theorem b8Y (op:AOp) (g:Nat×Bool) (h:st.want (some g)=some true):Rn T ow k (.dr base i (⟨d,op,some g⟩::ss) deps live rs::K) st=Rn T ow k (.dr base i (⟨d,op,none⟩::ss) deps live rs::K) st:=by
 have h2:st.want none=some true:=rfl
 simp only [Rn,oM,gr,ua,h,h2]
theorem a3C (op:AOp) (g:Nat×Bool) (h:st.want (some g)=none):Rn T ow k (.dr base i (⟨d,op,some g⟩::ss) deps live rs::K) st=none:=by
 simp only [Rn,oM,gr,ua,h]
theorem UG (t:Nat) (b:Bool) (op:AOp):Rn T ow k (.dr base i (⟨d,op,some (t,b)⟩::ss) deps live rs::K) st=gdD T ow k t b d op base i ss deps live rs K st (st.get t):=by
 cases hg:st.get t with
 |lit v=>
  cases v with
  |bool c=>
   simp only [gdD]
   rw [a0f hg (by simp)]
   cases hcb:(c==b)
   ·rw [aw];exact a3y op (t,b) (by simp [St.want,hg,hcb])
   ·rw [bF];exact b8Y op (t,b) (by simp [St.want,hg,hcb])
  |tuple xs=>exact a3y op (t,b) (by simp [St.want,hg])
  |_=>exact a3C op (t,b) (by simp [St.want,hg])
 |_=>exact a3C op (t,b) (by simp [St.want,hg])
theorem b0A (t:Nat) (op:AOp) (c:Bool):gdD T ow k t true d op base i ss deps live rs K st (.lit (.bool c))=
 br c (Rn T ow k (.dr base i (⟨d,op,none⟩::ss) deps live rs::K) { st with e:=fJ t (.lit (.bool true)) st.e })
  (Rn T ow k (.dr base (i+1) ss deps live rs::K) ({ st with e:=fJ t (.lit (.bool false)) st.e }.put d (.lit (.tuple #[])))):=by cases c<;>rfl
theorem a6R (t:Nat) (op:AOp) (c:Bool):gdD T ow k t false d op base i ss deps live rs K st (.lit (.bool c))=
 br c (Rn T ow k (.dr base (i+1) ss deps live rs::K) ({ st with e:=fJ t (.lit (.bool true)) st.e }.put d (.lit (.tuple #[]))))
  (Rn T ow k (.dr base i (⟨d,op,none⟩::ss) deps live rs::K) { st with e:=fJ t (.lit (.bool false)) st.e }):=by cases c<;>rfl
theorem a4U (t:Nat) (b:Bool) (op:AOp) (xs:Array Value):gdD T ow k t b d op base i ss deps live rs K st (.lit (.tuple xs))=Rn T ow k (.dr base (i+1) ss deps live rs::K) (st.put d (.lit (.tuple #[]))):=rfl
end
def a1D (af:ae) (m:Nat) (x:ag) (st:St):Option (V×List Blk):=Zw af (lJ af m (some (x,st)))
theorem ab {T:Tab} {ow:dI} {f:FuncId} {af:ae} (hT:T f=some (.code af)) (a:List V) (b:List Blk):Call T ow f a b=Rn T ow (a1D af b.length) [.code af.body] (start a b):=by
 rw [a3j,hT]
 dsimp only
 rw [cY]
 cases hZ T ow af.body (start a b) with
 |none=>rfl
 |some p=>obtain ⟨e,st⟩:=p;cases e<;>rfl
def Hj {S E:Type} (step:S→Option (S⊕E)):Nat→S→Option E
 |0,_=>none
 |n+1,s=>match step s with
  |none=>none
  |some (.inl s')=>Hj step n s'
  |some (.inr e)=>some e
theorem TS {S E:Type} {step:S→Option (S⊕E)}: ∀{n:Nat} {s:S} {e:E},Hj step n s=some e→Hj step (n+1) s=some e
 |0,_,_,h=>by cases h
 |n+1,s,e,h=>by
  simp only [Hj] at h ⊢
  split at h
  ·cases h
  ·rename_i s' hs;exact TS h
  ·rename_i e' hs;exact h
theorem b1K {S E:Type} {step:S→Option (S⊕E)} {n m:Nat} (hnm:n≤m) {s:S} {e:E} (h:Hj step n s=some e):Hj step m s=some e:=by
 induction hnm with
 |refl=>exact h
 |step _ ih=>exact TS ih
noncomputable def Loop {S E:Type} (step:S→Option (S⊕E)) (s:S):Option E:=lim (fun n=>Hj step n s)
theorem MX {S E:Type} {step:S→Option (S⊕E)} {s:S} {e:E} (h:Loop step s=some e): ∃n,Hj step n s=some e:=a0M h
theorem Vi {S E:Type} {step:S→Option (S⊕E)} {n:Nat} {s:S} {e:E} (h:Hj step n s=some e):Loop step s=some e:=
 a1k (g:=fun n=>Hj step n s) (fun _ _ _ hnm h=>b1K hnm h) h
def b9G {S E:Type} (lp:S→Option E):Option (S⊕E)→Option E
 |none=>none
 |some (.inl s')=>lp s'
 |some (.inr e)=>some e
theorem Vm {S E:Type} (step:S→Option (S⊕E)) (s:S):Loop step s=b9G (Loop step) (step s):=by
 refine sO (fun r h=> ?_) (fun r h=> ?_)
 ·obtain ⟨n,hn⟩:=MX h
  cases n with
  |zero=>cases hn
  |succ n=>
   simp only [Hj] at hn
   split at hn
   ·cases hn
   ·rename_i s' hs;rw [hs];exact Vi hn
   ·rename_i e' hs;rw [hs];exact hn
 ·cases hs:step s with
  |none=>rw [hs] at h;cases h
  |some o=>
   rw [hs] at h
   cases o with
   |inl s'=>
    obtain ⟨n,hn⟩:=MX (show Loop step s'=some r from h)
    exact Vi (n:=n+1) (by simp only [Hj,hs];exact hn)
   |inr e=>exact Vi (n:=1) (by simp only [Hj,hs];exact h)
def b9y (x:ag) (st:St):Option (ag×St):=some (x,st)
theorem b1s {T:Tab} {ow:dI} (c:ai) (st:St):hZ T ow c st=Rn T ow b9y [.code c] st:=by
 rw [cY]
 cases hZ T ow c st with
 |none=>rfl
 |some p=>obtain ⟨e,st⟩:=p;cases e<;>rfl
theorem c0q {T:Tab} {ow:dI} {S E:Type} {c:ai} {step:S→Option (S⊕E)} {eS:S→St} {eE:E→ag×St} (hne: ∀e,(eE e).1≠ .normal)
 (hb: ∀s o,step s=some o→Rn T ow b9y [.code c] (eS s)=some (match o with
  | .inl s'=>(.normal,eS s')
  | .inr e=>eE e)) {s:S} {e:E} (h:Loop step s=some e):hZ T ow (.loop c) (eS s)=some (eE e):=by
 obtain ⟨n,hn⟩:=MX h
 clear h
 induction n generalizing s with
 |zero=>cases hn
 |succ n ih=>
  simp only [Hj] at hn
  rw [TV,b1s]
  split at hn
  ·cases hn
  ·rename_i s' hs
   rw [hb s _ hs]
   exact ih hn
  ·rename_i e' hs
   rw [hb s _ hs]
   cases hn
   dsimp only
   have:=hne e
   revert this
   generalize eE e=p
   obtain ⟨x,st⟩:=p
   intro this
   cases x with
   |normal=>exact absurd rfl this
   |exit id=>rfl
   |ret=>rfl
def lR (g:dB):ai→ai
 | .seq a b=> .seq (lR g a) b
 | .block id a=> .block id (lR g a)
 |c=> .ghost g c
section
variable {R:Type} {T:Tab} {ow:dI} {k:ag→St→Option R}
def ghE (T:Tab) (ow:dI) (c:ai):Option St→Option (ag×St)→Option (ag×St)
 |some _,r=>r
 |none,_=>none
theorem Kg (g:dB): ∀(c:ai) (st:St),hZ T ow (lR g c) st=(match bK st g with
 |some st'=>hZ T ow c st'
 |none=>none)
 | .seq a b,st=>by
   simp only [lR]
   rw [Nz,Kg g a st]
   cases bK st g with
   |none=>rfl
   |some st'=>dsimp only;rw [Nz]
 | .block id a,st=>by
   simp only [lR]
   rw [GL,Kg g a st]
   cases bK st g with
   |none=>rfl
   |some st'=>dsimp only;rw [GL]
 | .skip,st=>jd _ _ _
 | .region _ _ _,st=>jd _ _ _
 | .drawn _ _ _ _,st=>jd _ _ _
 | .cond _ _ _,st=>jd _ _ _
 | .loop _,st=>jd _ _ _
 | .exit _,st=>jd _ _ _
 | .ret,st=>jd _ _ _
 | .ghost _ _,st=>jd _ _ _
noncomputable def aq (T:Tab) (ow:dI) (g:dB) (c:ai) (st:St):Option (ag×St):=match hZ T ow c st with
 |some (.normal,st')=>hZ T ow (.loop (lR g c)) st'
 |r=>r
noncomputable def goL (T:Tab) (ow:dI) (k:ag→St→Option R) (K:List Fr) (g:dB) (c:ai):Option St→Option R
 |some st'=>goR T ow k K (aq T ow g c st')
 |none=>none
theorem Pr (g:dB) (c:ai) (st:St):hZ T ow (.loop (lR g c)) st=(match bK st g with
 |some st'=>aq T ow g c st'
 |none=>none):=by
 rw [TV,Kg]
 cases bK st g<;>rfl
theorem a5A (g:dB) (c:ai) (K:List Fr) (st:St):Rn T ow k (.code (.loop (lR g c))::K) st=goL T ow k K g c (bK st g):=by
 rw [cY,Pr]
 cases bK st g<;>rfl
theorem b0q (K:List Fr) (g:dB) (c:ai) (st':St):goL T ow k K g c (some st')=goR T ow k K (aq T ow g c st'):=rfl
def ogM:Option St→Option (ag×St)
 |some st=>some (.normal,st)
 |none=>none
def UE (g:dB):ag→St→Option (ag×St)
 | .normal,st=>ogM (bK st g)
 |x,st=>some (x,st)
theorem a07 (g:dB) (st:St):UE g .normal st=ogM (bK st g):=rfl
theorem a5q (g:dB) (id:Nat) (st:St):UE g (.exit id) st=some (.exit id,st):=rfl
theorem a8b (g:dB) (st:St):UE g .ret st=some (.ret,st):=rfl
theorem a71 (st:St):ogM (some st)=some (.normal,st):=rfl
theorem a4q {S E:Type} {g:dB} {c:ai} {step:S→Option (S⊕E)} {eS:S→St} {eE:E→ag×St} (hne: ∀e,(eE e).1≠ .normal)
 (hb: ∀s o,step s=some o→Rn T ow (UE g) [.code c] (eS s)=some (match o with
  | .inl s'=>(.normal,eS s')
  | .inr e=>eE e)) {s:S} {e:E} (h:Loop step s=some e):aq T ow g c (eS s)=some (eE e):=by
 obtain ⟨n,hn⟩:=MX h
 clear h
 induction n generalizing s with
 |zero=>cases hn
 |succ n ih=>
  simp only [Hj] at hn
  unfold aq
  split at hn
  ·cases hn
  ·rename_i s' hs
   have h1:=hb s _ hs
   rw [cY] at h1
   cases hx:hZ T ow c (eS s) with
   |none=>rw [hx] at h1;cases h1
   |some p=>
    obtain ⟨x,st'⟩:=p
    rw [hx] at h1
    cases x with
    |normal=>
     dsimp only
     rw [Pr]
     simp only [goR,Rn,oM,UE,ogM] at h1
     cases hg:bK st' g with
     |none=>rw [hg] at h1;cases h1
     |some st2=>rw [hg] at h1;cases h1;exact ih hn
    |exit id=>simp [goR,Unw,oM,UE] at h1
    |ret=>simp [goR,UE] at h1
  ·rename_i e' hs
   have h1:=hb s _ hs
   cases hn
   have hn2:=hne e
   rw [cY] at h1
   dsimp only at h1
   revert h1 hn2
   generalize eE e=q
   intro h1 hn2
   cases hx:hZ T ow c (eS s) with
   |none=>rw [hx] at h1;cases h1
   |some p=>
    obtain ⟨x,st'⟩:=p
    rw [hx] at h1
    cases x with
    |normal=>
     simp only [goR,Rn,oM,UE,ogM] at h1
     cases hg:bK st' g with
     |none=>rw [hg] at h1;cases h1
     |some st2=>rw [hg] at h1;cases h1;exact absurd rfl hn2
    |exit id=>exact h1
    |ret=>exact h1
variable {d:Option Nat} {n:Nat} {ss:List aV} {live:List Nat} {K:List Fr} {st:St} {base i:Nat} {deps:List (List Nat)} {rs:List Rec} {fp:List Nat} {r:R}
theorem H9 {x:Option (ag×St)} {p:ag×St} (h:x=some p) (hr:goR T ow k K (some p)=some r):goR T ow k K x=some r:=by rw [h];exact hr
theorem a4k (g:dB) (c:ai):goR T ow k K (aq T ow g c st)=Rn T ow k (.code c:: .code (.loop (lR g c))::K) st:=by
 rw [cY]
 unfold aq
 cases hx:hZ T ow c st with
 |none=>rfl
 |some p=>
  obtain ⟨x,st'⟩:=p
  cases x with
  |normal=>dsimp only;simp only [goR];rw [cY];rfl
  |exit id=>rfl
  |ret=>rfl
theorem gZ {g:dB} {c:ai} (h:Rn T ow k (.code c:: .code (.loop (lR g c))::K) st=some r):goR T ow k K (aq T ow g c st)=some r:=by rw [a4k];exact h
theorem bind_some {α β:Type} {x:Option α} {a:α} {F:α→Option β} {r:β} (h:x=some a) (hr:F a=some r):x.bind F=some r:=by rw [h];exact hr
end
end Go.AI
set_option linter.unusedVariables false
set_option linter.unusedSimpArgs false
namespace Go.AI
abbrev I (n:Int):V:= .lit (.int .i64 n)
abbrev B (b:Bool):V:= .lit (.bool b)
abbrev S (s:List UInt8):V:= .lit (.string ⟨⟨s⟩⟩)
structure En (α:Type) where
 esz:Nat
 enc:α→List V
def rws {α:Type} (e:En α) (l:List α):List (List V):=l.map e.enc
def sl {α:Type} (e:En α) (l:List α):V:=(V.imm e.esz (rws e l)).cz
theorem b66 {α:Type} (e:En α):sl e []= .imm 1 []:=rfl
def eI:En Int:=⟨1,fun n=>[I n]⟩
def eU8:En UInt8:=⟨1,fun b=>[.lit (.int .u8 b.toNat)]⟩
def b8F:En Int:=⟨1,fun n=>[.lit (.int .u64 n)]⟩
def eB:En Bool:=⟨1,fun b=>[B b]⟩
def eS:En (List UInt8):=⟨1,fun s=>[S s]⟩
def eL {α:Type} (e:En α):En (List α):=⟨1,fun l=>[sl e l]⟩
theorem b5H:eI.esz=1:=by decide
theorem b7I (n:Int):eI.enc n=[I n]:=rfl
theorem b4I:eU8.esz=1:=by decide
theorem b3m (n:UInt8):eU8.enc n=[.lit (.int .u8 n.toNat)]:=rfl
theorem b1q (n:Int):b8F.enc n=[.lit (.int .u64 n)]:=rfl
theorem b6y (n:Bool):eB.enc n=[B n]:=rfl
theorem b64:eS.esz=1:=by decide
theorem b7n (n:List UInt8):eS.enc n=[S n]:=rfl
theorem b75 {α:Type} (e:En α):(eL e).esz=1:=of_decide_eq_true rfl
theorem b8p {α:Type} (e:En α) (l:List α):(eL e).enc l=[sl e l]:=rfl
def atL {α:Type} (l:List α) (i:Int):Option α:=if 0≤i then l[i.toNat]? else none
def jO {α:Type} (l:List α) (a b:Int):Option (List α):=if 0≤a∧a≤b∧b≤l.length then some ((l.take b.toNat).drop a.toNat) else none
def inb (i:Int) (n:Nat):Bool:=decide (0≤i)&&decide (i.toNat<n)
def bE (n bytes:Nat):Bool:=decide (n*bytes≤bx)
def xU (l c:Int) (bytes:Nat):Bool:=decide (0≤l)&&decide (l≤c)&&decide (c*bytes≤bx)
def mx (a b:Int):Int:=if b>a then b else a
def mn (a b:Int):Int:=if b<a then b else a
def a3z (r:List (List V)):Nat:=r.length
def app (r q:List (List V)):List (List V):=r++q
def mkR (n:Nat) (r:List (List V)):List (List V):=r
def cD (row:List V) (r:List (List V)):List (List V):=row::r
def Bh (n k:Nat) (row:List V):List (List V):=List.replicate k row
def wS (r:List (List V)) (i:Nat) (row:List V):List (List V):=r.set i row
section
variable {α:Type} {e:En α} {l l2:List α}
theorem a5T:a3z (rws e l)=l.length:=by simp [a3z,rws]
theorem mk0 (e:En α) (n:Nat):mkR n []=rws e []:=rfl
theorem b05 (n:Nat) (row:List V) (r:List (List V)):mkR n (row::r)=cD row (mkR n r):=rfl
theorem b9l (a:Int) (l:List Int):cD [I a] (rws eI l)=rws eI (a::l):=rfl
theorem c0m (a:List UInt8) (l:List (List UInt8)):cD [S a] (rws eS l)=rws eS (a::l):=rfl
theorem c06 (a:List α) (l:List (List α)):cD [sl e a] (rws (eL e) l)=rws (eL e) (a::l):=rfl
theorem b8g (l:List (List α)):cD [.imm 1 []] (rws (eL e) l)=rws (eL e) ([]::l):=rfl
theorem c0r (b:Bool) (l:List Bool):cD [B b] (rws eB l)=rws eB (b::l):=rfl
theorem b2C (a:Int) (l:List Int):cD [.lit (.int .u64 a)] (rws b8F l)=rws b8F (a::l):=rfl
theorem a8G (b:UInt8) (l:List UInt8):cD [.lit (.int .u8 b.toNat)] (rws eU8 l)=rws eU8 (b::l):=rfl
theorem qw (x:Int):((UInt8.ofInt x).toNat:Int)=IntKind.u8.wrap x:=by
 simp [UInt8.ofInt,IntKind.wrap,IntKind.bits,IntKind.signed]
 omega
theorem b51 (x:Int) (l:List UInt8):cD [.lit (.int .u8 (IntKind.u8.wrap x))] (rws eU8 l)=rws eU8 (UInt8.ofInt x::l):=by
 rw [←qw];rfl
theorem b1G (n:Nat) (h:Nat.ble n 255=true) (l:List UInt8):cD [.lit (.int .u8 (no_index (OfNat.ofNat n:Int)))] (rws eU8 l)=rws eU8 ((OfNat.ofNat n:UInt8)::l):=by
 have h':=Nat.le_of_ble_eq_true h
 have:((OfNat.ofNat n:UInt8).toNat:Int)=(OfNat.ofNat n:Int):=by
  show ((UInt8.ofNat n).toNat:Int)=(n:Int)
  simp;omega
 rw [←a8G,this]
theorem c0z (l:List Int) (i:Nat) (a:Int):wS (rws eI l) i [I a]=rws eI (l.set i a):=by simp [wS,rws,eI]
theorem setB (l:List Bool) (i:Nat) (a:Bool):wS (rws eB l) i [B a]=rws eB (l.set i a):=by simp [wS,rws,eB]
theorem b5X (l:List (List UInt8)) (i:Nat) (a:List UInt8):wS (rws eS l) i [S a]=rws eS (l.set i a):=by simp [wS,rws,eS]
theorem c0w (l:List (List α)) (i:Nat) (a:List α):wS (rws (eL e) l) i [sl e a]=rws (eL e) (l.set i a):=by simp [wS,rws,eL]
theorem b5k (l:List UInt8) (i:Nat) (a:UInt8):wS (rws eU8 l) i [.lit (.int .u8 a.toNat)]=rws eU8 (l.set i a):=by simp [wS,rws,eU8]
theorem a80 (l:List UInt8) (i:Nat) (x:Int):wS (rws eU8 l) i [.lit (.int .u8 (IntKind.u8.wrap x))]=rws eU8 (l.set i (UInt8.ofInt x)):=by
 rw [←qw,b5k]
theorem Ng (e:En α) (x:α) (n k:Nat):Bh n k (e.enc x)=rws e (List.replicate k x):=by simp [Bh,rws]
theorem b5Z (m:Nat) (h:e.esz=m):V.cz (.imm m (rws e l))=sl e l:=by subst h;rfl
theorem c0g (r:List (List V)):r.drop 0=r:=rfl
theorem j5 (e:En α) (l:List α):(l=[]∧sl e l= .imm 1 [])∨(l≠[]∧sl e l= .imm e.esz (rws e l)):=by
 cases l with
 |nil=>exact .inl ⟨rfl,rfl⟩
 |cons x l=>exact .inr ⟨by simp,rfl⟩
theorem b9U:(sl e l).cz=sl e l:=by
 cases l with
 |nil=>rfl
 |cons x l=>rfl
theorem b63:(sl e l).czA=sl e l:=by
 cases l with
 |nil=>rfl
 |cons x l=>rfl
theorem b5Q:(sl e l).czR=sl e l:=by
 cases l with
 |nil=>rfl
 |cons x l=>rfl
theorem b2B:(sl e l).cell=true:=by
 rcases j5 e l with ⟨_,h⟩|⟨_,h⟩<;>rw [h]<;>rfl
theorem b9s:(sl e l).cl=true:=by
 rcases j5 e l with ⟨_,h⟩|⟨_,h⟩<;>rw [h]<;>rfl
theorem a8Y:(sl e l).cells=[sl e l]:=by
 rcases j5 e l with ⟨_,h⟩|⟨_,h⟩<;>rw [h]<;>rfl
theorem b5e:fX (sl e l)=[]:=by
 rcases j5 e l with ⟨_,h⟩|⟨_,h⟩<;>rw [h]<;>rfl
theorem b4G:rX (sl e l)=[]:=by
 rcases j5 e l with ⟨_,h⟩|⟨_,h⟩<;>rw [h]<;>rfl
theorem a3c {h:al}:nf h (sl e l)=some (sl e l,[]):=by
 rcases j5 e l with ⟨_,h⟩|⟨_,h⟩<;>rw [h]<;>rfl
theorem a2C {h:al} {own:Bool} {ids:List Nat}:cp h own ids (sl e l)=some (sl e l,ids,[]):=by
 rcases j5 e l with ⟨_,h⟩|⟨_,h⟩<;>rw [h]<;>rfl
theorem a4H {h:al} {own:Bool} {ids:List Nat}:dq h own ids (sl e l)=some (sl e l,ids,[]):=by
 rcases j5 e l with ⟨_,h⟩|⟨_,h⟩<;>rw [h]<;>rfl
theorem b70 {ids:List Nat}:unV ids (sl e l)=sl e l:=by
 rcases j5 e l with ⟨_,h⟩|⟨_,h⟩<;>rw [h]<;>rfl
theorem a8e {ids:List Nat}:mc ids (sl e l)=sl e l:=by
 rcases j5 e l with ⟨_,h⟩|⟨_,h⟩<;>rw [h]<;>rfl
theorem a90 {ids:List Nat}:AV ids (sl e l)=sl e l:=by
 rcases j5 e l with ⟨_,h⟩|⟨_,h⟩<;>rw [h]<;>rfl
theorem b1a:oH (sl e l)=false:=by
 rcases j5 e l with ⟨_,h⟩|⟨_,h⟩<;>rw [h]<;>rfl
theorem b0w:Ci (sl e l)=false:=by
 rcases j5 e l with ⟨_,h⟩|⟨_,h⟩<;>rw [h]<;>rfl
theorem a7H:rm (sl e l)=false:=by
 rcases j5 e l with ⟨_,h⟩|⟨_,h⟩<;>rw [h]<;>rfl
theorem b8w {h:al} {bs:List Nat}:fzC h bs (sl e l)=sl e l:=by
 rcases j5 e l with ⟨_,h⟩|⟨_,h⟩<;>rw [h]<;>rfl
theorem b7M {h:al} {bs:List Nat}:fzA h bs (sl e l)=sl e l:=by
 rcases j5 e l with ⟨_,h⟩|⟨_,h⟩<;>rw [h]<;>rfl
theorem b2f {h:al} {m:Nat} {kp:List Nat}:pa h m kp (sl e l)=some (sl e l):=by
 rcases j5 e l with ⟨_,h⟩|⟨_,h⟩<;>rw [h]<;>rfl
theorem b37 {h:al} {m:Nat} {kp:List Nat}:Hp h m kp (sl e l)=some (sl e l):=by
 rcases j5 e l with ⟨_,h⟩|⟨_,h⟩<;>rw [h]<;>rfl
theorem b48 {h:al} {m:Nat} {kp:List Nat}:GD h m kp (sl e l)=some (sl e l):=by
 rcases j5 e l with ⟨_,h⟩|⟨_,h⟩<;>rw [h]<;>rfl
theorem b8m:okC (sl e l)=true:=by
 rcases j5 e l with ⟨_,h⟩|⟨_,h⟩<;>rw [h]<;>rfl
theorem T3 {h:al} (m:Nat) (hm:e.esz=m):cA h m (sl e l)=some (rws e l):=by
 subst hm
 rcases j5 e l with ⟨rfl,h⟩|⟨hl,h⟩
 ·rw [h];simp [cA,rws]
 ·rw [h];simp [cA]
theorem Zk:a3t (sl e l)=false:=by
 rcases j5 e l with ⟨_,h⟩|⟨_,h⟩<;>rw [h]<;>rfl
end
end Go.AI
