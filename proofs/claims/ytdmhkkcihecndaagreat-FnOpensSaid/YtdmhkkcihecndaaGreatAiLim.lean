/- The limit of the abstract machine's runs: more rounds tell the same; the equations of the limit. -/
import Derived.Test.YtdmhkkcihecndaaGreatAiExec
namespace Go.AI
theorem JU {C C':ba} (hC: ∀f a b r,C f a b=some r→C' f a b=some r) {ow:dg} {h:aw} {new:Nat} {f:FuncId} {args:List V} {r:V×Upd}
 (hr:jM C ow h new f args=some r):jM C' ow h new f args=some r:=by
 unfold jM at hr ⊢
 cases hp:cI ow h f args with
 |none=>rw [hp] at hr;cases hr
 |some p=>
  obtain ⟨args',blks,ids,bor⟩:=p
  rw [hp] at hr
  dsimp only at hr ⊢
  cases hc:C f (oC (ow f) args') (oV (ow f) blks) with
  |none=>rw [hc] at hr;cases hr
  |some q=>rw [hC _ _ _ _ hc];rw [hc] at hr;exact hr
theorem MK {C C':ba} (hC: ∀f a b r,C f a b=some r→C' f a b=some r) {ow:dg} {o:AOp} {ev:Opd→V} {h:aw} {new:Nat} {r:V×Upd}
 (hr:aj C ow o ev h new=some r):aj C' ow o ev h new=some r:=by
 cases o
 case call f args=>simp only [aj] at hr ⊢;exact JU hC hr
 case dyn f args=>
  simp only [aj] at hr ⊢
  split at hr
  ·exact JU hC hr
  ·cases hr
 all_goals exact hr
theorem R5 {C:Nat→ba} {D:ba} (hD: ∀f a b r,D f a b=some r→ ∃n,C n f a b=some r) (n0:Nat) {ow:dg} {o:AOp} {ev:Opd→V} {h:aw} {new:Nat} {r:V×Upd}
 (hr:aj D ow o ev h new=some r): ∃n,aj (C n) ow o ev h new=some r:=by
 have key: ∀f args,jM D ow h new f args=some r→ ∃n,jM (C n) ow h new f args=some r:=by
  intro f args hr
  unfold jM at hr
  cases hp:cI ow h f args with
  |none=>rw [hp] at hr;cases hr
  |some p=>
   obtain ⟨args',blks,ids,bor⟩:=p
   rw [hp] at hr
   dsimp only at hr
   cases hc:D f (oC (ow f) args') (oV (ow f) blks) with
   |none=>rw [hc] at hr;cases hr
   |some q=>
    rw [hc] at hr
    obtain ⟨n,hn⟩:=hD _ _ _ _ hc
    refine ⟨n, ?_⟩
    unfold jM
    rw [hp]
    dsimp only
    rw [hn]
    exact hr
 cases o
 case call f args=>simp only [aj] at hr ⊢;exact key _ _ hr
 case dyn f args=>
  simp only [aj] at hr ⊢
  split at hr
  ·exact key _ _ hr
  ·cases hr
 all_goals exact ⟨n0,hr⟩
theorem LM {C C':ba} (hC: ∀f a b r,C f a b=some r→C' f a b=some r) {ow:dg} {st:St} {s:bi} {n:Nat} {r:St}
 (hr:xg C ow st s n=some r):xg C' ow st s n=some r:=by
 unfold xg at hr ⊢
 split at hr
 ·cases hr
 ·exact hr
 ·split at hr
  ·rename_i v u ho;rw [MK hC ho];exact hr
  ·cases hr
theorem pi {C C':ba} (hC: ∀f a b r,C f a b=some r→C' f a b=some r) {ow:dg}: ∀{l:List bi} {n:Nat} {st:St} {r:St},
 iz C ow l n st=some r→iz C' ow l n st=some r
 |[],_,_,_,hr=>hr
 |s::l,n,st,r,hr=>by
  simp only [iz] at hr ⊢
  split at hr
  ·rename_i st' h;rw [LM hC h];exact pi hC hr
  ·cases hr
theorem N4 {C C':ba} (hC: ∀f a b r,C f a b=some r→C' f a b=some r) {ow:dg} {st:St} {s:bi} {i n:Nat} {r:St×Rec}
 (hr:tJ C ow st s i n=some r):tJ C' ow st s i n=some r:=by
 unfold tJ at hr ⊢
 split at hr
 ·cases hr
 ·exact hr
 ·split at hr
  ·rename_i v u ho;rw [MK hC ho];exact hr
  ·cases hr
theorem ph {C C':ba} (hC: ∀f a b r,C f a b=some r→C' f a b=some r) {ow:dg} {base:Nat}: ∀{l:List bi} {n:Nat} {st:St} {r:St×List Rec},
 fq C ow base l n st=some r→fq C' ow base l n st=some r
 |[],_,_,_,hr=>hr
 |s::l,n,st,r,hr=>by
  simp only [fq] at hr ⊢
  split at hr
  ·rename_i st' rc h
   rw [N4 hC h]
   dsimp only
   split at hr
   ·rename_i st2 rs h2;rw [ph hC h2];exact hr
   ·cases hr
  ·cases hr
theorem bU {C C':ba} (hC: ∀f a b r,C f a b=some r→C' f a b=some r) {ow:dg}: ∀(n m:Nat),n≤m→ ∀{c:ae} {st:St} {r:ai×St},
 bE C ow n c st=some r→bE C' ow m c st=some r
 |0,_,_,_,_,_,hr=>by simp [bE] at hr
 |n+1,0,h,_,_,_,_=>absurd h (by omega)
 |n+1,m+1,h,c,st,r,hr=>by
  have ih:=fun {c st r}=>bU hC (ow:=ow) n m (by omega) (c:=c) (st:=st) (r:=r)
  cases c with
  |skip=>exact hr
  |region base steps live=>
   simp only [bE,oH] at hr ⊢
   split at hr
   ·rename_i st' h;rw [pi hC h];exact hr
   ·cases hr
  |drawn base steps deps live=>
   simp only [bE,vG] at hr ⊢
   split at hr
   ·rename_i st' rs h;rw [ph hC h];exact hr
   ·cases hr
  |seq a b=>
   simp only [bE] at hr ⊢
   cases ha:bE C ow n a st with
   |none=>rw [ha] at hr;cases hr
   |some p=>
    obtain ⟨e,st'⟩:=p
    rw [ih ha]
    rw [ha] at hr
    cases e with
    |normal=>exact ih hr
    |exit id=>exact hr
    |ret=>exact hr
  |cond c a b=>
   simp only [bE] at hr ⊢
   split at hr
   ·exact ih hr
   ·exact ih hr
   ·cases hr
  |block id c=>
   simp only [bE] at hr ⊢
   cases ha:bE C ow n c st with
   |none=>rw [ha] at hr;cases hr
   |some p=>rw [ih ha];rw [ha] at hr;exact hr
  |loop c=>
   simp only [bE] at hr ⊢
   cases ha:bE C ow n c st with
   |none=>rw [ha] at hr;cases hr
   |some p=>
    obtain ⟨e,st'⟩:=p
    rw [ih ha]
    rw [ha] at hr
    cases e with
    |normal=>exact ih hr
    |exit id=>exact hr
    |ret=>exact hr
  |exit id=>exact hr
  |ret=>exact hr
  |ghost g c=>
   simp only [bE] at hr ⊢
   split at hr
   ·exact ih hr
   ·cases hr
theorem NV (T:Tab) (ow:dg): ∀(n:Nat) f a b r,cJ T ow n f a b=some r→cJ T ow (n+1) f a b=some r
 |0,_,_,_,_,h=>by simp [cJ] at h
 |n+1,f,a,b,r,h=>by
  simp only [cJ] at h ⊢
  split at h
  ·cases h
  rotate_left
  ·exact h
  ·rename_i af haf
   cases he:bE (cJ T ow n) ow n af.body (start a b) with
   |none=>rw [he] at h;simp [kM,W2] at h
   |some p=>
    have:=bU (NV T ow n) (ow:=ow) n (n+1) (by omega) he
    simp only [cJ] at this
    rw [this]
    rw [he] at h
    exact h
theorem bT (T:Tab) (ow:dg) {n m:Nat} (h:n≤m): ∀f a b r,cJ T ow n f a b=some r→cJ T ow m f a b=some r:=by
 induction h with
 |refl=>exact fun _ _ _ _ h=>h
 |step _ ih=>exact fun f a b r h=>NV T ow _ f a b r (ih f a b r h)
open Classical in
noncomputable def lim {α:Type} (g:Nat→Option α):Option α:=if h: ∃n r,g n=some r then g h.choose else none
theorem ZC {α:Type} {g:Nat→Option α} (hm: ∀n m r,n≤m→g n=some r→g m=some r) {n:Nat} {r:α} (h:g n=some r):lim g=some r:=by
 have hx: ∃n r,g n=some r:=⟨n,r,h⟩
 unfold lim
 rw [dif_pos hx]
 obtain ⟨r',hr'⟩:=hx.choose_spec
 have h1:=hm _ (max n hx.choose) _ (Nat.le_max_left _ _) h
 have h2:=hm _ (max n hx.choose) _ (Nat.le_max_right _ _) hr'
 rw [h1] at h2
 rw [hr', ←h2]
theorem O3 {α:Type} {g:Nat→Option α} {r:α} (h:lim g=some r): ∃n,g n=some r:=by
 unfold lim at h
 split at h
 ·exact ⟨_,h⟩
 ·cases h
noncomputable def Call (T:Tab) (ow:dg):ba:=fun f a b=>lim fun n=>cJ T ow n f a b
noncomputable def gr (T:Tab) (ow:dg) (c:ae) (st:St):Option (ai×St):=lim fun n=>bE (cJ T ow n) ow n c st
section
variable {T:Tab} {ow:dg}
theorem a99 {n m:Nat} (h:n≤m) {c:ae} {st:St} {r:ai×St} (hr:bE (cJ T ow n) ow n c st=some r):bE (cJ T ow m) ow m c st=some r:=
 bU (bT T ow h) n m h hr
theorem db {n:Nat} {c:ae} {st:St} {r:ai×St} (h:bE (cJ T ow n) ow n c st=some r):gr T ow c st=some r:=
 ZC (g:=fun n=>bE (cJ T ow n) ow n c st) (fun _ _ _ hnm h=>a99 hnm h) h
theorem gF {c:ae} {st:St} {r:ai×St} (h:gr T ow c st=some r): ∃n,bE (cJ T ow n) ow n c st=some r:=O3 h
theorem UG {n:Nat} {f:FuncId} {a:List V} {b:List Blk} {r:V×List Blk} (h:cJ T ow n f a b=some r):Call T ow f a b=some r:=
 ZC (g:=fun n=>cJ T ow n f a b) (fun _ _ _ hnm h=>bT T ow hnm _ _ _ _ h) h
theorem Lk {f:FuncId} {a:List V} {b:List Blk} {r:V×List Blk} (h:Call T ow f a b=some r): ∃n,cJ T ow n f a b=some r:=O3 h
theorem rf {α:Type} {a b:Option α} (h1: ∀r,a=some r→b=some r) (h2: ∀r,b=some r→a=some r):a=b:=by
 cases a with
 |none=>cases b with
  |none=>rfl
  |some r=>exact absurd (h2 r rfl) (by simp)
 |some r=>exact (h1 r rfl).symm
theorem Mf: ∀{l:List bi} {n:Nat} {st:St} {r:St},iz (Call T ow) ow l n st=some r→ ∃k,iz (cJ T ow k) ow l n st=some r
 |[],_,_,_,h=>⟨0,h⟩
 |s::l,n,st,r,h=>by
  simp only [iz] at h
  cases h1:xg (Call T ow) ow st s n with
  |none=>rw [h1] at h;cases h
  |some st'=>
   rw [h1] at h
   obtain ⟨k2,hk2⟩:=Mf h
   have: ∃k,xg (cJ T ow k) ow st s n=some st':=by
    unfold xg at h1 ⊢
    split at h1
    ·cases h1
    ·exact ⟨0,h1⟩
    ·split at h1
     ·rename_i v u ho
      obtain ⟨k,hk⟩:=R5 (C:=cJ T ow) (D:=Call T ow) (fun _ _ _ _ h=>Lk h) 0 ho
      exact ⟨k,by rw [hk];exact h1⟩
     ·cases h1
   obtain ⟨k1,hk1⟩:=this
   refine ⟨max k1 k2, ?_⟩
   simp only [iz]
   rw [LM (bT T ow (Nat.le_max_left k1 k2)) hk1]
   exact pi (bT T ow (Nat.le_max_right k1 k2)) hk2
theorem O6 {base:Nat}: ∀{l:List bi} {n:Nat} {st:St} {r:St×List Rec},fq (Call T ow) ow base l n st=some r→ ∃k,fq (cJ T ow k) ow base l n st=some r
 |[],_,_,_,h=>⟨0,h⟩
 |s::l,n,st,r,h=>by
  simp only [fq] at h
  cases h1:tJ (Call T ow) ow st s n (base+n) with
  |none=>rw [h1] at h;cases h
  |some p=>
   obtain ⟨st',rc⟩:=p
   rw [h1] at h
   dsimp only at h
   cases h2:fq (Call T ow) ow base l (n+1) st' with
   |none=>rw [h2] at h;cases h
   |some q=>
    obtain ⟨st2,rs⟩:=q
    rw [h2] at h
    obtain ⟨k2,hk2⟩:=O6 h2
    have: ∃k,tJ (cJ T ow k) ow st s n (base+n)=some (st',rc):=by
     unfold tJ at h1 ⊢
     split at h1
     ·cases h1
     ·exact ⟨0,h1⟩
     ·split at h1
      ·rename_i v u ho
       obtain ⟨k,hk⟩:=R5 (C:=cJ T ow) (D:=Call T ow) (fun _ _ _ _ h=>Lk h) 0 ho
       exact ⟨k,by rw [hk];exact h1⟩
      ·cases h1
    obtain ⟨k1,hk1⟩:=this
    refine ⟨max k1 k2, ?_⟩
    simp only [fq]
    rw [N4 (bT T ow (Nat.le_max_left k1 k2)) hk1]
    dsimp only
    rw [ph (bT T ow (Nat.le_max_right k1 k2)) hk2]
    exact h
theorem Nx (k:Nat): ∀f a b r,cJ T ow k f a b=some r→Call T ow f a b=some r:=fun _ _ _ _ h=>UG h
theorem a2x (st:St):gr T ow .skip st=some (.normal,st):=db (n:=1) rfl
theorem a3K (id:Nat) (st:St):gr T ow (.exit id) st=some (.exit id,st):=db (n:=1) rfl
theorem a5a (st:St):gr T ow .ret st=some (.ret,st):=db (n:=1) rfl
theorem Wb (base:Nat) (steps:List bi) (live:List Nat) (st:St):gr T ow (.region base steps live) st=oH (Call T ow) ow base steps live st:=by
 refine rf (fun r h=> ?_) (fun r h=> ?_)
 ·obtain ⟨n,hn⟩:=gF h
  cases n with
  |zero=>simp [bE] at hn
  |succ n=>
   simp only [bE,oH] at hn ⊢
   split at hn
   ·rename_i st' h';rw [pi (Nx (n+1)) h'];exact hn
   ·cases hn
 ·unfold oH at h
  split at h
  ·rename_i st' h'
   obtain ⟨k,hk⟩:=Mf h'
   refine db (n:=k+1) ?_
   simp only [bE,oH]
   rw [pi (bT T ow (Nat.le_succ k)) hk]
   exact h
  ·cases h
theorem a0f (base:Nat) (steps:List bi) (deps:List (List Nat)) (live:List Nat) (st:St):
 gr T ow (.drawn base steps deps live) st=vG (Call T ow) ow base steps deps live st:=by
 refine rf (fun r h=> ?_) (fun r h=> ?_)
 ·obtain ⟨n,hn⟩:=gF h
  cases n with
  |zero=>simp [bE] at hn
  |succ n=>
   simp only [bE,vG] at hn ⊢
   split at hn
   ·rename_i st' rs h';rw [ph (Nx (n+1)) h'];exact hn
   ·cases hn
 ·unfold vG at h
  split at h
  ·rename_i st' rs h'
   obtain ⟨k,hk⟩:=O6 h'
   refine db (n:=k+1) ?_
   simp only [bE,vG]
   rw [ph (bT T ow (Nat.le_succ k)) hk]
   exact h
  ·cases h
theorem P3 (a b:ae) (st:St):gr T ow (.seq a b) st=(match gr T ow a st with
 |some (.normal,st')=>gr T ow b st'
 |r=>r):=by
 refine rf (fun r h=> ?_) (fun r h=> ?_)
 ·obtain ⟨n,hn⟩:=gF h
  cases n with
  |zero=>simp [bE] at hn
  |succ n=>
   simp only [bE] at hn
   cases ha:bE (cJ T ow (n+1)) ow n a st with
   |none=>rw [ha] at hn;cases hn
   |some p=>
    obtain ⟨e,st'⟩:=p
    rw [db (bU (fun _ _ _ _ h=>h) n (n+1) (by omega) ha)]
    rw [ha] at hn
    cases e with
    |normal=>exact db (bU (fun _ _ _ _ h=>h) n (n+1) (by omega) hn)
    |exit id=>exact hn
    |ret=>exact hn
 ·cases ha:gr T ow a st with
  |none=>rw [ha] at h;cases h
  |some p=>
   obtain ⟨e,st'⟩:=p
   rw [ha] at h
   obtain ⟨n,hn⟩:=gF ha
   cases e with
   |normal=>
    obtain ⟨m,hm⟩:=gF (show gr T ow b st'=some r from h)
    refine db (n:=max n m+1) ?_
    simp only [bE]
    rw [bU (bT T ow (by omega)) n (max n m) (by omega) hn]
    exact bU (bT T ow (by omega)) m (max n m) (by omega) hm
   |exit id=>
    refine db (n:=n+1) ?_
    simp only [bE]
    rw [bU (bT T ow (by omega)) n n (by omega) hn]
    exact h
   |ret=>
    refine db (n:=n+1) ?_
    simp only [bE]
    rw [bU (bT T ow (by omega)) n n (by omega) hn]
    exact h
theorem a4d (c:Opd) (a b:ae) (st:St):gr T ow (.cond c a b) st=(match st.ev c with
 | .lit (.bool true)=>gr T ow a st
 | .lit (.bool false)=>gr T ow b st
 |_=>none):=by
 refine rf (fun r h=> ?_) (fun r h=> ?_)
 ·obtain ⟨n,hn⟩:=gF h
  cases n with
  |zero=>simp [bE] at hn
  |succ n=>
   simp only [bE] at hn
   split at hn
   ·rename_i hc;simp only [hc];exact db (bU (fun _ _ _ _ h=>h) n (n+1) (by omega) hn)
   ·rename_i hc;simp only [hc];exact db (bU (fun _ _ _ _ h=>h) n (n+1) (by omega) hn)
   ·cases hn
 ·split at h
  ·rename_i hc
   obtain ⟨n,hn⟩:=gF h
   refine db (n:=n+1) ?_
   simp only [bE,hc]
   exact bU (bT T ow (by omega)) n n (by omega) hn
  ·rename_i hc
   obtain ⟨n,hn⟩:=gF h
   refine db (n:=n+1) ?_
   simp only [bE,hc]
   exact bU (bT T ow (by omega)) n n (by omega) hn
  ·cases h
theorem E0 (id:Nat) (c:ae) (st:St):gr T ow (.block id c) st=(match gr T ow c st with
 |some (.exit id',st')=>if id'=id then some (.normal,st') else some (.exit id',st')
 |r=>r):=by
 refine rf (fun r h=> ?_) (fun r h=> ?_)
 ·obtain ⟨n,hn⟩:=gF h
  cases n with
  |zero=>simp [bE] at hn
  |succ n=>
   simp only [bE] at hn
   cases ha:bE (cJ T ow (n+1)) ow n c st with
   |none=>rw [ha] at hn;cases hn
   |some p=>
    rw [db (bU (fun _ _ _ _ h=>h) n (n+1) (by omega) ha)]
    rw [ha] at hn
    exact hn
 ·cases ha:gr T ow c st with
  |none=>rw [ha] at h;cases h
  |some p=>
   obtain ⟨n,hn⟩:=gF ha
   refine db (n:=n+1) ?_
   simp only [bE]
   rw [bU (bT T ow (by omega)) n n (by omega) hn]
   rw [ha] at h
   exact h
theorem Rg (c:ae) (st:St):gr T ow (.loop c) st=(match gr T ow c st with
 |some (.normal,st')=>gr T ow (.loop c) st'
 |r=>r):=by
 refine rf (fun r h=> ?_) (fun r h=> ?_)
 ·obtain ⟨n,hn⟩:=gF h
  cases n with
  |zero=>simp [bE] at hn
  |succ n=>
   simp only [bE] at hn
   cases ha:bE (cJ T ow (n+1)) ow n c st with
   |none=>rw [ha] at hn;cases hn
   |some p=>
    obtain ⟨e,st'⟩:=p
    rw [db (bU (fun _ _ _ _ h=>h) n (n+1) (by omega) ha)]
    rw [ha] at hn
    cases e with
    |normal=>exact db (bU (fun _ _ _ _ h=>h) n (n+1) (by omega) hn)
    |exit id=>exact hn
    |ret=>exact hn
 ·cases ha:gr T ow c st with
  |none=>rw [ha] at h;cases h
  |some p=>
   obtain ⟨e,st'⟩:=p
   rw [ha] at h
   obtain ⟨n,hn⟩:=gF ha
   cases e with
   |normal=>
    obtain ⟨m,hm⟩:=gF (show gr T ow (.loop c) st'=some r from h)
    refine db (n:=max n m+1) ?_
    simp only [bE]
    rw [bU (bT T ow (by omega)) n (max n m) (by omega) hn]
    exact bU (bT T ow (by omega)) m (max n m) (by omega) hm
   |exit id=>
    refine db (n:=n+1) ?_
    simp only [bE]
    rw [bU (bT T ow (by omega)) n n (by omega) hn]
    exact h
   |ret=>
    refine db (n:=n+1) ?_
    simp only [bE]
    rw [bU (bT T ow (by omega)) n n (by omega) hn]
    exact h
theorem it (g:gY) (c:ae) (st:St):gr T ow (.ghost g c) st=(match bN st g with
 |some st'=>gr T ow c st'
 |none=>none):=by
 refine rf (fun r h=> ?_) (fun r h=> ?_)
 ·obtain ⟨n,hn⟩:=gF h
  cases n with
  |zero=>simp [bE] at hn
  |succ n=>
   simp only [bE] at hn
   split at hn
   ·rename_i st' hg;simp only [hg];exact db (bU (fun _ _ _ _ h=>h) n (n+1) (by omega) hn)
   ·cases hn
 ·split at h
  ·rename_i st' hg
   obtain ⟨n,hn⟩:=gF h
   refine db (n:=n+1) ?_
   simp only [bE,hg]
   exact bU (bT T ow (by omega)) n n (by omega) hn
  ·cases h
theorem a1y (f:FuncId) (a:List V) (b:List Blk):Call T ow f a b=(match T f with
 |none=>none
 |some (.code af)=>W2 af (kM af b.length (gr T ow af.body (start a b)))
 |some (.ext g)=>g a b):=by
 refine rf (fun r h=> ?_) (fun r h=> ?_)
 ·obtain ⟨n,hn⟩:=Lk h
  cases n with
  |zero=>simp [cJ] at hn
  |succ n=>
   simp only [cJ] at hn
   split at hn
   ·cases hn
   rotate_left
   ·rename_i g hg;simp only [hg];exact hn
   ·rename_i af haf
    cases he:bE (cJ T ow n) ow n af.body (start a b) with
    |none=>rw [he] at hn;simp [kM,W2] at hn
    |some p=>simp only [haf];rw [db he];rw [he] at hn;exact hn
 ·split at h
  ·cases h
  rotate_left
  ·rename_i g hg
   refine UG (n:=1) ?_
   simp only [cJ,hg]
   exact h
  ·rename_i af haf
   cases he:gr T ow af.body (start a b) with
   |none=>rw [he] at h;simp [kM,W2] at h
   |some p=>
    obtain ⟨n,hn⟩:=gF he
    refine UG (n:=n+1) ?_
    simp only [cJ,haf]
    rw [hn]
    rw [he] at h
    exact h
end
end Go.AI
