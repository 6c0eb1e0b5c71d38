/- Runs told from the front: a list of what is still to be done, and what stands at its end. -/
import Derived.Test.YtdmhkkcihecndaaGreatAiLim
set_option linter.unusedVariables false
set_option linter.unusedSimpArgs false
namespace Go.AI
def br {α:Type} (c:Bool) (x y:α):α:=match c with
 |true=>x
 |false=>y
theorem aQ {α:Type} (x y:α):br true x y=x:=rfl
theorem aj {α:Type} (x y:α):br false x y=y:=rfl
theorem brg {α:Type} {c:Bool} {x:Option α} {r:α} (h:br c x none=some r):c=true∧x=some r:=by
 cases c
 ·cases h
 ·exact ⟨rfl,h⟩
theorem bd {α β:Type} {x:Option α} {g:α→Option β} {r:β} (h:x.bind g=some r): ∃a,x=some a∧g a=some r:=by
 cases x with
 |none=>cases h
 |some a=>exact ⟨a,rfl,h⟩
inductive Fr where
 |code (c:ag)
 |steps (n:Nat) (ss:List bi) (live:List Nat)
 |dr (base i:Nat) (ss:List bi) (deps:List (List Nat)) (live:List Nat) (rs:List Rec)
 |blk (id:Nat)
section
variable {R:Type}
noncomputable def qa (T:Tab) (ow:cY) (k:ai→St→Option R):List Fr→Option Nat→St→Option R
 |[],none,st=>k .normal st
 |[],some id,st=>k (.exit id) st
 | .blk id'::K,some id,st=>if id'=id then qa T ow k K none st else qa T ow k K (some id) st
 |_::K,some id,st=>qa T ow k K (some id) st
 | .blk _::K,none,st=>qa T ow k K none st
 | .code c::K,none,st=>match gc T ow c st with
   |some (.normal,st')=>qa T ow k K none st'
   |some (.exit id,st')=>qa T ow k K (some id) st'
   |some (.ret,st')=>k .ret st'
   |none=>none
 | .steps n ss live::K,none,st=>match gZ (Call T ow) ow ss n st with
   |some st'=>qa T ow k K none (trim live st')
   |none=>none
 | .dr base i ss deps live rs::K,none,st=>match hJ (Call T ow) ow base ss i st with
   |some (st',rs')=>br (pA deps (rs++rs'.filter Rec.loud)) (qa T ow k K none (trim live st')) none
   |none=>none
noncomputable def Rn (T:Tab) (ow:cY) (k:ai→St→Option R) (K:List Fr) (st:St):Option R:=qa T ow k K none st
noncomputable def Unw (T:Tab) (ow:cY) (k:ai→St→Option R) (id:Nat) (K:List Fr) (st:St):Option R:=qa T ow k K (some id) st
noncomputable def goR (T:Tab) (ow:cY) (k:ai→St→Option R) (K:List Fr):Option (ai×St)→Option R
 |some (.normal,st')=>Rn T ow k K st'
 |some (.exit id,st')=>Unw T ow k id K st'
 |some (.ret,st')=>k .ret st'
 |none=>none
variable {T:Tab} {ow:cY} {k:ai→St→Option R}
theorem cS (c:ag) (K:List Fr) (st:St):Rn T ow k (.code c::K) st=goR T ow k K (gc T ow c st):=by
 unfold Rn qa goR
 cases gc T ow c st with
 |none=>rfl
 |some p=>obtain ⟨e,st'⟩:=p;cases e<;>rfl
theorem a1h (K:List Fr) (st:St):Rn T ow k (.code .skip::K) st=Rn T ow k K st:=by rw [cS,XA];rfl
theorem a0y (id:Nat) (K:List Fr) (st:St):Rn T ow k (.code (.exit id)::K) st=Unw T ow k id K st:=by rw [cS,YO];rfl
theorem a2H (K:List Fr) (st:St):Rn T ow k (.code .ret::K) st=k .ret st:=by rw [cS,Z2];rfl
theorem a33 (a b:ag) (K:List Fr) (st:St):Rn T ow k (.code (.seq a b)::K) st=Rn T ow k (.code a:: .code b::K) st:=by
 rw [cS,L6,cS]
 cases gc T ow a st with
 |none=>rfl
 |some p=>
  obtain ⟨e,st'⟩:=p
  cases e with
  |normal=>simp only [goR];rw [cS];rfl
  |exit id=>rfl
  |ret=>rfl
theorem Xw (id:Nat) (c:ag) (K:List Fr) (st:St):Rn T ow k (.code (.block id c)::K) st=Rn T ow k (.code c:: .blk id::K) st:=by
 rw [cS,CF,cS]
 cases gc T ow c st with
 |none=>rfl
 |some p=>
  obtain ⟨e,st'⟩:=p
  cases e with
  |normal=>rfl
  |exit id'=>
   simp only [goR,Unw,Rn,qa]
   by_cases h:id'=id
   ·subst h;simp
   ·rw [if_neg h,if_neg (fun e=>h e.symm)]
  |ret=>rfl
noncomputable def a3S (T:Tab) (ow:cY) (k:ai→St→Option R) (a b:ag) (K:List Fr) (st:St):V→Option R
 | .lit (.bool c)=>br c (Rn T ow k (.code a::K) st) (Rn T ow k (.code b::K) st)
 |_=>none
theorem a1u (c:Opd) (a b:ag) (K:List Fr) (st:St):Rn T ow k (.code (.cond c a b)::K) st=a3S T ow k a b K st (st.ev c):=by
 rw [cS,YB]
 unfold a3S
 split
 ·rename_i h;rw [h];exact (cS _ _ _).symm
 ·rename_i h;rw [h];exact (cS _ _ _).symm
 ·rename_i h1 h2
  split
  ·rename_i c' h;cases c'
   ·exact absurd h h2
   ·exact absurd h h1
  ·rfl
noncomputable def ghR (T:Tab) (ow:cY) (k:ai→St→Option R) (c:ag) (K:List Fr):Option St→Option R
 |some st'=>Rn T ow k (.code c::K) st'
 |none=>none
theorem YJ (g:kf) (c:ag) (K:List Fr) (st:St):Rn T ow k (.code (.ghost g c)::K) st=ghR T ow k c K (ca st g):=by
 rw [cS,ii]
 cases ca st g with
 |none=>rfl
 |some st'=>simp only [ghR];rw [cS]
theorem Us (n:Nat) (ss:List bi) (live:List Nat) (K:List Fr) (st:St):Rn T ow k (.code (.region n ss live)::K) st=Rn T ow k (.steps n ss live::K) st:=by
 rw [cS,SI]
 unfold nG
 simp only [Rn,qa]
 cases gZ (Call T ow) ow ss n st<;>rfl
theorem Yh (n:Nat) (ss:List bi) (deps:List (List Nat)) (live:List Nat) (K:List Fr) (st:St):Rn T ow k (.code (.drawn n ss deps live)::K) st=Rn T ow k (.dr n 0 ss deps live []::K) st:=by
 rw [cS,VP]
 unfold uC
 simp only [Rn,qa]
 cases hJ (Call T ow) ow n ss 0 st with
 |none=>rfl
 |some p=>
  obtain ⟨st',rs⟩:=p
  simp only [List.nil_append]
  cases pA deps (rs.filter Rec.loud)<;>rfl
noncomputable def aft (T:Tab) (ow:cY) (k:ai→St→Option R) (d:Option Nat) (n:Nat) (ss:List bi) (live:List Nat) (K:List Fr) (st:St):Option (V×Upd)→Option R
 |some (v,u)=>Rn T ow k (.steps (n+1) ss live::K) ((st.upd u).put d v)
 |none=>none
variable {d:Option Nat} {n:Nat} {ss:List bi} {live:List Nat} {K:List Fr} {st:St}
theorem Y8 (op:AOp):Rn T ow k (.steps n (⟨d,op,none⟩::ss) live::K) st=aft T ow k d n ss live K st (an (Call T ow) ow op st.ev st.heap n):=by
 unfold aft
 simp only [Rn,qa,gZ,vp,St.want]
 cases an (Call T ow) ow op st.ev st.heap n with
 |none=>rfl
 |some p=>obtain ⟨v,u⟩:=p;rfl
theorem a5e (c:Bool) (x y:Option (V×Upd)):aft T ow k d n ss live K st (br c x y)=br c (aft T ow k d n ss live K st x) (aft T ow k d n ss live K st y):=by cases c<;>rfl
theorem a04 {α:Type} (x:Option α) (f:α→Option (V×Upd)):aft T ow k d n ss live K st (x.bind f)=x.bind (fun a=>aft T ow k d n ss live K st (f a)):=by cases x<;>rfl
noncomputable def gd (T:Tab) (ow:cY) (k:ai→St→Option R) (t:Nat) (b:Bool) (d:Option Nat) (op:AOp) (n:Nat) (ss:List bi) (live:List Nat) (K:List Fr) (st:St):V→Option R
 | .lit (.bool c)=>br (c==b) (Rn T ow k (.steps n (⟨d,op,none⟩::ss) live::K) { st with e:=iV t (.lit (.bool c)) st.e })
  (Rn T ow k (.steps (n+1) ss live::K) ({ st with e:=iV t (.lit (.bool c)) st.e }.put d (.lit (.tuple #[]))))
 | .lit (.tuple _)=>Rn T ow k (.steps (n+1) ss live::K) (st.put d (.lit (.tuple #[])))
 |_=>none
theorem Ou {α:Type}: ∀{l:List (Nat×α)} {t:Nat} {v:α},dg l t=some v→iV t v l=l
 |[],_,_,h=>by simp [dg] at h
 | (j,u)::r,t,v,h=>by
   simp only [dg] at h
   simp only [iV]
   split at h
   ·rename_i e;cases h;subst e;simp
   ·rename_i e;rw [if_neg e,Ou h]
theorem a0p {v:V} {t:Nat} (h:st.get t=v) (hv:v≠ .undef):({ st with e:=iV t v st.e }:St)=st:=by
 unfold St.get at h
 cases ha:dg st.e t with
 |none=>rw [ha] at h;exact absurd h.symm hv
 |some u=>
  rw [ha] at h;cases h
  show ({ st with e:=iV t u st.e }:St)=st
  rw [Ou ha]
theorem XZ (t:Nat) (b:Bool) (op:AOp):Rn T ow k (.steps n (⟨d,op,some (t,b)⟩::ss) live::K) st=gd T ow k t b d op n ss live K st (st.get t):=by
 cases hg:st.get t with
 |lit v=>
  cases v with
  |bool c=>
   simp only [gd]
   rw [a0p hg (by simp)]
   simp only [Rn,qa,gZ,vp,St.want,hg]
   cases hcb:(c==b)
   ·simp [aj,hcb]
   ·simp [aQ,hcb]
  |tuple xs=>simp only [gd];simp only [Rn,qa,gZ,vp,St.want,hg]
  |_=>simp only [gd];simp only [Rn,qa,gZ,vp,St.want,hg]
 |_=>simp only [gd];simp only [Rn,qa,gZ,vp,St.want,hg]
theorem a2e (t:Nat) (op:AOp) (c:Bool):gd T ow k t true d op n ss live K st (.lit (.bool c))=
 br c (Rn T ow k (.steps n (⟨d,op,none⟩::ss) live::K) { st with e:=iV t (.lit (.bool true)) st.e })
  (Rn T ow k (.steps (n+1) ss live::K) ({ st with e:=iV t (.lit (.bool false)) st.e }.put d (.lit (.tuple #[])))):=by cases c<;>rfl
theorem a0C (t:Nat) (op:AOp) (c:Bool):gd T ow k t false d op n ss live K st (.lit (.bool c))=
 br c (Rn T ow k (.steps (n+1) ss live::K) ({ st with e:=iV t (.lit (.bool true)) st.e }.put d (.lit (.tuple #[]))))
  (Rn T ow k (.steps n (⟨d,op,none⟩::ss) live::K) { st with e:=iV t (.lit (.bool false)) st.e }):=by cases c<;>rfl
variable {base i:Nat} {deps:List (List Nat)} {rs:List Rec} {fp:List Nat}
def a2z (rs:List Rec) (i:Nat) (fp wr:List Nat):List Rec:=rs++[Rec.mk i fp wr].filter Rec.loud
theorem Vi:Rn T ow k (.dr base i [] deps live rs::K) st=br (pA deps rs) (Rn T ow k K (trim live st)) none:=by
 simp only [Rn,qa,hJ,List.filter_nil,List.append_nil]
noncomputable def Qp (T:Tab) (ow:cY) (k:ai→St→Option R) (d:Option Nat) (base i:Nat) (ss:List bi) (deps:List (List Nat)) (live:List Nat) (rs:List Rec) (K:List Fr) (st:St) (fp:List Nat):Option (V×Upd)→Option R
 |some (v,u)=>br ((u.map (·.1)).all (fun b=>b==(base+i)||b∈fp)&&(!(u.map (·.1)).contains (base+i)||(st.heap (base+i)).isNone))
  (Rn T ow k (.dr base (i+1) ss deps live (a2z rs i fp (u.map (·.1)))::K) ((st.upd u).put d v)) none
 |none=>none
theorem a4V (op:AOp):Rn T ow k (.dr base i (⟨d,op,none⟩::ss) deps live rs::K) st=
 Qp T ow k d base i ss deps live rs K st (NP ow op st.ev st.heap) (an (Call T ow) ow op st.ev (mz st.heap (NP ow op st.ev st.heap)) (base+i)):=by
 unfold Qp
 simp only [Rn,qa,hJ,xG,St.want]
 cases ho:an (Call T ow) ow op st.ev (mz st.heap (NP ow op st.ev st.heap)) (base+i) with
 |none=>rfl
 |some p=>
  obtain ⟨v,u⟩:=p
  dsimp only
  by_cases hc:((u.map (·.1)).all (fun b=>b==(base+i)||b∈NP ow op st.ev st.heap)&&(!(u.map (·.1)).contains (base+i)||(st.heap (base+i)).isNone))=true
  ·rw [hc,aQ,if_pos rfl]
   dsimp only
   cases hJ (Call T ow) ow base ss (i+1) ((st.upd u).put d v) with
   |none=>rfl
   |some q=>
    obtain ⟨st2,rs2⟩:=q
    simp only [a2z,List.filter_cons,List.filter_nil,List.append_assoc]
    cases Rec.loud ⟨i,NP ow op st.ev st.heap,u.map (·.1)⟩<;>rfl
  ·rw [Bool.not_eq_true] at hc
   rw [hc,aj,if_neg (by decide)]
theorem a1J (c:Bool) (x y:Option (V×Upd)):Qp T ow k d base i ss deps live rs K st fp (br c x y)=br c (Qp T ow k d base i ss deps live rs K st fp x) (Qp T ow k d base i ss deps live rs K st fp y):=by cases c<;>rfl
theorem Xt {α:Type} (x:Option α) (f:α→Option (V×Upd)):Qp T ow k d base i ss deps live rs K st fp (x.bind f)=x.bind (fun a=>Qp T ow k d base i ss deps live rs K st fp (f a)):=by cases x<;>rfl
noncomputable def gdD (T:Tab) (ow:cY) (k:ai→St→Option R) (t:Nat) (b:Bool) (d:Option Nat) (op:AOp) (base i:Nat) (ss:List bi) (deps:List (List Nat)) (live:List Nat) (rs:List Rec) (K:List Fr) (st:St):V→Option R
 | .lit (.bool c)=>br (c==b) (Rn T ow k (.dr base i (⟨d,op,none⟩::ss) deps live rs::K) { st with e:=iV t (.lit (.bool c)) st.e })
  (Rn T ow k (.dr base (i+1) ss deps live rs::K) ({ st with e:=iV t (.lit (.bool c)) st.e }.put d (.lit (.tuple #[]))))
 | .lit (.tuple _)=>Rn T ow k (.dr base (i+1) ss deps live rs::K) (st.put d (.lit (.tuple #[])))
 |_=>none
end
def W1 (af:ah) (m:Nat) (x:ai) (st:St):Option (V×List Blk):=Su af (kh af m (some (x,st)))
theorem ab {T:Tab} {ow:cY} {f:FuncId} {af:ah} (hT:T f=some (.code af)) (a:List V) (b:List Blk):Call T ow f a b=Rn T ow (W1 af b.length) [.code af.body] (start a b):=by
 rw [Wl,hT]
 dsimp only
 rw [cS]
 cases gc T ow af.body (start a b) with
 |none=>rfl
 |some p=>obtain ⟨e,st⟩:=p;cases e<;>rfl
def CQ {S E:Type} (step:S→Option (S⊕E)):Nat→S→Option E
 |0,_=>none
 |n+1,s=>match step s with
  |none=>none
  |some (.inl s')=>CQ step n s'
  |some (.inr e)=>some e
theorem NV {S E:Type} {step:S→Option (S⊕E)}: ∀{n:Nat} {s:S} {e:E},CQ step n s=some e→CQ step (n+1) s=some e
 |0,_,_,h=>by cases h
 |n+1,s,e,h=>by
  simp only [CQ] at h ⊢
  split at h
  ·cases h
  ·rename_i s' hs;exact NV h
  ·rename_i e' hs;exact h
theorem a3E {S E:Type} {step:S→Option (S⊕E)} {n m:Nat} (hnm:n≤m) {s:S} {e:E} (h:CQ step n s=some e):CQ step m s=some e:=by
 induction hnm with
 |refl=>exact h
 |step _ ih=>exact NV ih
noncomputable def Loop {S E:Type} (step:S→Option (S⊕E)) (s:S):Option E:=lim (fun n=>CQ step n s)
theorem Jm {S E:Type} {step:S→Option (S⊕E)} {s:S} {e:E} (h:Loop step s=some e): ∃n,CQ step n s=some e:=Lw h
theorem R5 {S E:Type} {step:S→Option (S⊕E)} {n:Nat} {s:S} {e:E} (h:CQ step n s=some e):Loop step s=some e:=
 Uv (g:=fun n=>CQ step n s) (fun _ _ _ hnm h=>a3E hnm h) h
def a7p {S E:Type} (lp:S→Option E):Option (S⊕E)→Option E
 |none=>none
 |some (.inl s')=>lp s'
 |some (.inr e)=>some e
theorem PG {S E:Type} (step:S→Option (S⊕E)) (s:S):Loop step s=a7p (Loop step) (step s):=by
 refine py (fun r h=> ?_) (fun r h=> ?_)
 ·obtain ⟨n,hn⟩:=Jm h
  cases n with
  |zero=>cases hn
  |succ n=>
   simp only [CQ] at hn
   split at hn
   ·cases hn
   ·rename_i s' hs;rw [hs];exact R5 hn
   ·rename_i e' hs;rw [hs];exact hn
 ·cases hs:step s with
  |none=>rw [hs] at h;cases h
  |some o=>
   rw [hs] at h
   cases o with
   |inl s'=>
    obtain ⟨n,hn⟩:=Jm (show Loop step s'=some r from h)
    exact R5 (n:=n+1) (by simp only [CQ,hs];exact hn)
   |inr e=>exact R5 (n:=1) (by simp only [CQ,hs];exact h)
def a7u (x:ai) (st:St):Option (ai×St):=some (x,st)
theorem Zh {T:Tab} {ow:cY} (c:ag) (st:St):gc T ow c st=Rn T ow a7u [.code c] st:=by
 rw [cS]
 cases gc T ow c st with
 |none=>rfl
 |some p=>obtain ⟨e,st⟩:=p;cases e<;>rfl
theorem a6v {T:Tab} {ow:cY} {S E:Type} {c:ag} {step:S→Option (S⊕E)} {eS:S→St} {eE:E→ai×St} (hne: ∀e,(eE e).1≠ .normal)
 (hb: ∀s o,step s=some o→Rn T ow a7u [.code c] (eS s)=some (match o with
  | .inl s'=>(.normal,eS s')
  | .inr e=>eE e)) {s:S} {e:E} (h:Loop step s=some e):gc T ow (.loop c) (eS s)=some (eE e):=by
 obtain ⟨n,hn⟩:=Jm h
 clear h
 induction n generalizing s with
 |zero=>cases hn
 |succ n ih=>
  simp only [CQ] at hn
  rw [Od,Zh]
  split at hn
  ·cases hn
  ·rename_i s' hs
   rw [hb s _ hs]
   exact ih hn
  ·rename_i e' hs
   rw [hb s _ hs]
   cases hn
   dsimp only
   have:=hne e
   revert this
   generalize eE e=p
   obtain ⟨x,st⟩:=p
   intro this
   cases x with
   |normal=>exact absurd rfl this
   |exit id=>rfl
   |ret=>rfl
def aT (g:kf):ag→ag
 | .seq a b=> .seq (aT g a) b
 | .block id a=> .block id (aT g a)
 |c=> .ghost g c
section
variable {R:Type} {T:Tab} {ow:cY} {k:ai→St→Option R}
def ghE (T:Tab) (ow:cY) (c:ag):Option St→Option (ai×St)→Option (ai×St)
 |some _,r=>r
 |none,_=>none
theorem Gp (g:kf): ∀(c:ag) (st:St),gc T ow (aT g c) st=(match ca st g with
 |some st'=>gc T ow c st'
 |none=>none)
 | .seq a b,st=>by
   simp only [aT]
   rw [L6,Gp g a st]
   cases ca st g with
   |none=>rfl
   |some st'=>dsimp only;rw [L6]
 | .block id a,st=>by
   simp only [aT]
   rw [CF,Gp g a st]
   cases ca st g with
   |none=>rfl
   |some st'=>dsimp only;rw [CF]
 | .skip,st=>ii _ _ _
 | .region _ _ _,st=>ii _ _ _
 | .drawn _ _ _ _,st=>ii _ _ _
 | .cond _ _ _,st=>ii _ _ _
 | .loop _,st=>ii _ _ _
 | .exit _,st=>ii _ _ _
 | .ret,st=>ii _ _ _
 | .ghost _ _,st=>ii _ _ _
noncomputable def aD (T:Tab) (ow:cY) (g:kf) (c:ag) (st:St):Option (ai×St):=match gc T ow c st with
 |some (.normal,st')=>gc T ow (.loop (aT g c)) st'
 |r=>r
noncomputable def goL (T:Tab) (ow:cY) (k:ai→St→Option R) (K:List Fr) (g:kf) (c:ag):Option St→Option R
 |some st'=>goR T ow k K (aD T ow g c st')
 |none=>none
theorem JY (g:kf) (c:ag) (st:St):gc T ow (.loop (aT g c)) st=(match ca st g with
 |some st'=>aD T ow g c st'
 |none=>none):=by
 rw [Od,Gp]
 cases ca st g<;>rfl
theorem Yp (g:kf) (c:ag) (K:List Fr) (st:St):Rn T ow k (.code (.loop (aT g c))::K) st=goL T ow k K g c (ca st g):=by
 rw [cS,JY]
 cases ca st g<;>rfl
def ogM:Option St→Option (ai×St)
 |some st=>some (.normal,st)
 |none=>none
def XS (g:kf):ai→St→Option (ai×St)
 | .normal,st=>ogM (ca st g)
 |x,st=>some (x,st)
theorem Yg {S E:Type} {g:kf} {c:ag} {step:S→Option (S⊕E)} {eS:S→St} {eE:E→ai×St} (hne: ∀e,(eE e).1≠ .normal)
 (hb: ∀s o,step s=some o→Rn T ow (XS g) [.code c] (eS s)=some (match o with
  | .inl s'=>(.normal,eS s')
  | .inr e=>eE e)) {s:S} {e:E} (h:Loop step s=some e):aD T ow g c (eS s)=some (eE e):=by
 obtain ⟨n,hn⟩:=Jm h
 clear h
 induction n generalizing s with
 |zero=>cases hn
 |succ n ih=>
  simp only [CQ] at hn
  unfold aD
  split at hn
  ·cases hn
  ·rename_i s' hs
   have h1:=hb s _ hs
   rw [cS] at h1
   cases hx:gc T ow c (eS s) with
   |none=>rw [hx] at h1;cases h1
   |some p=>
    obtain ⟨x,st'⟩:=p
    rw [hx] at h1
    cases x with
    |normal=>
     dsimp only
     rw [JY]
     simp only [goR,Rn,qa,XS,ogM] at h1
     cases hg:ca st' g with
     |none=>rw [hg] at h1;cases h1
     |some st2=>rw [hg] at h1;cases h1;exact ih hn
    |exit id=>simp [goR,Unw,qa,XS] at h1
    |ret=>simp [goR,XS] at h1
  ·rename_i e' hs
   have h1:=hb s _ hs
   cases hn
   have hn2:=hne e
   rw [cS] at h1
   dsimp only at h1
   revert h1 hn2
   generalize eE e=q
   intro h1 hn2
   cases hx:gc T ow c (eS s) with
   |none=>rw [hx] at h1;cases h1
   |some p=>
    obtain ⟨x,st'⟩:=p
    rw [hx] at h1
    cases x with
    |normal=>
     simp only [goR,Rn,qa,XS,ogM] at h1
     cases hg:ca st' g with
     |none=>rw [hg] at h1;cases h1
     |some st2=>rw [hg] at h1;cases h1;exact absurd rfl hn2
    |exit id=>exact h1
    |ret=>exact h1
variable {d:Option Nat} {n:Nat} {ss:List bi} {live:List Nat} {K:List Fr} {st:St} {base i:Nat} {deps:List (List Nat)} {rs:List Rec} {fp:List Nat} {r:R}
theorem a66 {x:Option (ai×St)} {p:ai×St} (h:x=some p) (hr:goR T ow k K (some p)=some r):goR T ow k K x=some r:=by rw [h];exact hr
theorem bind_some {α β:Type} {x:Option α} {a:α} {F:α→Option β} {r:β} (h:x=some a) (hr:F a=some r):x.bind F=some r:=by rw [h];exact hr
end
end Go.AI
