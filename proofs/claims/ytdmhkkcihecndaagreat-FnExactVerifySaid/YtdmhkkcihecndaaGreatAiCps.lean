/- Runs told from the front: a list of what is still to be done, and what stands at its end. -/
import Derived.Test.YtdmhkkcihecndaaGreatAiLim
set_option linter.unusedVariables false
set_option linter.unusedSimpArgs false
namespace Go.AI
def br {α:Type} (c:Bool) (x y:α):α:=match c with
 |true=>x
 |false=>y
theorem bz {α:Type} (x y:α):br true x y=x:=rfl
theorem an {α:Type} (x y:α):br false x y=y:=rfl
theorem DE {α:Type} {c:Bool} {x y r:α} (h:c=true) (hx:x=r):br c x y=r:=by subst h;exact hx
theorem a2O {α:Type} {c:Bool} {x y r:α} (h:c=false) (hy:y=r):br c x y=r:=by subst h;exact hy
theorem brc {α:Type} {c:Bool} {x y r:α} (h:br c x y=r):(c=true∧x=r)∨(c=false∧y=r):=by
 cases c
 ·exact .inr ⟨rfl,h⟩
 ·exact .inl ⟨rfl,h⟩
theorem brg {α:Type} {c:Bool} {x:Option α} {r:α} (h:br c x none=some r):c=true∧x=some r:=by
 cases c
 ·cases h
 ·exact ⟨rfl,h⟩
theorem bd {α β:Type} {x:Option α} {g:α→Option β} {r:β} (h:x.bind g=some r): ∃a,x=some a∧g a=some r:=by
 cases x with
 |none=>cases h
 |some a=>exact ⟨a,rfl,h⟩
inductive Fr where
 |code (c:ae)
 |steps (n:Nat) (ss:List aY) (live:List Nat)
 |dr (base i:Nat) (ss:List aY) (deps:List (List Nat)) (live:List Nat) (rs:List Rec)
 |blk (id:Nat)
section
variable {R:Type}
noncomputable def nf (T:Tab) (ow:dl) (k:ah→St→Option R):List Fr→Option Nat→St→Option R
 |[],none,st=>k .normal st
 |[],some id,st=>k (.exit id) st
 | .blk id'::K,some id,st=>if id'=id then nf T ow k K none st else nf T ow k K (some id) st
 |_::K,some id,st=>nf T ow k K (some id) st
 | .blk _::K,none,st=>nf T ow k K none st
 | .code c::K,none,st=>match fM T ow c st with
   |some (.normal,st')=>nf T ow k K none st'
   |some (.exit id,st')=>nf T ow k K (some id) st'
   |some (.ret,st')=>k .ret st'
   |none=>none
 | .steps n ss live::K,none,st=>match hG (Call T ow) ow ss n st with
   |some st'=>nf T ow k K none (trim live st')
   |none=>none
 | .dr base i ss deps live rs::K,none,st=>match fm (Call T ow) ow base ss i st with
   |some (st',rs')=>br (kK deps (rs++rs'.filter Rec.loud)) (nf T ow k K none (trim live st')) none
   |none=>none
noncomputable def Rn (T:Tab) (ow:dl) (k:ah→St→Option R) (K:List Fr) (st:St):Option R:=nf T ow k K none st
noncomputable def Unw (T:Tab) (ow:dl) (k:ah→St→Option R) (id:Nat) (K:List Fr) (st:St):Option R:=nf T ow k K (some id) st
noncomputable def goR (T:Tab) (ow:dl) (k:ah→St→Option R) (K:List Fr):Option (ah×St)→Option R
 |some (.normal,st')=>Rn T ow k K st'
 |some (.exit id,st')=>Unw T ow k id K st'
 |some (.ret,st')=>k .ret st'
 |none=>none
variable {T:Tab} {ow:dl} {k:ah→St→Option R}
theorem cL (c:ae) (K:List Fr) (st:St):Rn T ow k (.code c::K) st=goR T ow k K (fM T ow c st):=by
 unfold Rn nf goR
 cases fM T ow c st with
 |none=>rfl
 |some p=>obtain ⟨e,st'⟩:=p;cases e<;>rfl
theorem b0n (st:St):Rn T ow k [] st=k .normal st:=rfl
theorem a9S (id:Nat) (K:List Fr) (st:St):Rn T ow k (.blk id::K) st=Rn T ow k K st:=rfl
theorem a4L (K:List Fr) (st:St):Rn T ow k (.code .skip::K) st=Rn T ow k K st:=by rw [cL,a2g];rfl
theorem a4Y (id:Nat) (K:List Fr) (st:St):Rn T ow k (.code (.exit id)::K) st=Unw T ow k id K st:=by rw [cL,a1F];rfl
theorem a99 (K:List Fr) (st:St):Rn T ow k (.code .ret::K) st=k .ret st:=by rw [cL,a5y];rfl
theorem b0I (a b:ae) (K:List Fr) (st:St):Rn T ow k (.code (.seq a b)::K) st=Rn T ow k (.code a:: .code b::K) st:=by
 rw [cL,KR,cL]
 cases fM T ow a st with
 |none=>rfl
 |some p=>
  obtain ⟨e,st'⟩:=p
  cases e with
  |normal=>simp only [goR];rw [cL];rfl
  |exit id=>rfl
  |ret=>rfl
theorem a3l (id:Nat) (c:ae) (K:List Fr) (st:St):Rn T ow k (.code (.block id c)::K) st=Rn T ow k (.code c:: .blk id::K) st:=by
 rw [cL,Dp,cL]
 cases fM T ow c st with
 |none=>rfl
 |some p=>
  obtain ⟨e,st'⟩:=p
  cases e with
  |normal=>rfl
  |exit id'=>
   simp only [goR,Unw,Rn,nf]
   by_cases h:id'=id
   ·subst h;simp
   ·rw [if_neg h,if_neg (fun e=>h e.symm)]
  |ret=>rfl
noncomputable def a7y (T:Tab) (ow:dl) (k:ah→St→Option R) (a b:ae) (K:List Fr) (st:St):V→Option R
 | .lit (.bool c)=>br c (Rn T ow k (.code a::K) st) (Rn T ow k (.code b::K) st)
 |_=>none
theorem a3L (c:Opd) (a b:ae) (K:List Fr) (st:St):Rn T ow k (.code (.cond c a b)::K) st=a7y T ow k a b K st (st.ev c):=by
 rw [cL,a1j]
 unfold a7y
 split
 ·rename_i h;rw [h];exact (cL _ _ _).symm
 ·rename_i h;rw [h];exact (cL _ _ _).symm
 ·rename_i h1 h2
  split
  ·rename_i c' h;cases c'
   ·exact absurd h h2
   ·exact absurd h h1
  ·rfl
theorem Xw (a b:ae) (K:List Fr) (st:St) (c:Bool):a7y T ow k a b K st (.lit (.bool c))=br c (Rn T ow k (.code a::K) st) (Rn T ow k (.code b::K) st):=rfl
noncomputable def ghR (T:Tab) (ow:dl) (k:ah→St→Option R) (c:ae) (K:List Fr):Option St→Option R
 |some st'=>Rn T ow k (.code c::K) st'
 |none=>none
theorem a28 (g:fO) (c:ae) (K:List Fr) (st:St):Rn T ow k (.code (.ghost g c)::K) st=ghR T ow k c K (bB st g):=by
 rw [cL,hI]
 cases bB st g with
 |none=>rfl
 |some st'=>simp only [ghR];rw [cL]
theorem a4m (c:ae) (K:List Fr) (st:St):ghR T ow k c K (some st)=Rn T ow k (.code c::K) st:=rfl
theorem Yp (K:List Fr) (st:St):goR T ow k K (some (.normal,st))=Rn T ow k K st:=rfl
theorem a6Z (id:Nat) (K:List Fr) (st:St):goR T ow k K (some (.exit id,st))=Unw T ow k id K st:=rfl
theorem a8i (K:List Fr) (st:St):goR T ow k K (some (.ret,st))=k .ret st:=rfl
theorem a81 (id:Nat) (st:St):Unw T ow k id [] st=k (.exit id) st:=rfl
theorem a7i (id:Nat) (c:ae) (K:List Fr) (st:St):Unw T ow k id (.code c::K) st=Unw T ow k id K st:=rfl
theorem a9N (id id':Nat) (K:List Fr) (st:St):Unw T ow k id (.blk id'::K) st=if id'=id then Rn T ow k K st else Unw T ow k id K st:=rfl
theorem Yd (n:Nat) (ss:List aY) (live:List Nat) (K:List Fr) (st:St):Rn T ow k (.code (.region n ss live)::K) st=Rn T ow k (.steps n ss live::K) st:=by
 rw [cL,VU]
 unfold nO
 simp only [Rn,nf]
 cases hG (Call T ow) ow ss n st<;>rfl
theorem a2S (n:Nat) (ss:List aY) (deps:List (List Nat)) (live:List Nat) (K:List Fr) (st:St):Rn T ow k (.code (.drawn n ss deps live)::K) st=Rn T ow k (.dr n 0 ss deps live []::K) st:=by
 rw [cL,Xn]
 unfold uS
 simp only [Rn,nf]
 cases fm (Call T ow) ow n ss 0 st with
 |none=>rfl
 |some p=>
  obtain ⟨st',rs⟩:=p
  simp only [List.nil_append]
  cases kK deps (rs.filter Rec.loud)<;>rfl
theorem NX (n:Nat) (live:List Nat) (K:List Fr) (st:St):Rn T ow k (.steps n [] live::K) st=Rn T ow k K (trim live st):=rfl
noncomputable def aft (T:Tab) (ow:dl) (k:ah→St→Option R) (d:Option Nat) (n:Nat) (ss:List aY) (live:List Nat) (K:List Fr) (st:St):Option (V×Upd)→Option R
 |some (v,u)=>Rn T ow k (.steps (n+1) ss live::K) ((st.upd u).put d v)
 |none=>none
variable {d:Option Nat} {n:Nat} {ss:List aY} {live:List Nat} {K:List Fr} {st:St}
theorem a2W (op:AOp):Rn T ow k (.steps n (⟨d,op,none⟩::ss) live::K) st=aft T ow k d n ss live K st (ai (Call T ow) ow op st.ev st.heap n):=by
 unfold aft
 simp only [Rn,nf,hG,wL,St.want]
 cases ai (Call T ow) ow op st.ev st.heap n with
 |none=>rfl
 |some p=>obtain ⟨v,u⟩:=p;rfl
theorem a6V (v:V) (u:Upd):aft T ow k d n ss live K st (some (v,u))=Rn T ow k (.steps (n+1) ss live::K) ((st.upd u).put d v):=rfl
theorem a53:aft T ow k d n ss live K st none=none:=rfl
theorem b2N (c:Bool) (x y:Option (V×Upd)):aft T ow k d n ss live K st (br c x y)=br c (aft T ow k d n ss live K st x) (aft T ow k d n ss live K st y):=by cases c<;>rfl
theorem a5i {α:Type} (x:Option α) (f:α→Option (V×Upd)):aft T ow k d n ss live K st (x.bind f)=x.bind (fun a=>aft T ow k d n ss live K st (f a)):=by cases x<;>rfl
noncomputable def gd (T:Tab) (ow:dl) (k:ah→St→Option R) (t:Nat) (b:Bool) (d:Option Nat) (op:AOp) (n:Nat) (ss:List aY) (live:List Nat) (K:List Fr) (st:St):V→Option R
 | .lit (.bool c)=>br (c==b) (Rn T ow k (.steps n (⟨d,op,none⟩::ss) live::K) { st with e:=eU t (.lit (.bool c)) st.e })
  (Rn T ow k (.steps (n+1) ss live::K) ({ st with e:=eU t (.lit (.bool c)) st.e }.put d (.lit (.tuple #[]))))
 | .lit (.tuple _)=>Rn T ow k (.steps (n+1) ss live::K) (st.put d (.lit (.tuple #[])))
 |_=>none
theorem Qq {α:Type}: ∀{l:List (Nat×α)} {t:Nat} {v:α},dv l t=some v→eU t v l=l
 |[],_,_,h=>by simp [dv] at h
 | (j,u)::r,t,v,h=>by
   simp only [dv] at h
   simp only [eU]
   split at h
   ·rename_i e;cases h;subst e;simp
   ·rename_i e;rw [if_neg e,Qq h]
theorem W0 {v:V} {t:Nat} (h:st.get t=v) (hv:v≠ .undef):({ st with e:=eU t v st.e }:St)=st:=by
 unfold St.get at h
 cases ha:dv st.e t with
 |none=>rw [ha] at h;exact absurd h.symm hv
 |some u=>
  rw [ha] at h;cases h
  show ({ st with e:=eU t u st.e }:St)=st
  rw [Qq ha]
theorem a36 (t:Nat) (b:Bool) (op:AOp):Rn T ow k (.steps n (⟨d,op,some (t,b)⟩::ss) live::K) st=gd T ow k t b d op n ss live K st (st.get t):=by
 cases hg:st.get t with
 |lit v=>
  cases v with
  |bool c=>
   simp only [gd]
   rw [W0 hg (by simp)]
   simp only [Rn,nf,hG,wL,St.want,hg]
   cases hcb:(c==b)
   ·simp [an,hcb]
   ·simp [bz,hcb]
  |tuple xs=>simp only [gd];simp only [Rn,nf,hG,wL,St.want,hg]
  |_=>simp only [gd];simp only [Rn,nf,hG,wL,St.want,hg]
 |_=>simp only [gd];simp only [Rn,nf,hG,wL,St.want,hg]
theorem b0L (t:Nat) (op:AOp) (c:Bool):gd T ow k t true d op n ss live K st (.lit (.bool c))=
 br c (Rn T ow k (.steps n (⟨d,op,none⟩::ss) live::K) { st with e:=eU t (.lit (.bool true)) st.e })
  (Rn T ow k (.steps (n+1) ss live::K) ({ st with e:=eU t (.lit (.bool false)) st.e }.put d (.lit (.tuple #[])))):=by cases c<;>rfl
theorem a3S (t:Nat) (op:AOp) (c:Bool):gd T ow k t false d op n ss live K st (.lit (.bool c))=
 br c (Rn T ow k (.steps (n+1) ss live::K) ({ st with e:=eU t (.lit (.bool true)) st.e }.put d (.lit (.tuple #[]))))
  (Rn T ow k (.steps n (⟨d,op,none⟩::ss) live::K) { st with e:=eU t (.lit (.bool false)) st.e }):=by cases c<;>rfl
theorem a3A (t:Nat) (b:Bool) (op:AOp) (xs:Array Value):gd T ow k t b d op n ss live K st (.lit (.tuple xs))=Rn T ow k (.steps (n+1) ss live::K) (st.put d (.lit (.tuple #[]))):=rfl
variable {base i:Nat} {deps:List (List Nat)} {rs:List Rec} {fp:List Nat}
def a3b (rs:List Rec) (i:Nat) (fp wr:List Nat):List Rec:=rs++[Rec.mk i fp wr].filter Rec.loud
theorem XK:Rn T ow k (.dr base i [] deps live rs::K) st=br (kK deps rs) (Rn T ow k K (trim live st)) none:=by
 simp only [Rn,nf,fm,List.filter_nil,List.append_nil]
noncomputable def JD (T:Tab) (ow:dl) (k:ah→St→Option R) (d:Option Nat) (base i:Nat) (ss:List aY) (deps:List (List Nat)) (live:List Nat) (rs:List Rec) (K:List Fr) (st:St) (fp:List Nat):Option (V×Upd)→Option R
 |some (v,u)=>br ((u.map (·.1)).all (fun b=>b==(base+i)||b∈fp)&&(!(u.map (·.1)).contains (base+i)||(st.heap (base+i)).isNone))
  (Rn T ow k (.dr base (i+1) ss deps live (a3b rs i fp (u.map (·.1)))::K) ((st.upd u).put d v)) none
 |none=>none
theorem b3r (op:AOp):Rn T ow k (.dr base i (⟨d,op,none⟩::ss) deps live rs::K) st=
 JD T ow k d base i ss deps live rs K st (fh ow op st.ev st.heap) (ai (Call T ow) ow op st.ev (lT st.heap (fh ow op st.ev st.heap)) (base+i)):=by
 unfold JD
 simp only [Rn,nf,fm,tn,St.want]
 cases ho:ai (Call T ow) ow op st.ev (lT st.heap (fh ow op st.ev st.heap)) (base+i) with
 |none=>rfl
 |some p=>
  obtain ⟨v,u⟩:=p
  dsimp only
  by_cases hc:((u.map (·.1)).all (fun b=>b==(base+i)||b∈fh ow op st.ev st.heap)&&(!(u.map (·.1)).contains (base+i)||(st.heap (base+i)).isNone))=true
  ·rw [hc,bz,if_pos rfl]
   dsimp only
   cases fm (Call T ow) ow base ss (i+1) ((st.upd u).put d v) with
   |none=>rfl
   |some q=>
    obtain ⟨st2,rs2⟩:=q
    simp only [a3b,List.filter_cons,List.filter_nil,List.append_assoc]
    cases Rec.loud ⟨i,fh ow op st.ev st.heap,u.map (·.1)⟩<;>rfl
  ·rw [Bool.not_eq_true] at hc
   rw [hc,an,if_neg (by decide)]
theorem a29 (v:V) (u:Upd):JD T ow k d base i ss deps live rs K st fp (some (v,u))=br ((u.map (·.1)).all (fun b=>b==(base+i)||b∈fp)&&(!(u.map (·.1)).contains (base+i)||(st.heap (base+i)).isNone))
 (Rn T ow k (.dr base (i+1) ss deps live (a3b rs i fp (u.map (·.1)))::K) ((st.upd u).put d v)) none:=rfl
theorem Yt (v:V):JD T ow k d base i ss deps live rs K st fp (some (v,[]))=Rn T ow k (.dr base (i+1) ss deps live (a3b rs i fp [])::K) (st.put d v):=rfl
theorem a1g:JD T ow k d base i ss deps live rs K st fp none=none:=rfl
theorem a9g (c:Bool) (x y:Option (V×Upd)):JD T ow k d base i ss deps live rs K st fp (br c x y)=br c (JD T ow k d base i ss deps live rs K st fp x) (JD T ow k d base i ss deps live rs K st fp y):=by cases c<;>rfl
theorem a33 {α:Type} (x:Option α) (f:α→Option (V×Upd)):JD T ow k d base i ss deps live rs K st fp (x.bind f)=x.bind (fun a=>JD T ow k d base i ss deps live rs K st fp (f a)):=by cases x<;>rfl
noncomputable def gdD (T:Tab) (ow:dl) (k:ah→St→Option R) (t:Nat) (b:Bool) (d:Option Nat) (op:AOp) (base i:Nat) (ss:List aY) (deps:List (List Nat)) (live:List Nat) (rs:List Rec) (K:List Fr) (st:St):V→Option R
 | .lit (.bool c)=>br (c==b) (Rn T ow k (.dr base i (⟨d,op,none⟩::ss) deps live rs::K) { st with e:=eU t (.lit (.bool c)) st.e })
  (Rn T ow k (.dr base (i+1) ss deps live rs::K) ({ st with e:=eU t (.lit (.bool c)) st.e }.put d (.lit (.tuple #[]))))
 | .lit (.tuple _)=>Rn T ow k (.dr base (i+1) ss deps live rs::K) (st.put d (.lit (.tuple #[])))
 |_=>none
theorem ZK (op:AOp) (g:Nat×Bool) (h:st.want (some g)=some false):Rn T ow k (.dr base i (⟨d,op,some g⟩::ss) deps live rs::K) st=Rn T ow k (.dr base (i+1) ss deps live rs::K) (st.put d (.lit (.tuple #[]))):=by
 simp only [Rn,nf,fm,tn,h]
 cases fm (Call T ow) ow base ss (i+1) (st.put d (.lit (.tuple #[]))) with
 |none=>rfl
 |some q=>obtain ⟨st2,rs2⟩:=q;rfl
theorem b63 (op:AOp) (g:Nat×Bool) (h:st.want (some g)=some true):Rn T ow k (.dr base i (⟨d,op,some g⟩::ss) deps live rs::K) st=Rn T ow k (.dr base i (⟨d,op,none⟩::ss) deps live rs::K) st:=by
 have h2:st.want none=some true:=rfl
 simp only [Rn,nf,fm,tn,h,h2]
theorem a0v (op:AOp) (g:Nat×Bool) (h:st.want (some g)=none):Rn T ow k (.dr base i (⟨d,op,some g⟩::ss) deps live rs::K) st=none:=by
 simp only [Rn,nf,fm,tn,h]
theorem Rs (t:Nat) (b:Bool) (op:AOp):Rn T ow k (.dr base i (⟨d,op,some (t,b)⟩::ss) deps live rs::K) st=gdD T ow k t b d op base i ss deps live rs K st (st.get t):=by
 cases hg:st.get t with
 |lit v=>
  cases v with
  |bool c=>
   simp only [gdD]
   rw [W0 hg (by simp)]
   cases hcb:(c==b)
   ·rw [an];exact ZK op (t,b) (by simp [St.want,hg,hcb])
   ·rw [bz];exact b63 op (t,b) (by simp [St.want,hg,hcb])
  |tuple xs=>exact ZK op (t,b) (by simp [St.want,hg])
  |_=>exact a0v op (t,b) (by simp [St.want,hg])
 |_=>exact a0v op (t,b) (by simp [St.want,hg])
theorem a6t (t:Nat) (op:AOp) (c:Bool):gdD T ow k t true d op base i ss deps live rs K st (.lit (.bool c))=
 br c (Rn T ow k (.dr base i (⟨d,op,none⟩::ss) deps live rs::K) { st with e:=eU t (.lit (.bool true)) st.e })
  (Rn T ow k (.dr base (i+1) ss deps live rs::K) ({ st with e:=eU t (.lit (.bool false)) st.e }.put d (.lit (.tuple #[])))):=by cases c<;>rfl
theorem a2R (t:Nat) (op:AOp) (c:Bool):gdD T ow k t false d op base i ss deps live rs K st (.lit (.bool c))=
 br c (Rn T ow k (.dr base (i+1) ss deps live rs::K) ({ st with e:=eU t (.lit (.bool true)) st.e }.put d (.lit (.tuple #[]))))
  (Rn T ow k (.dr base i (⟨d,op,none⟩::ss) deps live rs::K) { st with e:=eU t (.lit (.bool false)) st.e }):=by cases c<;>rfl
theorem a1y (t:Nat) (b:Bool) (op:AOp) (xs:Array Value):gdD T ow k t b d op base i ss deps live rs K st (.lit (.tuple xs))=Rn T ow k (.dr base (i+1) ss deps live rs::K) (st.put d (.lit (.tuple #[]))):=rfl
end
def Z1 (af:ag) (m:Nat) (x:ah) (st:St):Option (V×List Blk):=UP af (jN af m (some (x,st)))
theorem aa {T:Tab} {ow:dl} {f:FuncId} {af:ag} (hT:T f=some (.code af)) (a:List V) (b:List Blk):Call T ow f a b=Rn T ow (Z1 af b.length) [.code af.body] (start a b):=by
 rw [a0s,hT]
 dsimp only
 rw [cL]
 cases fM T ow af.body (start a b) with
 |none=>rfl
 |some p=>obtain ⟨e,st⟩:=p;cases e<;>rfl
def DZ {S E:Type} (step:S→Option (S⊕E)):Nat→S→Option E
 |0,_=>none
 |n+1,s=>match step s with
  |none=>none
  |some (.inl s')=>DZ step n s'
  |some (.inr e)=>some e
theorem Qf {S E:Type} {step:S→Option (S⊕E)}: ∀{n:Nat} {s:S} {e:E},DZ step n s=some e→DZ step (n+1) s=some e
 |0,_,_,h=>by cases h
 |n+1,s,e,h=>by
  simp only [DZ] at h ⊢
  split at h
  ·cases h
  ·rename_i s' hs;exact Qf h
  ·rename_i e' hs;exact h
theorem a9o {S E:Type} {step:S→Option (S⊕E)} {n m:Nat} (hnm:n≤m) {s:S} {e:E} (h:DZ step n s=some e):DZ step m s=some e:=by
 induction hnm with
 |refl=>exact h
 |step _ ih=>exact Qf ih
noncomputable def Loop {S E:Type} (step:S→Option (S⊕E)) (s:S):Option E:=lim (fun n=>DZ step n s)
theorem JX {S E:Type} {step:S→Option (S⊕E)} {s:S} {e:E} (h:Loop step s=some e): ∃n,DZ step n s=some e:=YC h
theorem Sh {S E:Type} {step:S→Option (S⊕E)} {n:Nat} {s:S} {e:E} (h:DZ step n s=some e):Loop step s=some e:=
 Z4 (g:=fun n=>DZ step n s) (fun _ _ _ hnm h=>a9o hnm h) h
def b5g {S E:Type} (lp:S→Option E):Option (S⊕E)→Option E
 |none=>none
 |some (.inl s')=>lp s'
 |some (.inr e)=>some e
theorem Sb {S E:Type} (step:S→Option (S⊕E)) (s:S):Loop step s=b5g (Loop step) (step s):=by
 refine rd (fun r h=> ?_) (fun r h=> ?_)
 ·obtain ⟨n,hn⟩:=JX h
  cases n with
  |zero=>cases hn
  |succ n=>
   simp only [DZ] at hn
   split at hn
   ·cases hn
   ·rename_i s' hs;rw [hs];exact Sh hn
   ·rename_i e' hs;rw [hs];exact hn
 ·cases hs:step s with
  |none=>rw [hs] at h;cases h
  |some o=>
   rw [hs] at h
   cases o with
   |inl s'=>
    obtain ⟨n,hn⟩:=JX (show Loop step s'=some r from h)
    exact Sh (n:=n+1) (by simp only [DZ,hs];exact hn)
   |inr e=>exact Sh (n:=1) (by simp only [DZ,hs];exact h)
def b54 (x:ah) (st:St):Option (ah×St):=some (x,st)
theorem a48 {T:Tab} {ow:dl} (c:ae) (st:St):fM T ow c st=Rn T ow b54 [.code c] st:=by
 rw [cL]
 cases fM T ow c st with
 |none=>rfl
 |some p=>obtain ⟨e,st⟩:=p;cases e<;>rfl
theorem b5H {T:Tab} {ow:dl} {S E:Type} {c:ae} {step:S→Option (S⊕E)} {eS:S→St} {eE:E→ah×St} (hne: ∀e,(eE e).1≠ .normal)
 (hb: ∀s o,step s=some o→Rn T ow b54 [.code c] (eS s)=some (match o with
  | .inl s'=>(.normal,eS s')
  | .inr e=>eE e)) {s:S} {e:E} (h:Loop step s=some e):fM T ow (.loop c) (eS s)=some (eE e):=by
 obtain ⟨n,hn⟩:=JX h
 clear h
 induction n generalizing s with
 |zero=>cases hn
 |succ n ih=>
  simp only [DZ] at hn
  rw [Qz,a48]
  split at hn
  ·cases hn
  ·rename_i s' hs
   rw [hb s _ hs]
   exact ih hn
  ·rename_i e' hs
   rw [hb s _ hs]
   cases hn
   dsimp only
   have:=hne e
   revert this
   generalize eE e=p
   obtain ⟨x,st⟩:=p
   intro this
   cases x with
   |normal=>exact absurd rfl this
   |exit id=>rfl
   |ret=>rfl
def aV (g:fO):ae→ae
 | .seq a b=> .seq (aV g a) b
 | .block id a=> .block id (aV g a)
 |c=> .ghost g c
section
variable {R:Type} {T:Tab} {ow:dl} {k:ah→St→Option R}
def ghE (T:Tab) (ow:dl) (c:ae):Option St→Option (ah×St)→Option (ah×St)
 |some _,r=>r
 |none,_=>none
theorem Gv (g:fO): ∀(c:ae) (st:St),fM T ow (aV g c) st=(match bB st g with
 |some st'=>fM T ow c st'
 |none=>none)
 | .seq a b,st=>by
   simp only [aV]
   rw [KR,Gv g a st]
   cases bB st g with
   |none=>rfl
   |some st'=>dsimp only;rw [KR]
 | .block id a,st=>by
   simp only [aV]
   rw [Dp,Gv g a st]
   cases bB st g with
   |none=>rfl
   |some st'=>dsimp only;rw [Dp]
 | .skip,st=>hI _ _ _
 | .region _ _ _,st=>hI _ _ _
 | .drawn _ _ _ _,st=>hI _ _ _
 | .cond _ _ _,st=>hI _ _ _
 | .loop _,st=>hI _ _ _
 | .exit _,st=>hI _ _ _
 | .ret,st=>hI _ _ _
 | .ghost _ _,st=>hI _ _ _
noncomputable def aq (T:Tab) (ow:dl) (g:fO) (c:ae) (st:St):Option (ah×St):=match fM T ow c st with
 |some (.normal,st')=>fM T ow (.loop (aV g c)) st'
 |r=>r
noncomputable def goL (T:Tab) (ow:dl) (k:ah→St→Option R) (K:List Fr) (g:fO) (c:ae):Option St→Option R
 |some st'=>goR T ow k K (aq T ow g c st')
 |none=>none
theorem NA (g:fO) (c:ae) (st:St):fM T ow (.loop (aV g c)) st=(match bB st g with
 |some st'=>aq T ow g c st'
 |none=>none):=by
 rw [Qz,Gv]
 cases bB st g<;>rfl
theorem a1r (g:fO) (c:ae) (K:List Fr) (st:St):Rn T ow k (.code (.loop (aV g c))::K) st=goL T ow k K g c (bB st g):=by
 rw [cL,NA]
 cases bB st g<;>rfl
theorem a7b (K:List Fr) (g:fO) (c:ae) (st':St):goL T ow k K g c (some st')=goR T ow k K (aq T ow g c st'):=rfl
def ogM:Option St→Option (ah×St)
 |some st=>some (.normal,st)
 |none=>none
def Sw (g:fO):ah→St→Option (ah×St)
 | .normal,st=>ogM (bB st g)
 |x,st=>some (x,st)
theorem V0 (g:fO) (st:St):Sw g .normal st=ogM (bB st g):=rfl
theorem a2d (g:fO) (id:Nat) (st:St):Sw g (.exit id) st=some (.exit id,st):=rfl
theorem a4h (g:fO) (st:St):Sw g .ret st=some (.ret,st):=rfl
theorem a3y (st:St):ogM (some st)=some (.normal,st):=rfl
theorem a2k {S E:Type} {g:fO} {c:ae} {step:S→Option (S⊕E)} {eS:S→St} {eE:E→ah×St} (hne: ∀e,(eE e).1≠ .normal)
 (hb: ∀s o,step s=some o→Rn T ow (Sw g) [.code c] (eS s)=some (match o with
  | .inl s'=>(.normal,eS s')
  | .inr e=>eE e)) {s:S} {e:E} (h:Loop step s=some e):aq T ow g c (eS s)=some (eE e):=by
 obtain ⟨n,hn⟩:=JX h
 clear h
 induction n generalizing s with
 |zero=>cases hn
 |succ n ih=>
  simp only [DZ] at hn
  unfold aq
  split at hn
  ·cases hn
  ·rename_i s' hs
   have h1:=hb s _ hs
   rw [cL] at h1
   cases hx:fM T ow c (eS s) with
   |none=>rw [hx] at h1;cases h1
   |some p=>
    obtain ⟨x,st'⟩:=p
    rw [hx] at h1
    cases x with
    |normal=>
     dsimp only
     rw [NA]
     simp only [goR,Rn,nf,Sw,ogM] at h1
     cases hg:bB st' g with
     |none=>rw [hg] at h1;cases h1
     |some st2=>rw [hg] at h1;cases h1;exact ih hn
    |exit id=>simp [goR,Unw,nf,Sw] at h1
    |ret=>simp [goR,Sw] at h1
  ·rename_i e' hs
   have h1:=hb s _ hs
   cases hn
   have hn2:=hne e
   rw [cL] at h1
   dsimp only at h1
   revert h1 hn2
   generalize eE e=q
   intro h1 hn2
   cases hx:fM T ow c (eS s) with
   |none=>rw [hx] at h1;cases h1
   |some p=>
    obtain ⟨x,st'⟩:=p
    rw [hx] at h1
    cases x with
    |normal=>
     simp only [goR,Rn,nf,Sw,ogM] at h1
     cases hg:bB st' g with
     |none=>rw [hg] at h1;cases h1
     |some st2=>rw [hg] at h1;cases h1;exact absurd rfl hn2
    |exit id=>exact h1
    |ret=>exact h1
variable {d:Option Nat} {n:Nat} {ss:List aY} {live:List Nat} {K:List Fr} {st:St} {base i:Nat} {deps:List (List Nat)} {rs:List Rec} {fp:List Nat} {r:R}
theorem DC {x:Option (ah×St)} {p:ah×St} (h:x=some p) (hr:goR T ow k K (some p)=some r):goR T ow k K x=some r:=by rw [h];exact hr
theorem a2s (g:fO) (c:ae):goR T ow k K (aq T ow g c st)=Rn T ow k (.code c:: .code (.loop (aV g c))::K) st:=by
 rw [cL]
 unfold aq
 cases hx:fM T ow c st with
 |none=>rfl
 |some p=>
  obtain ⟨x,st'⟩:=p
  cases x with
  |normal=>dsimp only;simp only [goR];rw [cL];rfl
  |exit id=>rfl
  |ret=>rfl
theorem fL {g:fO} {c:ae} (h:Rn T ow k (.code c:: .code (.loop (aV g c))::K) st=some r):goR T ow k K (aq T ow g c st)=some r:=by rw [a2s];exact h
theorem bind_some {α β:Type} {x:Option α} {a:α} {F:α→Option β} {r:β} (h:x=some a) (hr:F a=some r):x.bind F=some r:=by rw [h];exact hr
end
end Go.AI
