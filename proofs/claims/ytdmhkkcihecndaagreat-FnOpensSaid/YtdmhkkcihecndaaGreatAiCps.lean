/- Runs told from the front: a list of what is still to be done, and what stands at its end. -/
import Derived.Test.YtdmhkkcihecndaaGreatAiLim
set_option linter.unusedVariables false
set_option linter.unusedSimpArgs false
namespace Go.AI
def br {α:Type} (c:Bool) (x y:α):α:=match c with
 |true=>x
 |false=>y
theorem aR {α:Type} (x y:α):br true x y=x:=rfl
theorem ak {α:Type} (x y:α):br false x y=y:=rfl
theorem brg {α:Type} {c:Bool} {x:Option α} {r:α} (h:br c x none=some r):c=true∧x=some r:=by
 cases c
 ·cases h
 ·exact ⟨rfl,h⟩
theorem bd {α β:Type} {x:Option α} {g:α→Option β} {r:β} (h:x.bind g=some r): ∃a,x=some a∧g a=some r:=by
 cases x with
 |none=>cases h
 |some a=>exact ⟨a,rfl,h⟩
inductive Fr where
 |code (c:ae)
 |steps (n:Nat) (ss:List bi) (live:List Nat)
 |dr (base i:Nat) (ss:List bi) (deps:List (List Nat)) (live:List Nat) (rs:List Rec)
 |blk (id:Nat)
section
variable {R:Type}
noncomputable def nV (T:Tab) (ow:dg) (k:ai→St→Option R):List Fr→Option Nat→St→Option R
 |[],none,st=>k .normal st
 |[],some id,st=>k (.exit id) st
 | .blk id'::K,some id,st=>if id'=id then nV T ow k K none st else nV T ow k K (some id) st
 |_::K,some id,st=>nV T ow k K (some id) st
 | .blk _::K,none,st=>nV T ow k K none st
 | .code c::K,none,st=>match gr T ow c st with
   |some (.normal,st')=>nV T ow k K none st'
   |some (.exit id,st')=>nV T ow k K (some id) st'
   |some (.ret,st')=>k .ret st'
   |none=>none
 | .steps n ss live::K,none,st=>match iz (Call T ow) ow ss n st with
   |some st'=>nV T ow k K none (trim live st')
   |none=>none
 | .dr base i ss deps live rs::K,none,st=>match fq (Call T ow) ow base ss i st with
   |some (st',rs')=>br (lg deps (rs++rs'.filter Rec.loud)) (nV T ow k K none (trim live st')) none
   |none=>none
noncomputable def Rn (T:Tab) (ow:dg) (k:ai→St→Option R) (K:List Fr) (st:St):Option R:=nV T ow k K none st
noncomputable def Unw (T:Tab) (ow:dg) (k:ai→St→Option R) (id:Nat) (K:List Fr) (st:St):Option R:=nV T ow k K (some id) st
noncomputable def goR (T:Tab) (ow:dg) (k:ai→St→Option R) (K:List Fr):Option (ai×St)→Option R
 |some (.normal,st')=>Rn T ow k K st'
 |some (.exit id,st')=>Unw T ow k id K st'
 |some (.ret,st')=>k .ret st'
 |none=>none
variable {T:Tab} {ow:dg} {k:ai→St→Option R}
theorem cW (c:ae) (K:List Fr) (st:St):Rn T ow k (.code c::K) st=goR T ow k K (gr T ow c st):=by
 unfold Rn nV goR
 cases gr T ow c st with
 |none=>rfl
 |some p=>obtain ⟨e,st'⟩:=p;cases e<;>rfl
theorem a9f (st:St):Rn T ow k [] st=k .normal st:=rfl
theorem a8Z (id:Nat) (K:List Fr) (st:St):Rn T ow k (.blk id::K) st=Rn T ow k K st:=rfl
theorem a4Y (K:List Fr) (st:St):Rn T ow k (.code .skip::K) st=Rn T ow k K st:=by rw [cW,a2x];rfl
theorem a76 (id:Nat) (K:List Fr) (st:St):Rn T ow k (.code (.exit id)::K) st=Unw T ow k id K st:=by rw [cW,a3K];rfl
theorem b1k (K:List Fr) (st:St):Rn T ow k (.code .ret::K) st=k .ret st:=by rw [cW,a5a];rfl
theorem b1E (a b:ae) (K:List Fr) (st:St):Rn T ow k (.code (.seq a b)::K) st=Rn T ow k (.code a:: .code b::K) st:=by
 rw [cW,P3,cW]
 cases gr T ow a st with
 |none=>rfl
 |some p=>
  obtain ⟨e,st'⟩:=p
  cases e with
  |normal=>simp only [goR];rw [cW];rfl
  |exit id=>rfl
  |ret=>rfl
theorem a2T (id:Nat) (c:ae) (K:List Fr) (st:St):Rn T ow k (.code (.block id c)::K) st=Rn T ow k (.code c:: .blk id::K) st:=by
 rw [cW,E0,cW]
 cases gr T ow c st with
 |none=>rfl
 |some p=>
  obtain ⟨e,st'⟩:=p
  cases e with
  |normal=>rfl
  |exit id'=>
   simp only [goR,Unw,Rn,nV]
   by_cases h:id'=id
   ·subst h;simp
   ·rw [if_neg h,if_neg (fun e=>h e.symm)]
  |ret=>rfl
noncomputable def a8c (T:Tab) (ow:dg) (k:ai→St→Option R) (a b:ae) (K:List Fr) (st:St):V→Option R
 | .lit (.bool c)=>br c (Rn T ow k (.code a::K) st) (Rn T ow k (.code b::K) st)
 |_=>none
theorem a6F (c:Opd) (a b:ae) (K:List Fr) (st:St):Rn T ow k (.code (.cond c a b)::K) st=a8c T ow k a b K st (st.ev c):=by
 rw [cW,a4d]
 unfold a8c
 split
 ·rename_i h;rw [h];exact (cW _ _ _).symm
 ·rename_i h;rw [h];exact (cW _ _ _).symm
 ·rename_i h1 h2
  split
  ·rename_i c' h;cases c'
   ·exact absurd h h2
   ·exact absurd h h1
  ·rfl
theorem ZN (a b:ae) (K:List Fr) (st:St) (c:Bool):a8c T ow k a b K st (.lit (.bool c))=br c (Rn T ow k (.code a::K) st) (Rn T ow k (.code b::K) st):=rfl
noncomputable def ghR (T:Tab) (ow:dg) (k:ai→St→Option R) (c:ae) (K:List Fr):Option St→Option R
 |some st'=>Rn T ow k (.code c::K) st'
 |none=>none
theorem a2Y (g:gY) (c:ae) (K:List Fr) (st:St):Rn T ow k (.code (.ghost g c)::K) st=ghR T ow k c K (bN st g):=by
 rw [cW,it]
 cases bN st g with
 |none=>rfl
 |some st'=>simp only [ghR];rw [cW]
theorem a5E (c:ae) (K:List Fr) (st:St):ghR T ow k c K (some st)=Rn T ow k (.code c::K) st:=rfl
theorem a6r (id:Nat) (K:List Fr) (st:St):goR T ow k K (some (.exit id,st))=Unw T ow k id K st:=rfl
theorem b1K (K:List Fr) (st:St):goR T ow k K (some (.ret,st))=k .ret st:=rfl
theorem b0J (id:Nat) (st:St):Unw T ow k id [] st=k (.exit id) st:=rfl
theorem a6x (id:Nat) (c:ae) (K:List Fr) (st:St):Unw T ow k id (.code c::K) st=Unw T ow k id K st:=rfl
theorem b1n (id id':Nat) (K:List Fr) (st:St):Unw T ow k id (.blk id'::K) st=if id'=id then Rn T ow k K st else Unw T ow k id K st:=rfl
theorem a0b (n:Nat) (ss:List bi) (live:List Nat) (K:List Fr) (st:St):Rn T ow k (.code (.region n ss live)::K) st=Rn T ow k (.steps n ss live::K) st:=by
 rw [cW,Wb]
 unfold oH
 simp only [Rn,nV]
 cases iz (Call T ow) ow ss n st<;>rfl
theorem a31 (n:Nat) (ss:List bi) (deps:List (List Nat)) (live:List Nat) (K:List Fr) (st:St):Rn T ow k (.code (.drawn n ss deps live)::K) st=Rn T ow k (.dr n 0 ss deps live []::K) st:=by
 rw [cW,a0f]
 unfold vG
 simp only [Rn,nV]
 cases fq (Call T ow) ow n ss 0 st with
 |none=>rfl
 |some p=>
  obtain ⟨st',rs⟩:=p
  simp only [List.nil_append]
  cases lg deps (rs.filter Rec.loud)<;>rfl
theorem Pi (n:Nat) (live:List Nat) (K:List Fr) (st:St):Rn T ow k (.steps n [] live::K) st=Rn T ow k K (trim live st):=rfl
noncomputable def aft (T:Tab) (ow:dg) (k:ai→St→Option R) (d:Option Nat) (n:Nat) (ss:List bi) (live:List Nat) (K:List Fr) (st:St):Option (V×Upd)→Option R
 |some (v,u)=>Rn T ow k (.steps (n+1) ss live::K) ((st.upd u).put d v)
 |none=>none
variable {d:Option Nat} {n:Nat} {ss:List bi} {live:List Nat} {K:List Fr} {st:St}
theorem a1Z (op:AOp):Rn T ow k (.steps n (⟨d,op,none⟩::ss) live::K) st=aft T ow k d n ss live K st (aj (Call T ow) ow op st.ev st.heap n):=by
 unfold aft
 simp only [Rn,nV,iz,xg,St.want]
 cases aj (Call T ow) ow op st.ev st.heap n with
 |none=>rfl
 |some p=>obtain ⟨v,u⟩:=p;rfl
theorem a7Z (v:V) (u:Upd):aft T ow k d n ss live K st (some (v,u))=Rn T ow k (.steps (n+1) ss live::K) ((st.upd u).put d v):=rfl
theorem a6K:aft T ow k d n ss live K st none=none:=rfl
theorem b54 (c:Bool) (x y:Option (V×Upd)):aft T ow k d n ss live K st (br c x y)=br c (aft T ow k d n ss live K st x) (aft T ow k d n ss live K st y):=by cases c<;>rfl
theorem a8e {α:Type} (x:Option α) (f:α→Option (V×Upd)):aft T ow k d n ss live K st (x.bind f)=x.bind (fun a=>aft T ow k d n ss live K st (f a)):=by cases x<;>rfl
noncomputable def gd (T:Tab) (ow:dg) (k:ai→St→Option R) (t:Nat) (b:Bool) (d:Option Nat) (op:AOp) (n:Nat) (ss:List bi) (live:List Nat) (K:List Fr) (st:St):V→Option R
 | .lit (.bool c)=>br (c==b) (Rn T ow k (.steps n (⟨d,op,none⟩::ss) live::K) { st with e:=fu t (.lit (.bool c)) st.e })
  (Rn T ow k (.steps (n+1) ss live::K) ({ st with e:=fu t (.lit (.bool c)) st.e }.put d (.lit (.tuple #[]))))
 | .lit (.tuple _)=>Rn T ow k (.steps (n+1) ss live::K) (st.put d (.lit (.tuple #[])))
 |_=>none
theorem QX {α:Type}: ∀{l:List (Nat×α)} {t:Nat} {v:α},dn l t=some v→fu t v l=l
 |[],_,_,h=>by simp [dn] at h
 | (j,u)::r,t,v,h=>by
   simp only [dn] at h
   simp only [fu]
   split at h
   ·rename_i e;cases h;subst e;simp
   ·rename_i e;rw [if_neg e,QX h]
theorem Vm {v:V} {t:Nat} (h:st.get t=v) (hv:v≠ .undef):({ st with e:=fu t v st.e }:St)=st:=by
 unfold St.get at h
 cases ha:dn st.e t with
 |none=>rw [ha] at h;exact absurd h.symm hv
 |some u=>
  rw [ha] at h;cases h
  show ({ st with e:=fu t u st.e }:St)=st
  rw [QX ha]
theorem a4c (t:Nat) (b:Bool) (op:AOp):Rn T ow k (.steps n (⟨d,op,some (t,b)⟩::ss) live::K) st=gd T ow k t b d op n ss live K st (st.get t):=by
 cases hg:st.get t with
 |lit v=>
  cases v with
  |bool c=>
   simp only [gd]
   rw [Vm hg (by simp)]
   simp only [Rn,nV,iz,xg,St.want,hg]
   cases hcb:(c==b)
   ·simp [ak,hcb]
   ·simp [aR,hcb]
  |tuple xs=>simp only [gd];simp only [Rn,nV,iz,xg,St.want,hg]
  |_=>simp only [gd];simp only [Rn,nV,iz,xg,St.want,hg]
 |_=>simp only [gd];simp only [Rn,nV,iz,xg,St.want,hg]
theorem b0Y (t:Nat) (op:AOp) (c:Bool):gd T ow k t true d op n ss live K st (.lit (.bool c))=
 br c (Rn T ow k (.steps n (⟨d,op,none⟩::ss) live::K) { st with e:=fu t (.lit (.bool true)) st.e })
  (Rn T ow k (.steps (n+1) ss live::K) ({ st with e:=fu t (.lit (.bool false)) st.e }.put d (.lit (.tuple #[])))):=by cases c<;>rfl
theorem a6X (t:Nat) (op:AOp) (c:Bool):gd T ow k t false d op n ss live K st (.lit (.bool c))=
 br c (Rn T ow k (.steps (n+1) ss live::K) ({ st with e:=fu t (.lit (.bool true)) st.e }.put d (.lit (.tuple #[]))))
  (Rn T ow k (.steps n (⟨d,op,none⟩::ss) live::K) { st with e:=fu t (.lit (.bool false)) st.e }):=by cases c<;>rfl
theorem a5w (t:Nat) (b:Bool) (op:AOp) (xs:Array Value):gd T ow k t b d op n ss live K st (.lit (.tuple xs))=Rn T ow k (.steps (n+1) ss live::K) (st.put d (.lit (.tuple #[]))):=rfl
variable {base i:Nat} {deps:List (List Nat)} {rs:List Rec} {fp:List Nat}
def a86 (rs:List Rec) (i:Nat) (fp wr:List Nat):List Rec:=rs++[Rec.mk i fp wr].filter Rec.loud
theorem Zl:Rn T ow k (.dr base i [] deps live rs::K) st=br (lg deps rs) (Rn T ow k K (trim live st)) none:=by
 simp only [Rn,nV,fq,List.filter_nil,List.append_nil]
noncomputable def MN (T:Tab) (ow:dg) (k:ai→St→Option R) (d:Option Nat) (base i:Nat) (ss:List bi) (deps:List (List Nat)) (live:List Nat) (rs:List Rec) (K:List Fr) (st:St) (fp:List Nat):Option (V×Upd)→Option R
 |some (v,u)=>br ((u.map (·.1)).all (fun b=>b==(base+i)||b∈fp)&&(!(u.map (·.1)).contains (base+i)||(st.heap (base+i)).isNone))
  (Rn T ow k (.dr base (i+1) ss deps live (a86 rs i fp (u.map (·.1)))::K) ((st.upd u).put d v)) none
 |none=>none
theorem b30 (op:AOp):Rn T ow k (.dr base i (⟨d,op,none⟩::ss) deps live rs::K) st=
 MN T ow k d base i ss deps live rs K st (jK ow op st.ev st.heap) (aj (Call T ow) ow op st.ev (mU st.heap (jK ow op st.ev st.heap)) (base+i)):=by
 unfold MN
 simp only [Rn,nV,fq,tJ,St.want]
 cases ho:aj (Call T ow) ow op st.ev (mU st.heap (jK ow op st.ev st.heap)) (base+i) with
 |none=>rfl
 |some p=>
  obtain ⟨v,u⟩:=p
  dsimp only
  by_cases hc:((u.map (·.1)).all (fun b=>b==(base+i)||b∈jK ow op st.ev st.heap)&&(!(u.map (·.1)).contains (base+i)||(st.heap (base+i)).isNone))=true
  ·rw [hc,aR,if_pos rfl]
   dsimp only
   cases fq (Call T ow) ow base ss (i+1) ((st.upd u).put d v) with
   |none=>rfl
   |some q=>
    obtain ⟨st2,rs2⟩:=q
    simp only [a86,List.filter_cons,List.filter_nil,List.append_assoc]
    cases Rec.loud ⟨i,jK ow op st.ev st.heap,u.map (·.1)⟩<;>rfl
  ·rw [Bool.not_eq_true] at hc
   rw [hc,ak,if_neg (by decide)]
theorem a3E (v:V) (u:Upd):MN T ow k d base i ss deps live rs K st fp (some (v,u))=br ((u.map (·.1)).all (fun b=>b==(base+i)||b∈fp)&&(!(u.map (·.1)).contains (base+i)||(st.heap (base+i)).isNone))
 (Rn T ow k (.dr base (i+1) ss deps live (a86 rs i fp (u.map (·.1)))::K) ((st.upd u).put d v)) none:=rfl
theorem a1W:MN T ow k d base i ss deps live rs K st fp none=none:=rfl
theorem b0A (c:Bool) (x y:Option (V×Upd)):MN T ow k d base i ss deps live rs K st fp (br c x y)=br c (MN T ow k d base i ss deps live rs K st fp x) (MN T ow k d base i ss deps live rs K st fp y):=by cases c<;>rfl
theorem a3h {α:Type} (x:Option α) (f:α→Option (V×Upd)):MN T ow k d base i ss deps live rs K st fp (x.bind f)=x.bind (fun a=>MN T ow k d base i ss deps live rs K st fp (f a)):=by cases x<;>rfl
noncomputable def gdD (T:Tab) (ow:dg) (k:ai→St→Option R) (t:Nat) (b:Bool) (d:Option Nat) (op:AOp) (base i:Nat) (ss:List bi) (deps:List (List Nat)) (live:List Nat) (rs:List Rec) (K:List Fr) (st:St):V→Option R
 | .lit (.bool c)=>br (c==b) (Rn T ow k (.dr base i (⟨d,op,none⟩::ss) deps live rs::K) { st with e:=fu t (.lit (.bool c)) st.e })
  (Rn T ow k (.dr base (i+1) ss deps live rs::K) ({ st with e:=fu t (.lit (.bool c)) st.e }.put d (.lit (.tuple #[]))))
 | .lit (.tuple _)=>Rn T ow k (.dr base (i+1) ss deps live rs::K) (st.put d (.lit (.tuple #[])))
 |_=>none
theorem a1R (op:AOp) (g:Nat×Bool) (h:st.want (some g)=some false):Rn T ow k (.dr base i (⟨d,op,some g⟩::ss) deps live rs::K) st=Rn T ow k (.dr base (i+1) ss deps live rs::K) (st.put d (.lit (.tuple #[]))):=by
 simp only [Rn,nV,fq,tJ,h]
 cases fq (Call T ow) ow base ss (i+1) (st.put d (.lit (.tuple #[]))) with
 |none=>rfl
 |some q=>obtain ⟨st2,rs2⟩:=q;rfl
theorem b5E (op:AOp) (g:Nat×Bool) (h:st.want (some g)=some true):Rn T ow k (.dr base i (⟨d,op,some g⟩::ss) deps live rs::K) st=Rn T ow k (.dr base i (⟨d,op,none⟩::ss) deps live rs::K) st:=by
 have h2:st.want none=some true:=rfl
 simp only [Rn,nV,fq,tJ,h,h2]
theorem a0w (op:AOp) (g:Nat×Bool) (h:st.want (some g)=none):Rn T ow k (.dr base i (⟨d,op,some g⟩::ss) deps live rs::K) st=none:=by
 simp only [Rn,nV,fq,tJ,h]
theorem SR (t:Nat) (b:Bool) (op:AOp):Rn T ow k (.dr base i (⟨d,op,some (t,b)⟩::ss) deps live rs::K) st=gdD T ow k t b d op base i ss deps live rs K st (st.get t):=by
 cases hg:st.get t with
 |lit v=>
  cases v with
  |bool c=>
   simp only [gdD]
   rw [Vm hg (by simp)]
   cases hcb:(c==b)
   ·rw [ak];exact a1R op (t,b) (by simp [St.want,hg,hcb])
   ·rw [aR];exact b5E op (t,b) (by simp [St.want,hg,hcb])
  |tuple xs=>exact a1R op (t,b) (by simp [St.want,hg])
  |_=>exact a0w op (t,b) (by simp [St.want,hg])
 |_=>exact a0w op (t,b) (by simp [St.want,hg])
theorem a75 (t:Nat) (op:AOp) (c:Bool):gdD T ow k t true d op base i ss deps live rs K st (.lit (.bool c))=
 br c (Rn T ow k (.dr base i (⟨d,op,none⟩::ss) deps live rs::K) { st with e:=fu t (.lit (.bool true)) st.e })
  (Rn T ow k (.dr base (i+1) ss deps live rs::K) ({ st with e:=fu t (.lit (.bool false)) st.e }.put d (.lit (.tuple #[])))):=by cases c<;>rfl
theorem a2X (t:Nat) (op:AOp) (c:Bool):gdD T ow k t false d op base i ss deps live rs K st (.lit (.bool c))=
 br c (Rn T ow k (.dr base (i+1) ss deps live rs::K) ({ st with e:=fu t (.lit (.bool true)) st.e }.put d (.lit (.tuple #[]))))
  (Rn T ow k (.dr base i (⟨d,op,none⟩::ss) deps live rs::K) { st with e:=fu t (.lit (.bool false)) st.e }):=by cases c<;>rfl
theorem a2a (t:Nat) (b:Bool) (op:AOp) (xs:Array Value):gdD T ow k t b d op base i ss deps live rs K st (.lit (.tuple xs))=Rn T ow k (.dr base (i+1) ss deps live rs::K) (st.put d (.lit (.tuple #[]))):=rfl
end
def a08 (af:ah) (m:Nat) (x:ai) (st:St):Option (V×List Blk):=W2 af (kM af m (some (x,st)))
theorem ab {T:Tab} {ow:dg} {f:FuncId} {af:ah} (hT:T f=some (.code af)) (a:List V) (b:List Blk):Call T ow f a b=Rn T ow (a08 af b.length) [.code af.body] (start a b):=by
 rw [a1y,hT]
 dsimp only
 rw [cW]
 cases gr T ow af.body (start a b) with
 |none=>rfl
 |some p=>obtain ⟨e,st⟩:=p;cases e<;>rfl
def Ek {S E:Type} (step:S→Option (S⊕E)):Nat→S→Option E
 |0,_=>none
 |n+1,s=>match step s with
  |none=>none
  |some (.inl s')=>Ek step n s'
  |some (.inr e)=>some e
theorem Rs {S E:Type} {step:S→Option (S⊕E)}: ∀{n:Nat} {s:S} {e:E},Ek step n s=some e→Ek step (n+1) s=some e
 |0,_,_,h=>by cases h
 |n+1,s,e,h=>by
  simp only [Ek] at h ⊢
  split at h
  ·cases h
  ·rename_i s' hs;exact Rs h
  ·rename_i e' hs;exact h
theorem a9L {S E:Type} {step:S→Option (S⊕E)} {n m:Nat} (hnm:n≤m) {s:S} {e:E} (h:Ek step n s=some e):Ek step m s=some e:=by
 induction hnm with
 |refl=>exact h
 |step _ ih=>exact Rs ih
noncomputable def Loop {S E:Type} (step:S→Option (S⊕E)) (s:S):Option E:=lim (fun n=>Ek step n s)
theorem Lu {S E:Type} {step:S→Option (S⊕E)} {s:S} {e:E} (h:Loop step s=some e): ∃n,Ek step n s=some e:=O3 h
theorem RJ {S E:Type} {step:S→Option (S⊕E)} {n:Nat} {s:S} {e:E} (h:Ek step n s=some e):Loop step s=some e:=
 ZC (g:=fun n=>Ek step n s) (fun _ _ _ hnm h=>a9L hnm h) h
def b6c {S E:Type} (lp:S→Option E):Option (S⊕E)→Option E
 |none=>none
 |some (.inl s')=>lp s'
 |some (.inr e)=>some e
theorem UB {S E:Type} (step:S→Option (S⊕E)) (s:S):Loop step s=b6c (Loop step) (step s):=by
 refine rf (fun r h=> ?_) (fun r h=> ?_)
 ·obtain ⟨n,hn⟩:=Lu h
  cases n with
  |zero=>cases hn
  |succ n=>
   simp only [Ek] at hn
   split at hn
   ·cases hn
   ·rename_i s' hs;rw [hs];exact RJ hn
   ·rename_i e' hs;rw [hs];exact hn
 ·cases hs:step s with
  |none=>rw [hs] at h;cases h
  |some o=>
   rw [hs] at h
   cases o with
   |inl s'=>
    obtain ⟨n,hn⟩:=Lu (show Loop step s'=some r from h)
    exact RJ (n:=n+1) (by simp only [Ek,hs];exact hn)
   |inr e=>exact RJ (n:=1) (by simp only [Ek,hs];exact h)
def b5O (x:ai) (st:St):Option (ai×St):=some (x,st)
theorem a6I {T:Tab} {ow:dg} (c:ae) (st:St):gr T ow c st=Rn T ow b5O [.code c] st:=by
 rw [cW]
 cases gr T ow c st with
 |none=>rfl
 |some p=>obtain ⟨e,st⟩:=p;cases e<;>rfl
theorem b6m {T:Tab} {ow:dg} {S E:Type} {c:ae} {step:S→Option (S⊕E)} {eS:S→St} {eE:E→ai×St} (hne: ∀e,(eE e).1≠ .normal)
 (hb: ∀s o,step s=some o→Rn T ow b5O [.code c] (eS s)=some (match o with
  | .inl s'=>(.normal,eS s')
  | .inr e=>eE e)) {s:S} {e:E} (h:Loop step s=some e):gr T ow (.loop c) (eS s)=some (eE e):=by
 obtain ⟨n,hn⟩:=Lu h
 clear h
 induction n generalizing s with
 |zero=>cases hn
 |succ n ih=>
  simp only [Ek] at hn
  rw [Rg,a6I]
  split at hn
  ·cases hn
  ·rename_i s' hs
   rw [hb s _ hs]
   exact ih hn
  ·rename_i e' hs
   rw [hb s _ hs]
   cases hn
   dsimp only
   have:=hne e
   revert this
   generalize eE e=p
   obtain ⟨x,st⟩:=p
   intro this
   cases x with
   |normal=>exact absurd rfl this
   |exit id=>rfl
   |ret=>rfl
def aV (g:gY):ae→ae
 | .seq a b=> .seq (aV g a) b
 | .block id a=> .block id (aV g a)
 |c=> .ghost g c
section
variable {R:Type} {T:Tab} {ow:dg} {k:ai→St→Option R}
def ghE (T:Tab) (ow:dg) (c:ae):Option St→Option (ai×St)→Option (ai×St)
 |some _,r=>r
 |none,_=>none
theorem Iu (g:gY): ∀(c:ae) (st:St),gr T ow (aV g c) st=(match bN st g with
 |some st'=>gr T ow c st'
 |none=>none)
 | .seq a b,st=>by
   simp only [aV]
   rw [P3,Iu g a st]
   cases bN st g with
   |none=>rfl
   |some st'=>dsimp only;rw [P3]
 | .block id a,st=>by
   simp only [aV]
   rw [E0,Iu g a st]
   cases bN st g with
   |none=>rfl
   |some st'=>dsimp only;rw [E0]
 | .skip,st=>it _ _ _
 | .region _ _ _,st=>it _ _ _
 | .drawn _ _ _ _,st=>it _ _ _
 | .cond _ _ _,st=>it _ _ _
 | .loop _,st=>it _ _ _
 | .exit _,st=>it _ _ _
 | .ret,st=>it _ _ _
 | .ghost _ _,st=>it _ _ _
noncomputable def aD (T:Tab) (ow:dg) (g:gY) (c:ae) (st:St):Option (ai×St):=match gr T ow c st with
 |some (.normal,st')=>gr T ow (.loop (aV g c)) st'
 |r=>r
noncomputable def goL (T:Tab) (ow:dg) (k:ai→St→Option R) (K:List Fr) (g:gY) (c:ae):Option St→Option R
 |some st'=>goR T ow k K (aD T ow g c st')
 |none=>none
theorem Nh (g:gY) (c:ae) (st:St):gr T ow (.loop (aV g c)) st=(match bN st g with
 |some st'=>aD T ow g c st'
 |none=>none):=by
 rw [Rg,Iu]
 cases bN st g<;>rfl
theorem a3x (g:gY) (c:ae) (K:List Fr) (st:St):Rn T ow k (.code (.loop (aV g c))::K) st=goL T ow k K g c (bN st g):=by
 rw [cW,Nh]
 cases bN st g<;>rfl
theorem a6N (K:List Fr) (g:gY) (c:ae) (st':St):goL T ow k K g c (some st')=goR T ow k K (aD T ow g c st'):=rfl
def ogM:Option St→Option (ai×St)
 |some st=>some (.normal,st)
 |none=>none
def RM (g:gY):ai→St→Option (ai×St)
 | .normal,st=>ogM (bN st g)
 |x,st=>some (x,st)
theorem X8 (g:gY) (st:St):RM g .normal st=ogM (bN st g):=rfl
theorem a2m (g:gY) (id:Nat) (st:St):RM g (.exit id) st=some (.exit id,st):=rfl
theorem a4i (g:gY) (st:St):RM g .ret st=some (.ret,st):=rfl
theorem a7w (st:St):ogM (some st)=some (.normal,st):=rfl
theorem a2J {S E:Type} {g:gY} {c:ae} {step:S→Option (S⊕E)} {eS:S→St} {eE:E→ai×St} (hne: ∀e,(eE e).1≠ .normal)
 (hb: ∀s o,step s=some o→Rn T ow (RM g) [.code c] (eS s)=some (match o with
  | .inl s'=>(.normal,eS s')
  | .inr e=>eE e)) {s:S} {e:E} (h:Loop step s=some e):aD T ow g c (eS s)=some (eE e):=by
 obtain ⟨n,hn⟩:=Lu h
 clear h
 induction n generalizing s with
 |zero=>cases hn
 |succ n ih=>
  simp only [Ek] at hn
  unfold aD
  split at hn
  ·cases hn
  ·rename_i s' hs
   have h1:=hb s _ hs
   rw [cW] at h1
   cases hx:gr T ow c (eS s) with
   |none=>rw [hx] at h1;cases h1
   |some p=>
    obtain ⟨x,st'⟩:=p
    rw [hx] at h1
    cases x with
    |normal=>
     dsimp only
     rw [Nh]
     simp only [goR,Rn,nV,RM,ogM] at h1
     cases hg:bN st' g with
     |none=>rw [hg] at h1;cases h1
     |some st2=>rw [hg] at h1;cases h1;exact ih hn
    |exit id=>simp [goR,Unw,nV,RM] at h1
    |ret=>simp [goR,RM] at h1
  ·rename_i e' hs
   have h1:=hb s _ hs
   cases hn
   have hn2:=hne e
   rw [cW] at h1
   dsimp only at h1
   revert h1 hn2
   generalize eE e=q
   intro h1 hn2
   cases hx:gr T ow c (eS s) with
   |none=>rw [hx] at h1;cases h1
   |some p=>
    obtain ⟨x,st'⟩:=p
    rw [hx] at h1
    cases x with
    |normal=>
     simp only [goR,Rn,nV,RM,ogM] at h1
     cases hg:bN st' g with
     |none=>rw [hg] at h1;cases h1
     |some st2=>rw [hg] at h1;cases h1;exact absurd rfl hn2
    |exit id=>exact h1
    |ret=>exact h1
variable {d:Option Nat} {n:Nat} {ss:List bi} {live:List Nat} {K:List Fr} {st:St} {base i:Nat} {deps:List (List Nat)} {rs:List Rec} {fp:List Nat} {r:R}
theorem b35 {x:Option (ai×St)} {p:ai×St} (h:x=some p) (hr:goR T ow k K (some p)=some r):goR T ow k K x=some r:=by rw [h];exact hr
theorem bind_some {α β:Type} {x:Option α} {a:α} {F:α→Option β} {r:β} (h:x=some a) (hr:F a=some r):x.bind F=some r:=by rw [h];exact hr
end
end Go.AI
