/- Part. -/
import Derived.Test.YtdnkignjanfikaaGreatAiGhost
import Derived.Test.YtdnkignjanfikaaGreatAiMono
set_option linter.unusedVariables false
set_option linter.unusedSimpArgs false
namespace Go.AI
section
theorem IT {ev ev':Opd->V}: ∀{ps:List (Nat×Nat×Opd)},(∀x∈ps.map (·.2.2),ev x=ev' x)->jH ev ps=jH ev' ps
 |[],_=>rfl
 | (a,b,x)::r,h=>by
   simp only [jH]
   rw [h x sm,IT (fun y hy=>h y (by simp at hy ⊢;exact .inr hy))]
theorem Fe {hp:ba} {ev ev':Opd->V}: ∀{ps:List (Nat×Opd)},(∀x∈ps.map (·.2),ev x=ev' x)->fA hp ev ps=fA hp ev' ps
 |[],_=>rfl
 | (a,x)::r,h=>by
   simp only [fA]
   rw [h x sm,Fe (fun y hy=>h y (by simp at hy ⊢;exact .inr hy))]
theorem Ey {ev ev':Opd->V} {o:Option Opd} (h: ∀x∈M0 o,ev x=ev' x):o.map ev=o.map ev':=by
 cases o with
 |none=>rfl
 |some x=>simp [h x (by simp [M0])]
theorem a08 {C:cr} {ow:FuncId->List Nat} {o:AOp} {ev ev':Opd->V} {b:ba} {n:Nat} (h: ∀x∈o.opds,ev x=ev' x):aK C ow o ev b n=aK C ow o ev' b n:=by
 cases o<;>simp only [AOp.opds,aW,aJ,List.not_mem_nil,or_false,forall_eq_or_imp,forall_eq] at h<;>simp only [aK]
 case build z ps=>rw [IT (fun x a=>h x a)]
 case buildSlice e z l ps=>rw [Fe (fun x a=>h x a)]
 case makeFunc f cs=>rw [bk (fun x a=>h x a)]
 case call f cs=>rw [bk (fun x a=>h x a)]
 case dyn f cs=>rw [h.1,bk (fun x a=>h.2 x a)]
 case sliceStr x lo hi=>rw [h.1,Ey (fun x a=>h.2 x (.inl a)),Ey (o:=hi) (fun x a=>h.2 x (.inr a))]
 case slice e x lo hi mx=>rw [h.1,Ey (fun x a=>h.2 x (.inl a)),Ey (o:=hi) (fun x a=>h.2 x (.inr (.inl a)))]
 all_goals first
  | (rw [h];done)
  | (rw [h.1,h.2];done)
  | (rw [h.1,h.2.1,h.2.2];done)
  |rfl
def O9 (f:Nat->V):Option (Nat×Bool)->Option Bool
 |none=>some true
 |some (t,b)=>match f t with
  | .lit (.bool c)=>some (c==b)
  | .lit (.tuple _)=>some false
  |_=>none
theorem X6 (st:St) (g:Option (Nat×Bool)):st.want g=O9 st.get g:=by cases g<;>rfl
theorem xR: ∀{u:Upd} {h:ba} {b:Nat},b∉u.map (·.1)->hU h u b=h b
 |[],h,b,_=>rfl
 | (i,k)::r,h,b,a=>by
   simp only [aM,aW,not_or] at a
   show hU (ci h i k) r b=h b
   rw [xR a.2]
   simp [ci,a.1]
theorem Yc: ∀{u:Upd} {h h':ba} {b:Nat},b∈u.map (·.1)->hU h u b=hU h' u b
 |[],h,h',b,a=>by simp at a
 | (i,k)::r,h,h',b,a=>by
   show hU (ci h i k) r b=hU (ci h' i k) r b
   by_cases c:b∈r.map (·.1)
   ·exact Yc c
   ·rw [xR c,xR c]
    simp only [aM,aW] at a
    have:b=i:=a.resolve_right c
    simp [ci,this]
def hat (us:Nat->Upd) (S:Nat->Bool):Nat->ba->ba
 |0,h=>h
 |k+1,h=>if S k=true then hU (hat us S k h) (us k) else hat us S k h
def fat (ds:Nat->Option Nat) (vs:Nat->V) (S:Nat->Bool):Nat->(Nat->V)->Nat->V
 |0,f=>f
 |k+1,f=>if S k=true then (fun t=>if ds k=some t then vs k else fat ds vs S k f t) else fat ds vs S k f
theorem zU {us:Nat->Upd} {S S':Nat->Bool} {h:ba} {b:Nat}: ∀{k:Nat},(∀j,j<k->b∈(us j).map (·.1)->S j=S' j)->hat us S k h b=hat us S' k h b
 |0,_=>rfl
 |k+1,H=>by
  have ih:=zU (k:=k) (us:=us) (S:=S) (S':=S') (h:=h) (b:=b) (fun j c a=>H j om a)
  simp only [hat]
  by_cases a:b∈(us k).map (·.1)
  ·rw [H k om a]
   split
   ·exact Yc a
   ·exact ih
  ·split<;>split
   ·rw [xR a,xR a];exact ih
   ·rw [xR a];exact ih
   ·rw [xR a];exact ih
   ·exact ih
theorem zZ {ds:Nat->Option Nat} {vs:Nat->V} {S S':Nat->Bool} {f:Nat->V} {t:Nat}: ∀{k:Nat},(∀j,j<k->ds j=some t->S j=S' j)->fat ds vs S k f t=fat ds vs S' k f t
 |0,_=>rfl
 |k+1,H=>by
  have ih:=zZ (k:=k) (ds:=ds) (vs:=vs) (S:=S) (S':=S') (f:=f) (t:=t) (fun j b a=>H j om a)
  simp only [fat]
  by_cases a:ds k=some t
  ·rw [H k om a]
   split
   ·simp [a]
   ·exact ih
  ·split<;>split
   ·simp only [a,if_false];exact ih
   ·simp only [a,if_false];exact ih
   ·simp only [a,if_false];exact ih
   ·exact ih
theorem R5 {us:Nat->Upd} {S:Nat->Bool} {h:ba} {i:Nat} (H: ∀j,i<=j->S j=false): ∀d,hat us S (i+d) h=hat us S i h
 |0=>rfl
 |d+1=>by
  show (if S (i+d)=true then _ else hat us S (i+d) h)=_
  rw [H (i+d) om]
  exact R5 H d
theorem Rc {ds:Nat->Option Nat} {vs:Nat->V} {S:Nat->Bool} {f:Nat->V} {i:Nat} (H: ∀j,i<=j->S j=false): ∀d,fat ds vs S (i+d) f=fat ds vs S i f
 |0=>rfl
 |d+1=>by
  show (if S (i+d)=true then _ else fat ds vs S (i+d) f)=_
  rw [H (i+d) om]
  exact Rc H d
theorem a5a {us:Nat->Upd} {h:ba} {i N:Nat} (hi:i<=N) (b:Nat):hat us (fun j=>decide (j<i)) N h b=hat us (fun _=>true) i h b:=by
 obtain ⟨d,rfl⟩: ∃d,N=i+d:=⟨N-i,by omega⟩
 rw [R5 (fun j a=>by simp;omega)]
 exact zU (fun j a _=>by simp [a])
theorem a4w {ds:Nat->Option Nat} {vs f:Nat->V} {i N:Nat} (hi:i<=N) (t:Nat):fat ds vs (fun j=>decide (j<i)) N f t=fat ds vs (fun _=>true) i f t:=by
 obtain ⟨d,rfl⟩: ∃d,N=i+d:=⟨N-i,by omega⟩
 rw [Rc (fun j a=>by simp;omega)]
 exact zZ (fun j a _=>by simp [a])
theorem Oe {C:cr} {ow:ff} {base:Nat}: ∀{steps:List cx} {i:Nat} {st st':St} {rs:List Rec},ll C ow base steps i st=some (st',rs)->
 rs.length=steps.length/\ ∃sts:Nat->St,sts 0=st/\sts steps.length=st'/\ ∀(j:Nat) (s:cx),steps[j]? =some s-> ∃rc,rs[j]? =some rc/\Az C ow (sts j) s (i+j) (base+(i+j))=some (sts (j+1),rc)
 |[],i,st,st',rs,h=>by
  simp [ll] at h
  obtain ⟨rfl,rfl⟩:=h
  exact ⟨rfl,fun _=>st,rfl,rfl,fun j s d=>by simp at d⟩
 |s::r,i,st,st',rs,h=>by
  simp only [ll] at h
  cases b:Az C ow st s i (base+i) with
  |none=>rw [b] at h;cases h
  |some p=>
   obtain ⟨st1,rc⟩:=p
   rw [b] at h
   dsimp only at h
   cases c:ll C ow base r (i+1) st1 with
   |none=>rw [c] at h;cases h
   |some q=>
    obtain ⟨st2,rs'⟩:=q
    rw [c] at h
    cases h
    obtain ⟨e,sts,e0,e1,e2⟩:=Oe c
    refine ⟨by simp [e],fun j=>match j with
     |0=>st
     |j+1=>sts j,rfl,by simpa using e1,fun j s' a=> ?_⟩
    cases j with
    |zero=>
     simp at a
     subst a
     refine ⟨rc,rfl, ?_⟩
     simp only [cH,ce,e0]
     exact b
    |succ j=>
     obtain ⟨rc',f,k⟩:=e2 j s' (by simpa using a)
     refine ⟨rc',by simpa using f, ?_⟩
     rw [show i+(j+1)=i+1+j by omega]
     exact k
structure Ent (C:cr) (ow:ff) (st st':St) (s:cx) (i n:Nat) (rc:Rec) (v:V) (u:Upd):Prop where
 nx:st'=(st.upd u).put s.dst v
 ri:rc.i=i
 wr:rc.wr=u.map (·.1)
 kind:(st.want s.guard=some false/\v= .lit (.tuple #[])/\u=[])\/
  (st.want s.guard=some true/\aK C ow s.op st.ev (vl st.heap rc.fp) n=some (v,u)/\ ∀b∈u.map (·.1),b∈rc.fp\/st.heap b=none)
theorem a3X {C:cr} {ow:ff} {st st':St} {s:cx} {i n:Nat} {rc:Rec} (h:Az C ow st s i n=some (st',rc)): ∃v u,Ent C ow st st' s i n rc v u:=by
 unfold Az at h
 cases a:st.want s.guard with
 |none=>rw [a] at h;cases h
 |some b=>
  rw [a] at h
  cases b with
  |false=>
   cases h
   exact ⟨.lit (.tuple #[]),[],rfl,rfl,rfl,.inl ⟨a,rfl,rfl⟩⟩
  |true=>
   dsimp only at h
   split at h
   ·rename_i v u c
    split at h
    ·rename_i hc
     cases h
     simp only [an,dZ,aA,Option.isNone_iff_eq_none] at hc
     exact ⟨v,u,rfl,rfl,rfl,.inr ⟨a,c,hc⟩⟩
    ·cases h
   ·cases h
def a2A (deps:List (List Nat)) (p q:Rec):Prop:=(p.wr.isEmpty&&q.wr.isEmpty||(deps.getD q.i []).contains p.i|| !Vb p q)=true
theorem OO {deps:List (List Nat)} {p:Rec}: ∀{l:List Rec},G4 deps p l=true-> ∀q∈l,a2A deps p q
 |[],_,q,a=>by simp at a
 |x::r,h,q,a=>by
  simp only [G4,aB] at h
  rcases aW.1 a with rfl|a
  ·exact h.1
  ·exact OO h.2 q a
theorem KT {deps:List (List Nat)}: ∀{l:List Rec},tE deps l=true->l.Pairwise (a2A deps)
 |[],_=>List.Pairwise.nil
 |x::r,h=>by
  simp only [tE,aB] at h
  exact List.Pairwise.cons (fun q a=>OO h.1 q a) (KT h.2)
theorem a04 {deps:List (List Nat)} {rs:List Rec} (h:tE deps (rs.filter Rec.loud)=true) {i j:Nat} {p q:Rec} (k:i<j) (l:rs[i]? =some p) (m:rs[j]? =some q) (hc:Vb p q=true):
 p.i∈deps.getD q.i []:=by
 have n:=KT h
 rw [List.pairwise_filter,o6] at n
 have hi:=dS l
 have o:=dS m
 have r:=n i j hi o k
 rw [aq hi] at l
 rw [aq o] at m
 cases l;cases m
 have c:=hc
 simp only [Vb,dZ,jm] at c
 have lp:Rec.loud rs[i]=true:=by
  unfold Rec.loud
  rcases c with ⟨b,e,_⟩|⟨b,e,a⟩
  ·cases d:(rs[i]).wr with
   |nil=>rw [d] at e;cases e
   |cons x y=>simp
  ·cases d:(rs[i]).fp with
   |nil=>rw [d] at a;simp at a
   |cons x y=>simp
 have lq:Rec.loud rs[j]=true:=by
  unfold Rec.loud
  rcases c with ⟨b,e,a⟩|⟨b,e,a⟩
  ·rcases a with a|a
   ·cases d:(rs[j]).fp with
    |nil=>rw [d] at a;simp at a
    |cons x y=>simp
   ·cases d:(rs[j]).wr with
    |nil=>rw [d] at a;simp at a
    |cons x y=>simp
  ·cases d:(rs[j]).wr with
   |nil=>rw [d] at e;cases e
   |cons x y=>simp
 have f:=r lp lq
 unfold a2A at f
 rw [hc] at f
 simp only [aQ,Bool.or_false,dZ,aB,List.contains_eq_mem,aA] at f
 rcases f with ⟨e1,e2⟩|f
 ·exfalso
  rw [List.isEmpty_iff] at e1 e2
  rw [e1,e2] at c
  simp at c
 ·exact f
structure c0n (ops:List Oper) (steps:List cx) (deps:List (List Nat)):Prop where
 back: ∀(j:Nat) (o:Oper),j<steps.length->ops[j]? =some o-> ∀e∈o.after,Region.binds .any e=true->e.on<j
 lt: ∀(j:Nat),j<steps.length-> ∀d∈deps.getD j [],d<j
 edge: ∀(j:Nat) (o:Oper),j<steps.length->ops[j]? =some o-> ∀d∈deps.getD j [], ∃e∈o.after,Region.binds .any e=true/\(e.on=d\/d∈deps.getD e.on [])
 ap: ∀(i j:Nat) (x y:cx),i<j->steps[i]? =some x->steps[j]? =some y->i∈deps.getD j []\/Ya x y=true
theorem Wp {ops:List Oper} {steps:List cx} {deps:List (List Nat)} (h:PY ops steps deps=true):c0n ops steps deps:=by
 unfold PY at h
 rw [an] at h
 have H:=fun j (a:j<steps.length)=>h j (bS.2 a)
 simp only [aB] at H
 refine ⟨fun j o a b e c f=> ?_,fun j a d k=> ?_,fun j o a b d k=> ?_,fun i j x y l p n=> ?_⟩
 ·have:=(H j a).1.1
  rw [b] at this
  simp only [fj,dL,an] at this
  have:=this e (Array.mem_toList_iff.2 c)
  rw [f] at this
  simp only [aQ,Bool.false_or,aB,aA] at this
  exact this.1.1
 ·have:=(H j a).1.2
  rw [an] at this
  have:=this d k
  simp only [aB,aA] at this
  exact this.1
 ·have:=(H j a).1.2
  rw [an] at this
  have:=this d k
  rw [b] at this
  simp only [aB,aA,fj,dL,jm,dZ,beq_iff_eq,List.contains_eq_mem] at this
  obtain ⟨_,e,c,f,m⟩:=this
  exact ⟨e,Array.mem_toList_iff.1 c,f,m⟩
 ·have:=(H j (dS n)).2
  rw [an] at this
  have:=this i (bS.2 l)
  rw [p,n] at this
  simpa using this
theorem OB {x y:cx} (h:Ya x y=true):(∀d,x.dst=some d->d∉It y)/\(∀d,x.dst=some d->y.dst≠some d)/\(∀d,y.dst=some d->d∉It x):=by
 refine ⟨fun d a=> ?_,fun d a=> ?_,fun d a=> ?_⟩<;>simp [Ya,a] at h
 ·exact h.1.1
 ·exact h.1.2
 ·exact h.2
theorem z7 {P:Program} {n:Nat} {ops:Array Oper}: ∀{l:List Oper} {steps:List cx},md P n ops l=some steps->steps.length=l.length/\ ∀(i:Nat) (o:Oper),l[i]? =some o-> ∃s,steps[i]? =some s/\LP P n ops o=some s
 |[],steps,h=>by simp [md] at h;subst h;exact ⟨rfl,fun i o ho=>by simp at ho⟩
 |o::l,steps,h=>by
  simp only [md] at h
  split at h
  ·rename_i s r h1 h2
   cases h
   obtain ⟨a1,a2⟩:=z7 h2
   refine ⟨by simp [a1],fun i o' ho=> ?_⟩
   cases i with
   |zero=>simp at ho;subst ho;exact ⟨s,rfl,h1⟩
   |succ i=>simpa using a2 i o' (by simpa using ho)
  ·cases h
end
section
structure Run (P:Program) (C:cr) (ow:ff) (n:Nat) (ops:Array Oper) (steps:List cx) (deps:List (List Nat)) (base:Nat) (rs:List Rec) (sts:Nat->St) (vs:Nat->V) (us:Nat->Upd):Prop where
 cs:md P n ops ops.toList=some steps
 D:c0n ops.toList steps deps
 ent: ∀(i:Nat) (s:cx),steps[i]? =some s-> ∃rc,rs[i]? =some rc/\Ent C ow (sts i) (sts (i+1)) s i (base+i) rc (vs i) (us i)
 po:tE deps (rs.filter Rec.loud)=true
def pb (steps:List cx) (i:Nat):Option Nat:=(steps[i]?).bind (·.dst)
def Dv (S:Nat->Bool) (i:Nat):Nat->Bool:=fun j=>if j=i then true else S j
section
variable {P:Program} {C:cr} {ow:ff} {n:Nat} {ops:Array Oper} {steps:List cx} {deps:List (List Nat)} {base:Nat} {rs:List Rec} {sts:Nat->St} {vs:Nat->V} {us:Nat->Upd}
theorem Run.heapAt (R:Run P C ow n ops steps deps base rs sts vs us): ∀{i:Nat},i<=steps.length->(sts i).heap=hat us (fun _=>true) i (sts 0).heap
 |0,_=>rfl
 |i+1,h=>by
  obtain ⟨s,a⟩:=fC (l:=steps) (i:=i) om
  obtain ⟨rc,_,E⟩:=R.ent i s a
  rw [E.nx,St.put_heap,St.upd_heap,R.heapAt om]
  rfl
theorem Run.getAt (R:Run P C ow n ops steps deps base rs sts vs us): ∀{i:Nat},i<=steps.length->(sts i).get=fat (pb steps) vs (fun _=>true) i (sts 0).get
 |0,_=>rfl
 |i+1,h=>by
  obtain ⟨s,a⟩:=fC (l:=steps) (i:=i) om
  obtain ⟨rc,_,E⟩:=R.ent i s a
  funext t
  rw [E.nx,St.put_get,St.upd_get,R.getAt om]
  show _=(if pb steps i=some t then vs i else _)
  have:pb steps i=s.dst:=by simp [pb,a]
  rw [this]
theorem Run.ordB (R:Run P C ow n ops steps deps base rs sts vs us) {i j:Nat} {s:cx} {rc:Rec} (m:steps[i]? =some s) (c:rs[i]? =some rc) (E:Ent C ow (sts i) (sts (i+1)) s i (base+i) rc (vs i) (us i))
 (h:j<steps.length) (k:j≠i) {b:Nat} (d:b∈(us j).map (·.1)) (hi:b∈rc.fp\/b∈(us i).map (·.1)):if j<i then j∈deps.getD i [] else i∈deps.getD j []:=by
 obtain ⟨s',e⟩:=fC h
 obtain ⟨rc',a,E'⟩:=R.ent j s' e
 rw [<-E.wr] at hi
 rw [<-E'.wr] at d
 split
 ·rename_i f
  have:=a04 R.po f a c (by
   simp only [Vb,dZ,jm]
   left
   exact ⟨b,d,by simpa using hi⟩)
  rwa [E.ri,E'.ri] at this
 ·rename_i l
  have:=a04 R.po (show i<j by omega) c a (by
   simp only [Vb,dZ,jm]
   rcases hi with hi|hi
   ·right;exact ⟨b,d,by simpa using hi⟩
   ·left;exact ⟨b,hi,by simp [d]⟩)
  rwa [E.ri,E'.ri] at this
theorem Run.ordT (R:Run P C ow n ops steps deps base rs sts vs us) {i j:Nat} {s:cx} (e:steps[i]? =some s) (l:j<steps.length) (m:j≠i) {t:Nat} (o:pb steps j=some t)
 (hi:t∈It s\/pb steps i=some t):if j<i then j∈deps.getD i [] else i∈deps.getD j []:=by
 obtain ⟨s',a⟩:=fC l
 have d:s'.dst=some t:=by simpa [pb,a] using o
 have c:t∈It s\/s.dst=some t:=by simpa [pb,e] using hi
 split
 ·rename_i f
  rcases R.D.ap j i s' s f a e with b|b
  ·exact b
  ·obtain ⟨k,a2,a3⟩:=OB b
   exact absurd c (by rintro (h|h);exact k t d h;exact a2 t d h)
 ·rename_i p
  rcases R.D.ap i j s s' om e a with b|b
  ·exact b
  ·obtain ⟨k,a2,a3⟩:=OB b
   exact absurd c (by rintro (h|h);exact a3 t d h;exact a2 t h d)
structure Rdy (deps:List (List Nat)) (S:Nat->Bool) (i:Nat):Prop where
 cl: ∀j,S j=true-> ∀d∈deps.getD j [],S d=true
 no:S i=false
 pre: ∀d∈deps.getD i [],S d=true
theorem Rdy.side {S:Nat->Bool} {i j:Nat} (r:Rdy deps S i) (c:j≠i) (h:if j<i then j∈deps.getD i [] else i∈deps.getD j []):S j=decide (j<i):=by
 split at h
 ·rename_i a;rw [r.pre j h];simp [a]
 ·rename_i b
  cases d:S j with
  |false=>simp [b]
  |true=>have:=r.cl j d i h;rw [r.no] at this;cases this
section
variable {i:Nat} {s:cx} {rc:Rec} {S:Nat->Bool}
theorem Run.seeT (R:Run P C ow n ops steps deps base rs sts vs us) (a:steps[i]? =some s) (r:Rdy deps S i) {t:Nat} (b:t∈It s\/pb steps i=some t):
 fat (pb steps) vs S steps.length (sts 0).get t=(sts i).get t:=by
 have hi:=dS a
 rw [R.getAt (i:=i) om, <-a4w (N:=steps.length) om]
 refine zZ (fun j c d=> ?_)
 by_cases e:j=i
 ·subst e;rw [r.no];simp
 ·exact r.side e (R.ordT a c e d b)
theorem Run.seeB (R:Run P C ow n ops steps deps base rs sts vs us) (c:steps[i]? =some s) (a:rs[i]? =some rc) (E:Ent C ow (sts i) (sts (i+1)) s i (base+i) rc (vs i) (us i)) (r:Rdy deps S i)
 {b:Nat} (d:b∈rc.fp\/b∈(us i).map (·.1)):hat us S steps.length (sts 0).heap b=(sts i).heap b:=by
 have hi:=dS c
 rw [R.heapAt (i:=i) om, <-a5a (N:=steps.length) om]
 refine zU (fun j f h=> ?_)
 by_cases e:j=i
 ·subst e;rw [r.no];simp
 ·exact r.side e (R.ordB c a E f e h d)
theorem Run.setT (R:Run P C ow n ops steps deps base rs sts vs us) (c:steps[i]? =some s) (r:Rdy deps S i):
 fat (pb steps) vs (Dv S i) steps.length (sts 0).get=fun t=>if s.dst=some t then vs i else fat (pb steps) vs S steps.length (sts 0).get t:=by
 have hi:=dS c
 have d:pb steps i=s.dst:=by simp [pb,c]
 funext t
 by_cases b:s.dst=some t
 ·rw [aa b]
  have e1:fat (pb steps) vs (Dv S i) steps.length (sts 0).get t=fat (pb steps) vs (fun j=>decide (j<i+1)) steps.length (sts 0).get t:=by
   refine zZ (fun j f a=> ?_)
   unfold Dv
   by_cases e:j=i
   ·subst e;simp
   ·rw [a7 e,r.side e (R.ordT c f e a (.inr (by rw [d];exact b)))]
    by_cases h:j<i
    ·simp [h];omega
    ·simp [h];omega
  rw [e1,a4w om, <-R.getAt om]
  obtain ⟨rc,_,E⟩:=R.ent i s c
  rw [E.nx,St.put_get,aa b]
 ·rw [a7 b]
  refine zZ (fun j f a=> ?_)
  unfold Dv
  by_cases e:j=i
  ·subst e;rw [d] at a;exact absurd a b
  ·rw [a7 e]
theorem Run.setB (R:Run P C ow n ops steps deps base rs sts vs us) (f:steps[i]? =some s) (d:rs[i]? =some rc) (E:Ent C ow (sts i) (sts (i+1)) s i (base+i) rc (vs i) (us i)) (r:Rdy deps S i):
 hat us (Dv S i) steps.length (sts 0).heap=hU (hat us S steps.length (sts 0).heap) (us i):=by
 have hi:=dS f
 funext b
 by_cases c:b∈(us i).map (·.1)
 ·have e1:hat us (Dv S i) steps.length (sts 0).heap b=hat us (fun j=>decide (j<i+1)) steps.length (sts 0).heap b:=by
   refine zU (fun j h a=> ?_)
   unfold Dv
   by_cases e:j=i
   ·subst e;simp
   ·rw [a7 e,r.side e (R.ordB f d E h e a (.inr c))]
    by_cases k:j<i
    ·simp [k];omega
    ·simp [k];omega
  rw [e1,a5a om, <-R.heapAt om,E.nx,St.put_heap,St.upd_heap]
  exact Yc c
 ·rw [xR c]
  refine zU (fun j h a=> ?_)
  unfold Dv
  by_cases e:j=i
  ·subst e;exact absurd a c
  ·rw [a7 e]
end
end
section
variable {P:Program} {C:cr} {ow:ff} {n:Nat} {ops:Array Oper} {steps:List cx} {deps:List (List Nat)} {base:Nat} {rs:List Rec} {sts:Nat->St} {vs:Nat->V} {us:Nat->Upd}
theorem T2 [Frame] {ops:Array Oper} {o:Oper} {s:cx} (CS:c4g P n ops o s) {f:Nat->V} {μ:Mu} {h:ba} {w:World} {a:Act} (E:ic μ h w f a) {b:Bool} (i:O9 f s.guard=some b):
 Region.wanted o (yielded ops a.tmps)=b:=by
 cases j:s.guard with
 |none=>
  rw [j] at i
  exact MZ (st:=⟨[],[]⟩) CS (μ:=μ) (h:=fun _=>none) (w:=w) (a:=a) (fun t=>by show b7 _ _ _ .undef _;exact .unk _) (by rw [j];exact i)
 |some p=>
  obtain ⟨t,c⟩:=p
  rw [j] at i
  cases d:f t with
  |lit y=>
   refine MZ (st:=⟨[(t,.lit y)],[]⟩) CS (μ:=μ) (h:=h) (w:=w) (a:=a) (fun t'=> ?_) ?_
   ·show b7 μ h w ((eH [(t,V.lit y)] t').getD .undef) _
    simp only [eH]
    by_cases e:t=t'
    ·rw [aa e];have:=E t';rw [<-e,d] at this;rw [<-e];exact this
    ·rw [a7 e];exact .unk _
   ·rw [j,X6]
    have e1:St.get ⟨[(t,.lit y)],[]⟩ t= .lit y:=by show (eH [(t,V.lit y)] t).getD .undef=_;simp [eH]
    simp only [O9,e1]
    simp only [O9,d] at i
    exact i
  |_=>simp [O9,d] at i
theorem Run.one [Frame] (R:Run P C ow n ops steps deps base rs sts vs us) (hC:ny P C) {Q:Exit->Act->World->Prop} {μ0:Mu} {h0:ba} {w0:World} {S:Nat->Bool} {i:Nat} {o:Oper} (ho:ops[i]? =some o) (r:Rdy deps S i)
 {μ:Mu} {a:Act} {w:World} (I:Inv n (fat (pb steps) vs S steps.length (sts 0).get) (hat us S steps.length (sts 0).heap) μ a w) (Si:nX μ0 h0 w0 μ (hat us S steps.length (sts 0).heap) w) {K:Act->World->Prop}
 (HK: ∀μ' a' w',Inv n (fat (pb steps) vs (Dv S i) steps.length (sts 0).get) (hat us (Dv S i) steps.length (sts 0).heap) μ' a' w'->nX μ0 h0 w0 μ' (hat us (Dv S i) steps.length (sts 0).heap) w'->K a' w'):
 wpOp P ops Q i K a w:=by
 obtain ⟨s,h,z⟩:=(z7 R.cs).2 i o (by simpa using ho)
 have CS:=ID z
 obtain ⟨rc,j,E⟩:=R.ent i s h
 have hT:=R.setT h r
 have hB:=R.setB h j E r
 rw [hT,hB] at HK
 have seeG:O9 (fat (pb steps) vs S steps.length (sts 0).get) s.guard=O9 (sts i).get s.guard:=by
  cases hg:s.guard with
  |none=>rfl
  |some p=>
   obtain ⟨t,c⟩:=p
   simp only [O9]
   rw [R.seeT h r (.inl (by simp [It,hg]))]
 unfold wpOp
 rw [ho]
 simp only
 rcases E.kind with ⟨m,hv,hu⟩|⟨m,q,l⟩
 ·rw [X6, <-seeG] at m
  rw [T2 CS I.E m]
  simp only [bC,if_false]
  rw [hv,hu] at HK
  refine HK μ _ w ?_ Si
  rw [CS.dst]
  exact I.put_skip CS.lt (.lit _)
 ·rw [X6, <-seeG] at m
  rw [T2 CS I.E m]
  simp only [if_true]
  have hev: ∀x∈s.op.opds,(sts i).ev x=Opd.ev (fat (pb steps) vs S steps.length (sts 0).get) x:=by
   intro x hx
   cases x with
   |t t=>
    show (sts i).get t=_
    have:t∈It s:=by
     unfold It
     exact List.mem_append_left _ (List.mem_filterMap.2 ⟨.t t,hx,rfl⟩)
    rw [<-R.seeT h r (.inl this)]
    rfl
   |c v=>rfl
   |f k=>rfl
  rw [a08 hev] at q
  have hle:Le (vl (sts i).heap rc.fp) (hat us S steps.length (sts 0).heap):=by
   intro b k y
   unfold vl at y
   split at y
   ·rename_i hb
    rw [R.seeB h j E r (.inl hb)]
    exact y
   ·cases y
  have u:=b4w hle q (fun b hm h0=>by
   rw [R.seeB h j E r (.inr hm)]
   rcases l b hm with hb|e
   ·unfold vl at h0;rw [aa hb] at h0;exact h0
   ·exact e)
  refine .inl (S9 hC I.H I.E CS.op u (fun x w' μ' H' C' V'=> ?_))
  refine HK μ' _ w' ?_ ⟨Si.C.trans C',Si.lo⟩
  have E':ic μ' _ w' _ a:=fun t=>(I.E t).chg C'
  have:=(Inv.mk H' E' I.sz I.df).put_skip (d:=o.dst) CS.lt V'
  rw [CS.dst]
  exact this
def B2 (N:Nat) (listed:Array Bool):Nat:=(List.range N).countP (fun i=> !listed.getD i false)
theorem a7V {p q:Nat->Bool} {l:List Nat} {i:Nat} (hi:i∈l) (b:p i=true) (c:q i=false) (a: ∀j,q j=true->p j=true):l.countP q<l.countP p:=by
 induction l with
 |nil=>simp at hi
 |cons x r ih=>
  rw [rC,rC]
  have d:r.countP q<=r.countP p:=List.countP_mono_left (fun j _ e=>a j e)
  rcases aW.1 hi with rfl|hi
  ·rw [b,c];simp;omega
  ·have:=ih hi
   cases f:q x with
   |true=>rw [a x f];simp;omega
   |false=>simp;split<;>omega
theorem Run.any [Frame] (R:Run P C ow n ops steps deps base rs sts vs us) (hC:ny P C) {Q:Exit->Act->World->Prop} {μ0:Mu} {h0:ba} {w0:World}
 (K: ∀μ a w,Inv n (sts steps.length).get (sts steps.length).heap μ a w->nX μ0 h0 w0 μ (sts steps.length).heap w->Q .normal a w): ∀(fuel:Nat) (listed:Array Bool) (a:Act) (w:World) (μ:Mu),listed.size=steps.length->
 B2 steps.length listed<=fuel->(∀j,listed.getD j false=true-> ∀d∈deps.getD j [],listed.getD d false=true)->
 Inv n (fat (pb steps) vs (fun j=>listed.getD j false) steps.length (sts 0).get) (hat us (fun j=>listed.getD j false) steps.length (sts 0).heap) μ a w->
 nX μ0 h0 w0 μ (hat us (fun j=>listed.getD j false) steps.length (sts 0).heap) w->wpAny P .any ops Q fuel listed a w:=by
 have hlen:steps.length=ops.size:=by rw [(z7 R.cs).1,Array.length_toList]
 have getEq: ∀(listed:Array Bool) (j:Nat),j<listed.size->listed.getD j true=listed.getD j false:=by
  intro listed j c
  rw [Array.getD_eq_getD_getElem?,Array.getD_eq_getD_getElem?,aH c];rfl
 have stop: ∀(listed:Array Bool),listed.size=steps.length->Region.ready .any ops listed=[]-> ∀j,j<steps.length->listed.getD j false=true:=by
  intro listed f q j
  induction j using Nat.strongRecOn with
  |_ j ih=>
   intro c
   cases y:listed.getD j false with
   |true=>rfl
   |false=>
    obtain ⟨o,l⟩: ∃o,ops[j]? =some o:=⟨ops[j],aH om⟩
    have:j∈Region.ready .any ops listed:=mem_ready.2 ⟨by rw [getEq _ _ om];exact y,o,l,fun e he hb=>by
     have s:=R.D.back j o c (by simpa using l) e he hb
     exact ih e.on s om⟩
    rw [q] at this;cases this
 have fin: ∀(listed:Array Bool) (a:Act) (w:World) (μ:Mu),listed.size=steps.length->Region.ready .any ops listed=[]->
  Inv n (fat (pb steps) vs (fun j=>listed.getD j false) steps.length (sts 0).get) (hat us (fun j=>listed.getD j false) steps.length (sts 0).heap) μ a w->
  nX μ0 h0 w0 μ (hat us (fun j=>listed.getD j false) steps.length (sts 0).heap) w->Q .normal a w:=by
  intro listed a w μ f q I Si
  have m:=stop listed f q
  have e1:fat (pb steps) vs (fun j=>listed.getD j false) steps.length (sts 0).get=(sts steps.length).get:=by
   rw [R.getAt (am _)]
   funext t
   exact zZ (fun j c _=>m j c)
  have e2:hat us (fun j=>listed.getD j false) steps.length (sts 0).heap=(sts steps.length).heap:=by
   rw [R.heapAt (am _)]
   funext b
   exact zU (fun j c _=>m j c)
  rw [e1,e2] at I
  rw [e2] at Si
  exact K μ a w I Si
 intro fuel
 induction fuel with
 |zero=>
  intro listed a w μ f hf k I Si
  have h:Region.ready .any ops listed=[]:=by
   cases q:Region.ready .any ops listed with
   |nil=>rfl
   |cons x r=>
    exfalso
    have hx:x∈Region.ready .any ops listed:=by rw [q];simp
    obtain ⟨v,o,l,_⟩:=mem_ready.1 hx
    have s:x<ops.size:=(nJ.1 l).1
    rw [getEq _ _ om] at v
    have:0<B2 steps.length listed:=by
     unfold B2
     rw [List.countP_pos_iff]
     exact ⟨x,bS.2 om,by rw [v];rfl⟩
    omega
  exact ⟨h,fin listed a w μ f h I Si⟩
 |succ fuel ih=>
  intro listed a w μ f hf k I Si
  refine ⟨fun q=>fin listed a w μ f q I Si,fun i hi=> ?_⟩
  obtain ⟨v,o,l,u⟩:=mem_ready.1 hi
  have s:i<ops.size:=(nJ.1 l).1
  rw [getEq _ _ om] at v
  have p: ∀d∈deps.getD i [],listed.getD d false=true:=by
   intro d z
   obtain ⟨e,he,hb,hor⟩:=R.D.edge i o om (by simpa using l) d z
   have y:=u e he hb
   rcases hor with h2|h2
   ·rw [<-h2];exact y
   ·exact k e.on y d h2
  have ci:(fun j=>(listed.setIfInBounds i true).getD j false)=Dv (fun j=>listed.getD j false) i:=by
   funext j
   unfold Dv
   by_cases e:j=i
   ·subst e
    rw [aa rfl,Array.getD_eq_getD_getElem?]
    have:j<listed.size:=by omega
    simp [this]
   ·rw [a7 e,getD_set_ne false (Ne.symm e)]
  refine R.one hC l ⟨k,v,p⟩ I Si (fun μ' a' w' I' Si'=> ?_)
  rw [<-ci] at I' Si'
  refine ih (listed.setIfInBounds i true) a' w' μ' (by simpa using f) ?_ ?_ I' Si'
  ·have:B2 steps.length (listed.setIfInBounds i true)<B2 steps.length listed:=by
    unfold B2
    refine a7V (i:=i) (bS.2 om) (by rw [v];rfl) ?_ (fun j c=> ?_)
    ·have e1:(listed.setIfInBounds i true).getD i false=Dv (fun j=>listed.getD j false) i i:=congrFun ci i
     rw [e1];simp [Dv]
    ·have e1:(listed.setIfInBounds i true).getD j false=Dv (fun j=>listed.getD j false) i j:=congrFun ci j
     rw [e1] at c
     unfold Dv at c
     split at c
     ·cases c
     ·exact c
   omega
  ·intro j c d z
   have e1:(listed.setIfInBounds i true).getD j false=Dv (fun j=>listed.getD j false) i j:=congrFun ci j
   have e2:(listed.setIfInBounds i true).getD d false=Dv (fun j=>listed.getD j false) i d:=congrFun ci d
   rw [e1] at c
   rw [e2]
   unfold Dv at c ⊢
   split
   ·rfl
   ·split at c
    ·rename_i e;subst e;exact p d z
    ·exact k j c d z
theorem a0C [Frame] (x:ny P C) {id:Nat} {live:List Nat} {Q:Exit->Act->World->Prop} {μ0:Mu} {h0:ba} {w0:World} {st st':St} {e:dd} {μ:Mu} {a:Act} {w:World} (y:P.follows .mixedOrders=true)
 (hc:md P n ops ops.toList=some steps) (z:PY ops.toList steps deps=true) (c:Cb C ow base steps deps live st=some (e,st')) (I:Inv n st.get st.heap μ a w) (S:nX μ0 h0 w0 μ st.heap w)
 (K: ∀μ' a' w',Inv n st'.get st'.heap μ' a' w'->nX μ0 h0 w0 μ' st'.heap w'->Q .normal a' w'):e= .normal/\(Code.region id ops true).wp P Q a w:=by
 unfold Cb at c
 split at c
 ·rename_i st1 rs h1
  split at c
  ·rename_i l
   cases c
   obtain ⟨hl,sts,e0,e1,e2⟩:=Oe h1
   have m: ∀i, ∃vu:V×Upd, ∀s,steps[i]? =some s-> ∃rc,rs[i]? =some rc/\Ent C ow (sts i) (sts (i+1)) s i (base+i) rc vu.1 vu.2:=by
    intro i
    cases o:steps[i]? with
    |none=>exact ⟨(.undef,[]),fun s c=>by cases c⟩
    |some s=>
     obtain ⟨rc,g1,q⟩:=e2 i s o
     rw [ce] at q
     obtain ⟨v,u,E⟩:=a3X q
     exact ⟨(v,u),fun s' p=>by cases p;exact ⟨rc,g1,E⟩⟩
   obtain ⟨g,hg⟩:=Classical.axiomOfChoice m
   have R:Run P C ow n ops steps deps base rs sts (fun i=>(g i).1) (fun i=>(g i).2):=⟨hc,Wp z,fun i s c=>hg i s c,l⟩
   refine ⟨rfl,wp_region_any y ?_⟩
   have d:steps.length=ops.size:=by rw [(z7 hc).1,Array.length_toList]
   have k:Am w { w with drawn:=w.drawn+1 }:=⟨rfl,rfl,rfl,am _,fun _ _=>rfl,p7 _⟩
   have C1:=k.chg I.H
   have b:(fun j=>(Array.replicate ops.size false).getD j false)=fun _=>false:=by
    funext j
    rw [Array.getD_eq_getD_getElem?,Array.getElem?_replicate]
    split<;>rfl
   have ef:fat (pb steps) (fun i=>(g i).1) (fun _=>false) steps.length (sts 0).get=st.get:=by
    have:=Rc (ds:=pb steps) (vs:=fun i=>(g i).1) (S:=fun _=>false) (f:=(sts 0).get) (i:=0) (fun _ _=>rfl) steps.length
    rw [ce] at this
    rw [this,e0];rfl
   have eh:hat (fun i=>(g i).2) (fun _=>false) steps.length (sts 0).heap=st.heap:=by
    have:=R5 (us:=fun i=>(g i).2) (S:=fun _=>false) (h:=(sts 0).heap) (i:=0) (fun _ _=>rfl) steps.length
    rw [ce] at this
    rw [this,e0];rfl
   refine R.any x (μ0:=μ0) (h0:=h0) (w0:=w0) (fun μ' a' w' I' S'=> ?_) ops.size (Array.replicate ops.size false) a _ μ (by simp [d]) ?_ (fun j r=> ?_) ?_ ?_
   ·rw [e1] at I' S'
    exact K μ' a' w' (I'.trim live) S'
   ·unfold B2
    exact fT sH (by simp [d])
   ·have e3:(Array.replicate ops.size false).getD j false=false:=congrFun b j
    rw [e3] at r;cases r
   ·rw [b,ef,eh]
    exact ⟨I.H.grown k,fun t=>(I.E t).chg C1,I.sz,I.df⟩
   ·rw [b,eh]
    exact ⟨S.C.trans C1,S.lo⟩
  ·cases c
 ·cases c
end
end
end Go.AI
