/- Part. -/
import Derived.Test.YtdnkignjanfikaaGreatAiGhost
import Derived.Test.YtdnkignjanfikaaGreatAiMono
set_option linter.unusedVariables false
set_option linter.unusedSimpArgs false
namespace Go.AI
section
theorem Jc {ev ev':Opd->V}: ∀{ps:List (Nat×Nat×Opd)},(∀x∈ps.map (·.2.2),ev x=ev' x)->jz ev ps=jz ev' ps
 |[],_=>rfl
 | (a,b,x)::r,h=>by
   simp only [jz]
   rw [h x sm,Jc (fun y hy=>h y (by simp at hy ⊢;exact .inr hy))]
theorem Fm {hp:ba} {ev ev':Opd->V}: ∀{ps:List (Nat×Opd)},(∀x∈ps.map (·.2),ev x=ev' x)->fC hp ev ps=fC hp ev' ps
 |[],_=>rfl
 | (a,x)::r,h=>by
   simp only [fC]
   rw [h x sm,Fm (fun y hy=>h y (by simp at hy ⊢;exact .inr hy))]
theorem EM {ev ev':Opd->V} {o:Option Opd} (h: ∀x∈Lp o,ev x=ev' x):o.map ev=o.map ev':=by
 cases o with
 |none=>rfl
 |some x=>simp [h x (by simp [Lp])]
theorem a0S {C:cr} {ow:FuncId->List Nat} {o:AOp} {ev ev':Opd->V} {b:ba} {n:Nat} (h: ∀x∈o.opds,ev x=ev' x):aK C ow o ev b n=aK C ow o ev' b n:=by
 cases o<;>simp only [AOp.opds,aW,aJ,List.not_mem_nil,or_false,forall_eq_or_imp,forall_eq] at h<;>simp only [aK]
 case build z ps=>rw [Jc (fun x a=>h x a)]
 case buildSlice e z l ps=>rw [Fm (fun x a=>h x a)]
 case makeFunc f cs=>rw [bn (fun x a=>h x a)]
 case call f cs=>rw [bn (fun x a=>h x a)]
 case dyn f cs=>rw [h.1,bn (fun x a=>h.2 x a)]
 case sliceStr x lo hi=>rw [h.1,EM (fun x a=>h.2 x (.inl a)),EM (o:=hi) (fun x a=>h.2 x (.inr a))]
 case slice e x lo hi mx=>rw [h.1,EM (fun x a=>h.2 x (.inl a)),EM (o:=hi) (fun x a=>h.2 x (.inr (.inl a)))]
 all_goals first
  | (rw [h];done)
  | (rw [h.1,h.2];done)
  | (rw [h.1,h.2.1,h.2.2];done)
  |rfl
def Oo (f:Nat->V):Option (Nat×Bool)->Option Bool
 |none=>some true
 |some (t,b)=>match f t with
  | .lit (.bool c)=>some (c==b)
  | .lit (.tuple _)=>some false
  |_=>none
theorem XR (st:St) (g:Option (Nat×Bool)):st.want g=Oo st.get g:=by cases g<;>rfl
theorem y4: ∀{u:Upd} {h:ba} {b:Nat},b∉u.map (·.1)->i4 h u b=h b
 |[],h,b,_=>rfl
 | (i,k)::r,h,b,a=>by
   simp only [aM,aW,not_or] at a
   show i4 (ci h i k) r b=h b
   rw [y4 a.2]
   simp [ci,a.1]
theorem WQ: ∀{u:Upd} {h h':ba} {b:Nat},b∈u.map (·.1)->i4 h u b=i4 h' u b
 |[],h,h',b,a=>by simp at a
 | (i,k)::r,h,h',b,a=>by
   show i4 (ci h i k) r b=i4 (ci h' i k) r b
   by_cases c:b∈r.map (·.1)
   ·exact WQ c
   ·rw [y4 c,y4 c]
    simp only [aM,aW] at a
    have:b=i:=a.resolve_right c
    simp [ci,this]
def hat (us:Nat->Upd) (S:Nat->Bool):Nat->ba->ba
 |0,h=>h
 |k+1,h=>if S k=true then i4 (hat us S k h) (us k) else hat us S k h
def fat (ds:Nat->Option Nat) (vs:Nat->V) (S:Nat->Bool):Nat->(Nat->V)->Nat->V
 |0,f=>f
 |k+1,f=>if S k=true then (fun t=>if ds k=some t then vs k else fat ds vs S k f t) else fat ds vs S k f
theorem zS {us:Nat->Upd} {S S':Nat->Bool} {h:ba} {b:Nat}: ∀{k:Nat},(∀j,j<k->b∈(us j).map (·.1)->S j=S' j)->hat us S k h b=hat us S' k h b
 |0,_=>rfl
 |k+1,H=>by
  have ih:=zS (k:=k) (us:=us) (S:=S) (S':=S') (h:=h) (b:=b) (fun j c a=>H j om a)
  simp only [hat]
  by_cases a:b∈(us k).map (·.1)
  ·rw [H k om a]
   split
   ·exact WQ a
   ·exact ih
  ·split<;>split
   ·rw [y4 a,y4 a];exact ih
   ·rw [y4 a];exact ih
   ·rw [y4 a];exact ih
   ·exact ih
theorem zN {ds:Nat->Option Nat} {vs:Nat->V} {S S':Nat->Bool} {f:Nat->V} {t:Nat}: ∀{k:Nat},(∀j,j<k->ds j=some t->S j=S' j)->fat ds vs S k f t=fat ds vs S' k f t
 |0,_=>rfl
 |k+1,H=>by
  have ih:=zN (k:=k) (ds:=ds) (vs:=vs) (S:=S) (S':=S') (f:=f) (t:=t) (fun j b a=>H j om a)
  simp only [fat]
  by_cases a:ds k=some t
  ·rw [H k om a]
   split
   ·simp [a]
   ·exact ih
  ·split<;>split
   ·simp only [a,if_false];exact ih
   ·simp only [a,if_false];exact ih
   ·simp only [a,if_false];exact ih
   ·exact ih
theorem R2 {us:Nat->Upd} {S:Nat->Bool} {h:ba} {i:Nat} (H: ∀j,i<=j->S j=false): ∀d,hat us S (i+d) h=hat us S i h
 |0=>rfl
 |d+1=>by
  show (if S (i+d)=true then _ else hat us S (i+d) h)=_
  rw [H (i+d) om]
  exact R2 H d
theorem Tn {ds:Nat->Option Nat} {vs:Nat->V} {S:Nat->Bool} {f:Nat->V} {i:Nat} (H: ∀j,i<=j->S j=false): ∀d,fat ds vs S (i+d) f=fat ds vs S i f
 |0=>rfl
 |d+1=>by
  show (if S (i+d)=true then _ else fat ds vs S (i+d) f)=_
  rw [H (i+d) om]
  exact Tn H d
theorem a5p {us:Nat->Upd} {h:ba} {i N:Nat} (hi:i<=N) (b:Nat):hat us (fun j=>decide (j<i)) N h b=hat us (fun _=>true) i h b:=by
 obtain ⟨d,rfl⟩: ∃d,N=i+d:=⟨N-i,by omega⟩
 rw [R2 (fun j a=>by simp;omega)]
 exact zS (fun j a _=>by simp [a])
theorem a6v {ds:Nat->Option Nat} {vs f:Nat->V} {i N:Nat} (hi:i<=N) (t:Nat):fat ds vs (fun j=>decide (j<i)) N f t=fat ds vs (fun _=>true) i f t:=by
 obtain ⟨d,rfl⟩: ∃d,N=i+d:=⟨N-i,by omega⟩
 rw [Tn (fun j a=>by simp;omega)]
 exact zN (fun j a _=>by simp [a])
theorem Ob {C:cr} {ow:fe} {base:Nat}: ∀{steps:List cw} {i:Nat} {st st':St} {rs:List Rec},lh C ow base steps i st=some (st',rs)->
 rs.length=steps.length/\ ∃sts:Nat->St,sts 0=st/\sts steps.length=st'/\ ∀(j:Nat) (s:cw),steps[j]? =some s-> ∃rc,rs[j]? =some rc/\A5 C ow (sts j) s (i+j) (base+(i+j))=some (sts (j+1),rc)
 |[],i,st,st',rs,h=>by
  simp [lh] at h
  obtain ⟨rfl,rfl⟩:=h
  exact ⟨rfl,fun _=>st,rfl,rfl,fun j s d=>by simp at d⟩
 |s::r,i,st,st',rs,h=>by
  simp only [lh] at h
  cases b:A5 C ow st s i (base+i) with
  |none=>rw [b] at h;cases h
  |some p=>
   obtain ⟨st1,rc⟩:=p
   rw [b] at h
   dsimp only at h
   cases c:lh C ow base r (i+1) st1 with
   |none=>rw [c] at h;cases h
   |some q=>
    obtain ⟨st2,rs'⟩:=q
    rw [c] at h
    cases h
    obtain ⟨e,sts,e0,e1,e2⟩:=Ob c
    refine ⟨by simp [e],fun j=>match j with
     |0=>st
     |j+1=>sts j,rfl,by simpa using e1,fun j s' a=> ?_⟩
    cases j with
    |zero=>
     simp at a
     subst a
     refine ⟨rc,rfl, ?_⟩
     simp only [cH,ce,e0]
     exact b
    |succ j=>
     obtain ⟨rc',f,k⟩:=e2 j s' (by simpa using a)
     refine ⟨rc',by simpa using f, ?_⟩
     rw [show i+(j+1)=i+1+j by omega]
     exact k
structure Ent (C:cr) (ow:fe) (st st':St) (s:cw) (i n:Nat) (rc:Rec) (v:V) (u:Upd):Prop where
 nx:st'=(st.upd u).put s.dst v
 ri:rc.i=i
 wr:rc.wr=u.map (·.1)
 kind:(st.want s.guard=some false/\v= .lit (.tuple #[])/\u=[])\/
  (st.want s.guard=some true/\aK C ow s.op st.ev (vR st.heap rc.fp) n=some (v,u)/\ ∀b∈u.map (·.1),b∈rc.fp\/st.heap b=none)
theorem a2w {C:cr} {ow:fe} {st st':St} {s:cw} {i n:Nat} {rc:Rec} (h:A5 C ow st s i n=some (st',rc)): ∃v u,Ent C ow st st' s i n rc v u:=by
 unfold A5 at h
 cases a:st.want s.guard with
 |none=>rw [a] at h;cases h
 |some b=>
  rw [a] at h
  cases b with
  |false=>
   cases h
   exact ⟨.lit (.tuple #[]),[],rfl,rfl,rfl,.inl ⟨a,rfl,rfl⟩⟩
  |true=>
   dsimp only at h
   split at h
   ·rename_i v u c
    split at h
    ·rename_i hc
     cases h
     simp only [an,dZ,aA,Option.isNone_iff_eq_none] at hc
     exact ⟨v,u,rfl,rfl,rfl,.inr ⟨a,c,hc⟩⟩
    ·cases h
   ·cases h
def a4f (deps:List (List Nat)) (p q:Rec):Prop:=(p.wr.isEmpty&&q.wr.isEmpty||(deps.getD q.i []).contains p.i|| !UI p q)=true
theorem OC {deps:List (List Nat)} {p:Rec}: ∀{l:List Rec},G0 deps p l=true-> ∀q∈l,a4f deps p q
 |[],_,q,a=>by simp at a
 |x::r,h,q,a=>by
  simp only [G0,aB] at h
  rcases aW.1 a with rfl|a
  ·exact h.1
  ·exact OC h.2 q a
theorem KO {deps:List (List Nat)}: ∀{l:List Rec},tO deps l=true->l.Pairwise (a4f deps)
 |[],_=>List.Pairwise.nil
 |x::r,h=>by
  simp only [tO,aB] at h
  exact List.Pairwise.cons (fun q a=>OC h.1 q a) (KO h.2)
theorem a1x {deps:List (List Nat)} {rs:List Rec} (h:tO deps (rs.filter Rec.loud)=true) {i j:Nat} {p q:Rec} (k:i<j) (l:rs[i]? =some p) (m:rs[j]? =some q) (hc:UI p q=true):
 p.i∈deps.getD q.i []:=by
 have n:=KO h
 rw [List.pairwise_filter,o7] at n
 have hi:=dR l
 have o:=dR m
 have r:=n i j hi o k
 rw [aq hi] at l
 rw [aq o] at m
 cases l;cases m
 have c:=hc
 simp only [UI,dZ,jl] at c
 have lp:Rec.loud rs[i]=true:=by
  unfold Rec.loud
  rcases c with ⟨b,e,_⟩|⟨b,e,a⟩
  ·cases d:(rs[i]).wr with
   |nil=>rw [d] at e;cases e
   |cons x y=>simp
  ·cases d:(rs[i]).fp with
   |nil=>rw [d] at a;simp at a
   |cons x y=>simp
 have lq:Rec.loud rs[j]=true:=by
  unfold Rec.loud
  rcases c with ⟨b,e,a⟩|⟨b,e,a⟩
  ·rcases a with a|a
   ·cases d:(rs[j]).fp with
    |nil=>rw [d] at a;simp at a
    |cons x y=>simp
   ·cases d:(rs[j]).wr with
    |nil=>rw [d] at a;simp at a
    |cons x y=>simp
  ·cases d:(rs[j]).wr with
   |nil=>rw [d] at e;cases e
   |cons x y=>simp
 have f:=r lp lq
 unfold a4f at f
 rw [hc] at f
 simp only [aQ,Bool.or_false,dZ,aB,List.contains_eq_mem,aA] at f
 rcases f with ⟨e1,e2⟩|f
 ·exfalso
  rw [List.isEmpty_iff] at e1 e2
  rw [e1,e2] at c
  simp at c
 ·exact f
structure c0m (ops:List Oper) (steps:List cw) (deps:List (List Nat)):Prop where
 back: ∀(j:Nat) (o:Oper),j<steps.length->ops[j]? =some o-> ∀e∈o.after,Region.binds .any e=true->e.on<j
 lt: ∀(j:Nat),j<steps.length-> ∀d∈deps.getD j [],d<j
 edge: ∀(j:Nat) (o:Oper),j<steps.length->ops[j]? =some o-> ∀d∈deps.getD j [], ∃e∈o.after,Region.binds .any e=true/\(e.on=d\/d∈deps.getD e.on [])
 ap: ∀(i j:Nat) (x y:cw),i<j->steps[i]? =some x->steps[j]? =some y->i∈deps.getD j []\/Ye x y=true
theorem WZ {ops:List Oper} {steps:List cw} {deps:List (List Nat)} (h:PK ops steps deps=true):c0m ops steps deps:=by
 unfold PK at h
 rw [an] at h
 have H:=fun j (a:j<steps.length)=>h j (bS.2 a)
 simp only [aB] at H
 refine ⟨fun j o a b e c f=> ?_,fun j a d k=> ?_,fun j o a b d k=> ?_,fun i j x y l p n=> ?_⟩
 ·have:=(H j a).1.1
  rw [b] at this
  simp only [fj,dP,an] at this
  have:=this e (Array.mem_toList_iff.2 c)
  rw [f] at this
  simp only [aQ,Bool.false_or,aB,aA] at this
  exact this.1.1
 ·have:=(H j a).1.2
  rw [an] at this
  have:=this d k
  simp only [aB,aA] at this
  exact this.1
 ·have:=(H j a).1.2
  rw [an] at this
  have:=this d k
  rw [b] at this
  simp only [aB,aA,fj,dP,jl,dZ,beq_iff_eq,List.contains_eq_mem] at this
  obtain ⟨_,e,c,f,m⟩:=this
  exact ⟨e,Array.mem_toList_iff.1 c,f,m⟩
 ·have:=(H j (dR n)).2
  rw [an] at this
  have:=this i (bS.2 l)
  rw [p,n] at this
  simpa using this
theorem On {x y:cw} (h:Ye x y=true):(∀d,x.dst=some d->d∉J6 y)/\(∀d,x.dst=some d->y.dst≠some d)/\(∀d,y.dst=some d->d∉J6 x):=by
 refine ⟨fun d a=> ?_,fun d a=> ?_,fun d a=> ?_⟩<;>simp [Ye,a] at h
 ·exact h.1.1
 ·exact h.1.2
 ·exact h.2
theorem zK {P:Program} {n:Nat} {ops:Array Oper}: ∀{l:List Oper} {steps:List cw},mc P n ops l=some steps->steps.length=l.length/\ ∀(i:Nat) (o:Oper),l[i]? =some o-> ∃s,steps[i]? =some s/\LY P n ops o=some s
 |[],steps,h=>by simp [mc] at h;subst h;exact ⟨rfl,fun i o ho=>by simp at ho⟩
 |o::l,steps,h=>by
  simp only [mc] at h
  split at h
  ·rename_i s r h1 h2
   cases h
   obtain ⟨a1,a2⟩:=zK h2
   refine ⟨by simp [a1],fun i o' ho=> ?_⟩
   cases i with
   |zero=>simp at ho;subst ho;exact ⟨s,rfl,h1⟩
   |succ i=>simpa using a2 i o' (by simpa using ho)
  ·cases h
end
section
structure Run (P:Program) (C:cr) (ow:fe) (n:Nat) (ops:Array Oper) (steps:List cw) (deps:List (List Nat)) (base:Nat) (rs:List Rec) (sts:Nat->St) (vs:Nat->V) (us:Nat->Upd):Prop where
 cs:mc P n ops ops.toList=some steps
 D:c0m ops.toList steps deps
 ent: ∀(i:Nat) (s:cw),steps[i]? =some s-> ∃rc,rs[i]? =some rc/\Ent C ow (sts i) (sts (i+1)) s i (base+i) rc (vs i) (us i)
 po:tO deps (rs.filter Rec.loud)=true
def oX (steps:List cw) (i:Nat):Option Nat:=(steps[i]?).bind (·.dst)
def D7 (S:Nat->Bool) (i:Nat):Nat->Bool:=fun j=>if j=i then true else S j
section
variable {P:Program} {C:cr} {ow:fe} {n:Nat} {ops:Array Oper} {steps:List cw} {deps:List (List Nat)} {base:Nat} {rs:List Rec} {sts:Nat->St} {vs:Nat->V} {us:Nat->Upd}
theorem Run.heapAt (R:Run P C ow n ops steps deps base rs sts vs us): ∀{i:Nat},i<=steps.length->(sts i).heap=hat us (fun _=>true) i (sts 0).heap
 |0,_=>rfl
 |i+1,h=>by
  obtain ⟨s,a⟩:=fy (l:=steps) (i:=i) om
  obtain ⟨rc,_,E⟩:=R.ent i s a
  rw [E.nx,St.put_heap,St.upd_heap,R.heapAt om]
  rfl
theorem Run.getAt (R:Run P C ow n ops steps deps base rs sts vs us): ∀{i:Nat},i<=steps.length->(sts i).get=fat (oX steps) vs (fun _=>true) i (sts 0).get
 |0,_=>rfl
 |i+1,h=>by
  obtain ⟨s,a⟩:=fy (l:=steps) (i:=i) om
  obtain ⟨rc,_,E⟩:=R.ent i s a
  funext t
  rw [E.nx,St.put_get,St.upd_get,R.getAt om]
  show _=(if oX steps i=some t then vs i else _)
  have:oX steps i=s.dst:=by simp [oX,a]
  rw [this]
theorem Run.ordB (R:Run P C ow n ops steps deps base rs sts vs us) {i j:Nat} {s:cw} {rc:Rec} (m:steps[i]? =some s) (c:rs[i]? =some rc) (E:Ent C ow (sts i) (sts (i+1)) s i (base+i) rc (vs i) (us i))
 (h:j<steps.length) (k:j≠i) {b:Nat} (d:b∈(us j).map (·.1)) (hi:b∈rc.fp\/b∈(us i).map (·.1)):if j<i then j∈deps.getD i [] else i∈deps.getD j []:=by
 obtain ⟨s',e⟩:=fy h
 obtain ⟨rc',a,E'⟩:=R.ent j s' e
 rw [<-E.wr] at hi
 rw [<-E'.wr] at d
 split
 ·rename_i f
  have:=a1x R.po f a c (by
   simp only [UI,dZ,jl]
   left
   exact ⟨b,d,by simpa using hi⟩)
  rwa [E.ri,E'.ri] at this
 ·rename_i l
  have:=a1x R.po (show i<j by omega) c a (by
   simp only [UI,dZ,jl]
   rcases hi with hi|hi
   ·right;exact ⟨b,d,by simpa using hi⟩
   ·left;exact ⟨b,hi,by simp [d]⟩)
  rwa [E.ri,E'.ri] at this
theorem Run.ordT (R:Run P C ow n ops steps deps base rs sts vs us) {i j:Nat} {s:cw} (e:steps[i]? =some s) (l:j<steps.length) (m:j≠i) {t:Nat} (o:oX steps j=some t)
 (hi:t∈J6 s\/oX steps i=some t):if j<i then j∈deps.getD i [] else i∈deps.getD j []:=by
 obtain ⟨s',a⟩:=fy l
 have d:s'.dst=some t:=by simpa [oX,a] using o
 have c:t∈J6 s\/s.dst=some t:=by simpa [oX,e] using hi
 split
 ·rename_i f
  rcases R.D.ap j i s' s f a e with b|b
  ·exact b
  ·obtain ⟨k,a2,a3⟩:=On b
   exact absurd c (by rintro (h|h);exact k t d h;exact a2 t d h)
 ·rename_i p
  rcases R.D.ap i j s s' om e a with b|b
  ·exact b
  ·obtain ⟨k,a2,a3⟩:=On b
   exact absurd c (by rintro (h|h);exact a3 t d h;exact a2 t h d)
structure Rdy (deps:List (List Nat)) (S:Nat->Bool) (i:Nat):Prop where
 cl: ∀j,S j=true-> ∀d∈deps.getD j [],S d=true
 no:S i=false
 pre: ∀d∈deps.getD i [],S d=true
theorem Rdy.side {S:Nat->Bool} {i j:Nat} (r:Rdy deps S i) (c:j≠i) (h:if j<i then j∈deps.getD i [] else i∈deps.getD j []):S j=decide (j<i):=by
 split at h
 ·rename_i a;rw [r.pre j h];simp [a]
 ·rename_i b
  cases d:S j with
  |false=>simp [b]
  |true=>have:=r.cl j d i h;rw [r.no] at this;cases this
section
variable {i:Nat} {s:cw} {rc:Rec} {S:Nat->Bool}
theorem Run.seeT (R:Run P C ow n ops steps deps base rs sts vs us) (a:steps[i]? =some s) (r:Rdy deps S i) {t:Nat} (b:t∈J6 s\/oX steps i=some t):
 fat (oX steps) vs S steps.length (sts 0).get t=(sts i).get t:=by
 have hi:=dR a
 rw [R.getAt (i:=i) om, <-a6v (N:=steps.length) om]
 refine zN (fun j c d=> ?_)
 by_cases e:j=i
 ·subst e;rw [r.no];simp
 ·exact r.side e (R.ordT a c e d b)
theorem Run.seeB (R:Run P C ow n ops steps deps base rs sts vs us) (c:steps[i]? =some s) (a:rs[i]? =some rc) (E:Ent C ow (sts i) (sts (i+1)) s i (base+i) rc (vs i) (us i)) (r:Rdy deps S i)
 {b:Nat} (d:b∈rc.fp\/b∈(us i).map (·.1)):hat us S steps.length (sts 0).heap b=(sts i).heap b:=by
 have hi:=dR c
 rw [R.heapAt (i:=i) om, <-a5p (N:=steps.length) om]
 refine zS (fun j f h=> ?_)
 by_cases e:j=i
 ·subst e;rw [r.no];simp
 ·exact r.side e (R.ordB c a E f e h d)
theorem Run.setT (R:Run P C ow n ops steps deps base rs sts vs us) (c:steps[i]? =some s) (r:Rdy deps S i):
 fat (oX steps) vs (D7 S i) steps.length (sts 0).get=fun t=>if s.dst=some t then vs i else fat (oX steps) vs S steps.length (sts 0).get t:=by
 have hi:=dR c
 have d:oX steps i=s.dst:=by simp [oX,c]
 funext t
 by_cases b:s.dst=some t
 ·rw [aa b]
  have e1:fat (oX steps) vs (D7 S i) steps.length (sts 0).get t=fat (oX steps) vs (fun j=>decide (j<i+1)) steps.length (sts 0).get t:=by
   refine zN (fun j f a=> ?_)
   unfold D7
   by_cases e:j=i
   ·subst e;simp
   ·rw [a7 e,r.side e (R.ordT c f e a (.inr (by rw [d];exact b)))]
    by_cases h:j<i
    ·simp [h];omega
    ·simp [h];omega
  rw [e1,a6v om, <-R.getAt om]
  obtain ⟨rc,_,E⟩:=R.ent i s c
  rw [E.nx,St.put_get,aa b]
 ·rw [a7 b]
  refine zN (fun j f a=> ?_)
  unfold D7
  by_cases e:j=i
  ·subst e;rw [d] at a;exact absurd a b
  ·rw [a7 e]
theorem Run.setB (R:Run P C ow n ops steps deps base rs sts vs us) (f:steps[i]? =some s) (d:rs[i]? =some rc) (E:Ent C ow (sts i) (sts (i+1)) s i (base+i) rc (vs i) (us i)) (r:Rdy deps S i):
 hat us (D7 S i) steps.length (sts 0).heap=i4 (hat us S steps.length (sts 0).heap) (us i):=by
 have hi:=dR f
 funext b
 by_cases c:b∈(us i).map (·.1)
 ·have e1:hat us (D7 S i) steps.length (sts 0).heap b=hat us (fun j=>decide (j<i+1)) steps.length (sts 0).heap b:=by
   refine zS (fun j h a=> ?_)
   unfold D7
   by_cases e:j=i
   ·subst e;simp
   ·rw [a7 e,r.side e (R.ordB f d E h e a (.inr c))]
    by_cases k:j<i
    ·simp [k];omega
    ·simp [k];omega
  rw [e1,a5p om, <-R.heapAt om,E.nx,St.put_heap,St.upd_heap]
  exact WQ c
 ·rw [y4 c]
  refine zS (fun j h a=> ?_)
  unfold D7
  by_cases e:j=i
  ·subst e;exact absurd a c
  ·rw [a7 e]
end
end
section
variable {P:Program} {C:cr} {ow:fe} {n:Nat} {ops:Array Oper} {steps:List cw} {deps:List (List Nat)} {base:Nat} {rs:List Rec} {sts:Nat->St} {vs:Nat->V} {us:Nat->Upd}
theorem Rd [Frame] {ops:Array Oper} {o:Oper} {s:cw} (CS:c3e P n ops o s) {f:Nat->V} {μ:Mu} {h:ba} {w:World} {a:Act} (E:ib μ h w f a) {b:Bool} (i:Oo f s.guard=some b):
 Region.wanted o (yielded ops a.tmps)=b:=by
 cases j:s.guard with
 |none=>
  rw [j] at i
  exact N2 (st:=⟨[],[]⟩) CS (μ:=μ) (h:=fun _=>none) (w:=w) (a:=a) (fun t=>by show b7 _ _ _ .undef _;exact .unk _) (by rw [j];exact i)
 |some p=>
  obtain ⟨t,c⟩:=p
  rw [j] at i
  cases d:f t with
  |lit y=>
   refine N2 (st:=⟨[(t,.lit y)],[]⟩) CS (μ:=μ) (h:=h) (w:=w) (a:=a) (fun t'=> ?_) ?_
   ·show b7 μ h w ((eH [(t,V.lit y)] t').getD .undef) _
    simp only [eH]
    by_cases e:t=t'
    ·rw [aa e];have:=E t';rw [<-e,d] at this;rw [<-e];exact this
    ·rw [a7 e];exact .unk _
   ·rw [j,XR]
    have e1:St.get ⟨[(t,.lit y)],[]⟩ t= .lit y:=by show (eH [(t,V.lit y)] t).getD .undef=_;simp [eH]
    simp only [Oo,e1]
    simp only [Oo,d] at i
    exact i
  |_=>simp [Oo,d] at i
theorem Run.one [Frame] (R:Run P C ow n ops steps deps base rs sts vs us) (hC:nw P C) {Q:Exit->Act->World->Prop} {μ0:Mu} {h0:ba} {w0:World} {S:Nat->Bool} {i:Nat} {o:Oper} (ho:ops[i]? =some o) (r:Rdy deps S i)
 {μ:Mu} {a:Act} {w:World} (I:Inv n (fat (oX steps) vs S steps.length (sts 0).get) (hat us S steps.length (sts 0).heap) μ a w) (Si:nI μ0 h0 w0 μ (hat us S steps.length (sts 0).heap) w) {K:Act->World->Prop}
 (HK: ∀μ' a' w',Inv n (fat (oX steps) vs (D7 S i) steps.length (sts 0).get) (hat us (D7 S i) steps.length (sts 0).heap) μ' a' w'->nI μ0 h0 w0 μ' (hat us (D7 S i) steps.length (sts 0).heap) w'->K a' w'):
 wpOp P ops Q i K a w:=by
 obtain ⟨s,h,z⟩:=(zK R.cs).2 i o (by simpa using ho)
 have CS:=Jf z
 obtain ⟨rc,j,E⟩:=R.ent i s h
 have hT:=R.setT h r
 have hB:=R.setB h j E r
 rw [hT,hB] at HK
 have seeG:Oo (fat (oX steps) vs S steps.length (sts 0).get) s.guard=Oo (sts i).get s.guard:=by
  cases hg:s.guard with
  |none=>rfl
  |some p=>
   obtain ⟨t,c⟩:=p
   simp only [Oo]
   rw [R.seeT h r (.inl (by simp [J6,hg]))]
 unfold wpOp
 rw [ho]
 simp only
 rcases E.kind with ⟨m,hv,hu⟩|⟨m,q,l⟩
 ·rw [XR, <-seeG] at m
  rw [Rd CS I.E m]
  simp only [bC,if_false]
  rw [hv,hu] at HK
  refine HK μ _ w ?_ Si
  rw [CS.dst]
  exact I.put_skip CS.lt (.lit _)
 ·rw [XR, <-seeG] at m
  rw [Rd CS I.E m]
  simp only [if_true]
  have hev: ∀x∈s.op.opds,(sts i).ev x=Opd.ev (fat (oX steps) vs S steps.length (sts 0).get) x:=by
   intro x hx
   cases x with
   |t t=>
    show (sts i).get t=_
    have:t∈J6 s:=by
     unfold J6
     exact List.mem_append_left _ (List.mem_filterMap.2 ⟨.t t,hx,rfl⟩)
    rw [<-R.seeT h r (.inl this)]
    rfl
   |c v=>rfl
   |f k=>rfl
  rw [a0S hev] at q
  have hle:Le (vR (sts i).heap rc.fp) (hat us S steps.length (sts 0).heap):=by
   intro b k y
   unfold vR at y
   split at y
   ·rename_i hb
    rw [R.seeB h j E r (.inl hb)]
    exact y
   ·cases y
  have u:=b1F hle q (fun b hm h0=>by
   rw [R.seeB h j E r (.inr hm)]
   rcases l b hm with hb|e
   ·unfold vR at h0;rw [aa hb] at h0;exact h0
   ·exact e)
  refine .inl (R9 hC I.H I.E CS.op u (fun x w' μ' H' C' V'=> ?_))
  refine HK μ' _ w' ?_ ⟨Si.C.trans C',Si.lo⟩
  have E':ib μ' _ w' _ a:=fun t=>(I.E t).chg C'
  have:=(Inv.mk H' E' I.sz I.df).put_skip (d:=o.dst) CS.lt V'
  rw [CS.dst]
  exact this
def Ab (N:Nat) (listed:Array Bool):Nat:=(List.range N).countP (fun i=> !listed.getD i false)
theorem a9j {p q:Nat->Bool} {l:List Nat} {i:Nat} (hi:i∈l) (b:p i=true) (c:q i=false) (a: ∀j,q j=true->p j=true):l.countP q<l.countP p:=by
 induction l with
 |nil=>simp at hi
 |cons x r ih=>
  rw [rd,rd]
  have d:r.countP q<=r.countP p:=List.countP_mono_left (fun j _ e=>a j e)
  rcases aW.1 hi with rfl|hi
  ·rw [b,c];simp;omega
  ·have:=ih hi
   cases f:q x with
   |true=>rw [a x f];simp;omega
   |false=>simp;split<;>omega
theorem Run.any [Frame] (R:Run P C ow n ops steps deps base rs sts vs us) (hC:nw P C) {Q:Exit->Act->World->Prop} {μ0:Mu} {h0:ba} {w0:World}
 (K: ∀μ a w,Inv n (sts steps.length).get (sts steps.length).heap μ a w->nI μ0 h0 w0 μ (sts steps.length).heap w->Q .normal a w): ∀(fuel:Nat) (listed:Array Bool) (a:Act) (w:World) (μ:Mu),listed.size=steps.length->
 Ab steps.length listed<=fuel->(∀j,listed.getD j false=true-> ∀d∈deps.getD j [],listed.getD d false=true)->
 Inv n (fat (oX steps) vs (fun j=>listed.getD j false) steps.length (sts 0).get) (hat us (fun j=>listed.getD j false) steps.length (sts 0).heap) μ a w->
 nI μ0 h0 w0 μ (hat us (fun j=>listed.getD j false) steps.length (sts 0).heap) w->wpAny P .any ops Q fuel listed a w:=by
 have hlen:steps.length=ops.size:=by rw [(zK R.cs).1,Array.length_toList]
 have getEq: ∀(listed:Array Bool) (j:Nat),j<listed.size->listed.getD j true=listed.getD j false:=by
  intro listed j c
  rw [Array.getD_eq_getD_getElem?,Array.getD_eq_getD_getElem?,aH c];rfl
 have stop: ∀(listed:Array Bool),listed.size=steps.length->Region.ready .any ops listed=[]-> ∀j,j<steps.length->listed.getD j false=true:=by
  intro listed f q j
  induction j using Nat.strongRecOn with
  |_ j ih=>
   intro c
   cases y:listed.getD j false with
   |true=>rfl
   |false=>
    obtain ⟨o,l⟩: ∃o,ops[j]? =some o:=⟨ops[j],aH om⟩
    have:j∈Region.ready .any ops listed:=mem_ready.2 ⟨by rw [getEq _ _ om];exact y,o,l,fun e he hb=>by
     have s:=R.D.back j o c (by simpa using l) e he hb
     exact ih e.on s om⟩
    rw [q] at this;cases this
 have fin: ∀(listed:Array Bool) (a:Act) (w:World) (μ:Mu),listed.size=steps.length->Region.ready .any ops listed=[]->
  Inv n (fat (oX steps) vs (fun j=>listed.getD j false) steps.length (sts 0).get) (hat us (fun j=>listed.getD j false) steps.length (sts 0).heap) μ a w->
  nI μ0 h0 w0 μ (hat us (fun j=>listed.getD j false) steps.length (sts 0).heap) w->Q .normal a w:=by
  intro listed a w μ f q I Si
  have m:=stop listed f q
  have e1:fat (oX steps) vs (fun j=>listed.getD j false) steps.length (sts 0).get=(sts steps.length).get:=by
   rw [R.getAt (am _)]
   funext t
   exact zN (fun j c _=>m j c)
  have e2:hat us (fun j=>listed.getD j false) steps.length (sts 0).heap=(sts steps.length).heap:=by
   rw [R.heapAt (am _)]
   funext b
   exact zS (fun j c _=>m j c)
  rw [e1,e2] at I
  rw [e2] at Si
  exact K μ a w I Si
 intro fuel
 induction fuel with
 |zero=>
  intro listed a w μ f hf k I Si
  have h:Region.ready .any ops listed=[]:=by
   cases q:Region.ready .any ops listed with
   |nil=>rfl
   |cons x r=>
    exfalso
    have hx:x∈Region.ready .any ops listed:=by rw [q];simp
    obtain ⟨v,o,l,_⟩:=mem_ready.1 hx
    have s:x<ops.size:=(nv.1 l).1
    rw [getEq _ _ om] at v
    have:0<Ab steps.length listed:=by
     unfold Ab
     rw [List.countP_pos_iff]
     exact ⟨x,bS.2 om,by rw [v];rfl⟩
    omega
  exact ⟨h,fin listed a w μ f h I Si⟩
 |succ fuel ih=>
  intro listed a w μ f hf k I Si
  refine ⟨fun q=>fin listed a w μ f q I Si,fun i hi=> ?_⟩
  obtain ⟨v,o,l,u⟩:=mem_ready.1 hi
  have s:i<ops.size:=(nv.1 l).1
  rw [getEq _ _ om] at v
  have p: ∀d∈deps.getD i [],listed.getD d false=true:=by
   intro d z
   obtain ⟨e,he,hb,hor⟩:=R.D.edge i o om (by simpa using l) d z
   have y:=u e he hb
   rcases hor with h2|h2
   ·rw [<-h2];exact y
   ·exact k e.on y d h2
  have ci:(fun j=>(listed.setIfInBounds i true).getD j false)=D7 (fun j=>listed.getD j false) i:=by
   funext j
   unfold D7
   by_cases e:j=i
   ·subst e
    rw [aa rfl,Array.getD_eq_getD_getElem?]
    have:j<listed.size:=by omega
    simp [this]
   ·rw [a7 e,getD_set_ne false (Ne.symm e)]
  refine R.one hC l ⟨k,v,p⟩ I Si (fun μ' a' w' I' Si'=> ?_)
  rw [<-ci] at I' Si'
  refine ih (listed.setIfInBounds i true) a' w' μ' (by simpa using f) ?_ ?_ I' Si'
  ·have:Ab steps.length (listed.setIfInBounds i true)<Ab steps.length listed:=by
    unfold Ab
    refine a9j (i:=i) (bS.2 om) (by rw [v];rfl) ?_ (fun j c=> ?_)
    ·have e1:(listed.setIfInBounds i true).getD i false=D7 (fun j=>listed.getD j false) i i:=congrFun ci i
     rw [e1];simp [D7]
    ·have e1:(listed.setIfInBounds i true).getD j false=D7 (fun j=>listed.getD j false) i j:=congrFun ci j
     rw [e1] at c
     unfold D7 at c
     split at c
     ·cases c
     ·exact c
   omega
  ·intro j c d z
   have e1:(listed.setIfInBounds i true).getD j false=D7 (fun j=>listed.getD j false) i j:=congrFun ci j
   have e2:(listed.setIfInBounds i true).getD d false=D7 (fun j=>listed.getD j false) i d:=congrFun ci d
   rw [e1] at c
   rw [e2]
   unfold D7 at c ⊢
   split
   ·rfl
   ·split at c
    ·rename_i e;subst e;exact p d z
    ·exact k j c d z
theorem a0r [Frame] (x:nw P C) {id:Nat} {live:List Nat} {Q:Exit->Act->World->Prop} {μ0:Mu} {h0:ba} {w0:World} {st st':St} {e:dd} {μ:Mu} {a:Act} {w:World} (y:P.follows .mixedOrders=true)
 (hc:mc P n ops ops.toList=some steps) (z:PK ops.toList steps deps=true) (c:Cr C ow base steps deps live st=some (e,st')) (I:Inv n st.get st.heap μ a w) (S:nI μ0 h0 w0 μ st.heap w)
 (K: ∀μ' a' w',Inv n st'.get st'.heap μ' a' w'->nI μ0 h0 w0 μ' st'.heap w'->Q .normal a' w'):e= .normal/\(Code.region id ops true).wp P Q a w:=by
 unfold Cr at c
 split at c
 ·rename_i st1 rs h1
  split at c
  ·rename_i l
   cases c
   obtain ⟨hl,sts,e0,e1,e2⟩:=Ob h1
   have m: ∀i, ∃vu:V×Upd, ∀s,steps[i]? =some s-> ∃rc,rs[i]? =some rc/\Ent C ow (sts i) (sts (i+1)) s i (base+i) rc vu.1 vu.2:=by
    intro i
    cases o:steps[i]? with
    |none=>exact ⟨(.undef,[]),fun s c=>by cases c⟩
    |some s=>
     obtain ⟨rc,g1,q⟩:=e2 i s o
     rw [ce] at q
     obtain ⟨v,u,E⟩:=a2w q
     exact ⟨(v,u),fun s' p=>by cases p;exact ⟨rc,g1,E⟩⟩
   obtain ⟨g,hg⟩:=Classical.axiomOfChoice m
   have R:Run P C ow n ops steps deps base rs sts (fun i=>(g i).1) (fun i=>(g i).2):=⟨hc,WZ z,fun i s c=>hg i s c,l⟩
   refine ⟨rfl,wp_region_any y ?_⟩
   have d:steps.length=ops.size:=by rw [(zK hc).1,Array.length_toList]
   have k:Ac w { w with drawn:=w.drawn+1 }:=⟨rfl,rfl,rfl,am _,fun _ _=>rfl,oV _⟩
   have C1:=k.chg I.H
   have b:(fun j=>(Array.replicate ops.size false).getD j false)=fun _=>false:=by
    funext j
    rw [Array.getD_eq_getD_getElem?,Array.getElem?_replicate]
    split<;>rfl
   have ef:fat (oX steps) (fun i=>(g i).1) (fun _=>false) steps.length (sts 0).get=st.get:=by
    have:=Tn (ds:=oX steps) (vs:=fun i=>(g i).1) (S:=fun _=>false) (f:=(sts 0).get) (i:=0) (fun _ _=>rfl) steps.length
    rw [ce] at this
    rw [this,e0];rfl
   have eh:hat (fun i=>(g i).2) (fun _=>false) steps.length (sts 0).heap=st.heap:=by
    have:=R2 (us:=fun i=>(g i).2) (S:=fun _=>false) (h:=(sts 0).heap) (i:=0) (fun _ _=>rfl) steps.length
    rw [ce] at this
    rw [this,e0];rfl
   refine R.any x (μ0:=μ0) (h0:=h0) (w0:=w0) (fun μ' a' w' I' S'=> ?_) ops.size (Array.replicate ops.size false) a _ μ (by simp [d]) ?_ (fun j r=> ?_) ?_ ?_
   ·rw [e1] at I' S'
    exact K μ' a' w' (I'.trim live) S'
   ·unfold Ab
    exact fW sH (by simp [d])
   ·have e3:(Array.replicate ops.size false).getD j false=false:=congrFun b j
    rw [e3] at r;cases r
   ·rw [b,ef,eh]
    exact ⟨I.H.grown k,fun t=>(I.E t).chg C1,I.sz,I.df⟩
   ·rw [b,eh]
    exact ⟨S.C.trans C1,S.lo⟩
  ·cases c
 ·cases c
end
end
end Go.AI
