/- Part. -/
import Derived.Test.YtdnkignjanfikaaGreatAiGhost
import Derived.Test.YtdnkignjanfikaaGreatAiMono
set_option linter.unusedVariables false
set_option linter.unusedSimpArgs false
namespace Go.AI
section
theorem Ii {ev ev':Opd->V}: ∀{ps:List (Nat×Nat×Opd)},(∀x∈ps.map (·.2.2),ev x=ev' x)->iJ ev ps=iJ ev' ps
 |[],_=>rfl
 | (a,b,x)::r,h=>by
   simp only [iJ]
   rw [h x (by simp),Ii (fun y hy=>h y (by simp at hy ⊢;exact .inr hy))]
theorem Ey {hp:b8} {ev ev':Opd->V}: ∀{ps:List (Nat×Opd)},(∀x∈ps.map (·.2),ev x=ev' x)->eo hp ev ps=eo hp ev' ps
 |[],_=>rfl
 | (a,x)::r,h=>by
   simp only [eo]
   rw [h x (by simp),Ey (fun y hy=>h y (by simp at hy ⊢;exact .inr hy))]
theorem Dy {ev ev':Opd->V} {o:Option Opd} (h: ∀x∈Lj o,ev x=ev' x):o.map ev=o.map ev':=by
 cases o with
 |none=>rfl
 |some x=>simp [h x (by simp [Lj])]
theorem a29 {C:ce} {ow:FuncId->List Nat} {o:AOp} {ev ev':Opd->V} {b:b8} {n:Nat} (h: ∀x∈o.opds,ev x=ev' x):aM C ow o ev b n=aM C ow o ev' b n:=by
 cases o<;>simp only [AOp.opds,b9,aX,List.not_mem_nil,or_false,forall_eq_or_imp,forall_eq] at h<;>simp only [aM]
 case build z ps=>rw [Ii (fun x a=>h x a)]
 case buildSlice e z l ps=>rw [Ey (fun x a=>h x a)]
 case makeFunc f cs=>rw [cC (fun x a=>h x a)]
 case call f cs=>rw [cC (fun x a=>h x a)]
 case dyn f cs=>rw [h.1,cC (fun x a=>h.2 x a)]
 case sliceStr x lo hi=>rw [h.1,Dy (fun x a=>h.2 x (.inl a)),Dy (o:=hi) (fun x a=>h.2 x (.inr a))]
 case slice e x lo hi mx=>rw [h.1,Dy (fun x a=>h.2 x (.inl a)),Dy (o:=hi) (fun x a=>h.2 x (.inr (.inl a)))]
 all_goals first
  | (rw [h];done)
  | (rw [h.1,h.2];done)
  | (rw [h.1,h.2.1,h.2.2];done)
  |rfl
def N1 (f:Nat->V):Option (Nat×Bool)->Option Bool
 |none=>some true
 |some (t,b)=>match f t with
  | .lit (.bool c)=>some (c==b)
  | .lit (.tuple _)=>some false
  |_=>none
theorem Zp (st:St) (g:Option (Nat×Bool)):st.want g=N1 st.get g:=by cases g<;>rfl
theorem uZ: ∀{u:Upd} {h:b8} {b:Nat},b∉u.map (·.1)->g9 h u b=h b
 |[],h,b,_=>rfl
 | (i,k)::r,h,b,a=>by
   simp only [aP,b9,not_or] at a
   show g9 (bT h i k) r b=h b
   rw [uZ a.2]
   simp [bT,a.1]
theorem X6: ∀{u:Upd} {h h':b8} {b:Nat},b∈u.map (·.1)->g9 h u b=g9 h' u b
 |[],h,h',b,a=>by simp at a
 | (i,k)::r,h,h',b,a=>by
   show g9 (bT h i k) r b=g9 (bT h' i k) r b
   by_cases c:b∈r.map (·.1)
   ·exact X6 c
   ·rw [uZ c,uZ c]
    simp only [aP,b9] at a
    have:b=i:=a.resolve_right c
    simp [bT,this]
def hat (us:Nat->Upd) (S:Nat->Bool):Nat->b8->b8
 |0,h=>h
 |k+1,h=>if S k=true then g9 (hat us S k h) (us k) else hat us S k h
def fat (ds:Nat->Option Nat) (vs:Nat->V) (S:Nat->Bool):Nat->(Nat->V)->Nat->V
 |0,f=>f
 |k+1,f=>if S k=true then (fun t=>if ds k=some t then vs k else fat ds vs S k f t) else fat ds vs S k f
theorem xW {us:Nat->Upd} {S S':Nat->Bool} {h:b8} {b:Nat}: ∀{k:Nat},(∀j,j<k->b∈(us j).map (·.1)->S j=S' j)->hat us S k h b=hat us S' k h b
 |0,_=>rfl
 |k+1,H=>by
  have ih:=xW (k:=k) (us:=us) (S:=S) (S':=S') (h:=h) (b:=b) (fun j c a=>H j (by omega) a)
  simp only [hat]
  by_cases a:b∈(us k).map (·.1)
  ·rw [H k (by omega) a]
   split
   ·exact X6 a
   ·exact ih
  ·split<;>split
   ·rw [uZ a,uZ a];exact ih
   ·rw [uZ a];exact ih
   ·rw [uZ a];exact ih
   ·exact ih
theorem xS {ds:Nat->Option Nat} {vs:Nat->V} {S S':Nat->Bool} {f:Nat->V} {t:Nat}: ∀{k:Nat},(∀j,j<k->ds j=some t->S j=S' j)->fat ds vs S k f t=fat ds vs S' k f t
 |0,_=>rfl
 |k+1,H=>by
  have ih:=xS (k:=k) (ds:=ds) (vs:=vs) (S:=S) (S':=S') (f:=f) (t:=t) (fun j b a=>H j (by omega) a)
  simp only [fat]
  by_cases a:ds k=some t
  ·rw [H k (by omega) a]
   split
   ·simp [a]
   ·exact ih
  ·split<;>split
   ·simp only [a,if_false];exact ih
   ·simp only [a,if_false];exact ih
   ·simp only [a,if_false];exact ih
   ·exact ih
theorem Rt {us:Nat->Upd} {S:Nat->Bool} {h:b8} {i:Nat} (H: ∀j,i<=j->S j=false): ∀d,hat us S (i+d) h=hat us S i h
 |0=>rfl
 |d+1=>by
  show (if S (i+d)=true then _ else hat us S (i+d) h)=_
  rw [H (i+d) (by omega)]
  exact Rt H d
theorem RL {ds:Nat->Option Nat} {vs:Nat->V} {S:Nat->Bool} {f:Nat->V} {i:Nat} (H: ∀j,i<=j->S j=false): ∀d,fat ds vs S (i+d) f=fat ds vs S i f
 |0=>rfl
 |d+1=>by
  show (if S (i+d)=true then _ else fat ds vs S (i+d) f)=_
  rw [H (i+d) (by omega)]
  exact RL H d
theorem a6K {us:Nat->Upd} {h:b8} {i N:Nat} (hi:i<=N) (b:Nat):hat us (fun j=>decide (j<i)) N h b=hat us (fun _=>true) i h b:=by
 obtain ⟨d,rfl⟩: ∃d,N=i+d:=⟨N-i,by omega⟩
 rw [Rt (fun j a=>by simp;omega)]
 exact xW (fun j a _=>by simp [a])
theorem a6B {ds:Nat->Option Nat} {vs f:Nat->V} {i N:Nat} (hi:i<=N) (t:Nat):fat ds vs (fun j=>decide (j<i)) N f t=fat ds vs (fun _=>true) i f t:=by
 obtain ⟨d,rfl⟩: ∃d,N=i+d:=⟨N-i,by omega⟩
 rw [RL (fun j a=>by simp;omega)]
 exact xS (fun j a _=>by simp [a])
theorem ND {C:ce} {ow:ec} {base:Nat}: ∀{steps:List cn} {i:Nat} {st st':St} {rs:List Rec},jx C ow base steps i st=some (st',rs)->
 rs.length=steps.length/\ ∃sts:Nat->St,sts 0=st/\sts steps.length=st'/\ ∀(j:Nat) (s:cn),steps[j]? =some s-> ∃rc,rs[j]? =some rc/\yb C ow (sts j) s (i+j) (base+(i+j))=some (sts (j+1),rc)
 |[],i,st,st',rs,h=>by
  simp [jx] at h
  obtain ⟨rfl,rfl⟩:=h
  exact ⟨rfl,fun _=>st,rfl,rfl,fun j s d=>by simp at d⟩
 |s::r,i,st,st',rs,h=>by
  simp only [jx] at h
  cases b:yb C ow st s i (base+i) with
  |none=>rw [b] at h;cases h
  |some p=>
   obtain ⟨st1,rc⟩:=p
   rw [b] at h
   dsimp only at h
   cases c:jx C ow base r (i+1) st1 with
   |none=>rw [c] at h;cases h
   |some q=>
    obtain ⟨st2,rs'⟩:=q
    rw [c] at h
    cases h
    obtain ⟨e,sts,e0,e1,e2⟩:=ND c
    refine ⟨by simp [e],fun j=>match j with
     |0=>st
     |j+1=>sts j,rfl,by simpa using e1,fun j s' a=> ?_⟩
    cases j with
    |zero=>
     simp at a
     subst a
     refine ⟨rc,rfl, ?_⟩
     simp only [cQ,cy,e0]
     exact b
    |succ j=>
     obtain ⟨rc',f,k⟩:=e2 j s' (by simpa using a)
     refine ⟨rc',by simpa using f, ?_⟩
     rw [show i+(j+1)=i+1+j by omega]
     exact k
structure Ent (C:ce) (ow:ec) (st st':St) (s:cn) (i n:Nat) (rc:Rec) (v:V) (u:Upd):Prop where
 nx:st'=(st.upd u).put s.dst v
 ri:rc.i=i
 wr:rc.wr=u.map (·.1)
 kind:(st.want s.guard=some false/\v= .lit (.tuple #[])/\u=[])\/
  (st.want s.guard=some true/\aM C ow s.op st.ev (sj st.heap rc.fp) n=some (v,u)/\ ∀b∈u.map (·.1),b∈rc.fp\/st.heap b=none)
theorem a4i {C:ce} {ow:ec} {st st':St} {s:cn} {i n:Nat} {rc:Rec} (h:yb C ow st s i n=some (st',rc)): ∃v u,Ent C ow st st' s i n rc v u:=by
 unfold yb at h
 cases a:st.want s.guard with
 |none=>rw [a] at h;cases h
 |some b=>
  rw [a] at h
  cases b with
  |false=>
   cases h
   exact ⟨.lit (.tuple #[]),[],rfl,rfl,rfl,.inl ⟨a,rfl,rfl⟩⟩
  |true=>
   dsimp only at h
   split at h
   ·rename_i v u c
    split at h
    ·rename_i hc
     cases h
     simp only [aB,cY,aC,Option.isNone_iff_eq_none] at hc
     exact ⟨v,u,rfl,rfl,rfl,.inr ⟨a,c,hc⟩⟩
    ·cases h
   ·cases h
def a5t (deps:List (List Nat)) (p q:Rec):Prop:=(p.wr.isEmpty&&q.wr.isEmpty||(deps.getD q.i []).contains p.i|| !Vv p q)=true
theorem N6 {deps:List (List Nat)} {p:Rec}: ∀{l:List Rec},Fu deps p l=true-> ∀q∈l,a5t deps p q
 |[],_,q,a=>by simp at a
 |x::r,h,q,a=>by
  simp only [Fu,aD] at h
  rcases b9.1 a with rfl|a
  ·exact h.1
  ·exact N6 h.2 q a
theorem Kf {deps:List (List Nat)}: ∀{l:List Rec},qE deps l=true->l.Pairwise (a5t deps)
 |[],_=>List.Pairwise.nil
 |x::r,h=>by
  simp only [qE,aD] at h
  exact List.Pairwise.cons (fun q a=>N6 h.1 q a) (Kf h.2)
theorem a1J {deps:List (List Nat)} {rs:List Rec} (h:qE deps (rs.filter Rec.loud)=true) {i j:Nat} {p q:Rec} (k:i<j) (l:rs[i]? =some p) (m:rs[j]? =some q) (hc:Vv p q=true):
 p.i∈deps.getD q.i []:=by
 have n:=Kf h
 rw [List.pairwise_filter,lT] at n
 have hi:=dw l
 have o:=dw m
 have r:=n i j hi o k
 rw [aq hi] at l
 rw [aq o] at m
 cases l;cases m
 have c:=hc
 simp only [Vv,cY,iv] at c
 have lp:Rec.loud rs[i]=true:=by
  unfold Rec.loud
  rcases c with ⟨b,e,_⟩|⟨b,e,a⟩
  ·cases d:(rs[i]).wr with
   |nil=>rw [d] at e;cases e
   |cons x y=>simp
  ·cases d:(rs[i]).fp with
   |nil=>rw [d] at a;simp at a
   |cons x y=>simp
 have lq:Rec.loud rs[j]=true:=by
  unfold Rec.loud
  rcases c with ⟨b,e,a⟩|⟨b,e,a⟩
  ·rcases a with a|a
   ·cases d:(rs[j]).fp with
    |nil=>rw [d] at a;simp at a
    |cons x y=>simp
   ·cases d:(rs[j]).wr with
    |nil=>rw [d] at a;simp at a
    |cons x y=>simp
  ·cases d:(rs[j]).wr with
   |nil=>rw [d] at e;cases e
   |cons x y=>simp
 have f:=r lp lq
 unfold a5t at f
 rw [hc] at f
 simp only [aH,Bool.or_false,cY,aD,List.contains_eq_mem,aC] at f
 rcases f with ⟨e1,e2⟩|f
 ·exfalso
  rw [List.isEmpty_iff] at e1 e2
  rw [e1,e2] at c
  simp at c
 ·exact f
structure c1N (ops:List Oper) (steps:List cn) (deps:List (List Nat)):Prop where
 back: ∀(j:Nat) (o:Oper),j<steps.length->ops[j]? =some o-> ∀e∈o.after,Region.binds .any e=true->e.on<j
 lt: ∀(j:Nat),j<steps.length-> ∀d∈deps.getD j [],d<j
 edge: ∀(j:Nat) (o:Oper),j<steps.length->ops[j]? =some o-> ∀d∈deps.getD j [], ∃e∈o.after,Region.binds .any e=true/\(e.on=d\/d∈deps.getD e.on [])
 ap: ∀(i j:Nat) (x y:cn),i<j->steps[i]? =some x->steps[j]? =some y->i∈deps.getD j []\/Z4 x y=true
theorem Zy {ops:List Oper} {steps:List cn} {deps:List (List Nat)} (h:Pg ops steps deps=true):c1N ops steps deps:=by
 unfold Pg at h
 rw [aB] at h
 have H:=fun j (a:j<steps.length)=>h j (bV.2 a)
 simp only [aD] at H
 refine ⟨fun j o a b e c f=> ?_,fun j a d k=> ?_,fun j o a b d k=> ?_,fun i j x y l p n=> ?_⟩
 ·have:=(H j a).1.1
  rw [b] at this
  simp only [ea,dq,aB] at this
  have:=this e (Array.mem_toList_iff.2 c)
  rw [f] at this
  simp only [aH,Bool.false_or,aD,aC] at this
  exact this.1.1
 ·have:=(H j a).1.2
  rw [aB] at this
  have:=this d k
  simp only [aD,aC] at this
  exact this.1
 ·have:=(H j a).1.2
  rw [aB] at this
  have:=this d k
  rw [b] at this
  simp only [aD,aC,ea,dq,iv,cY,beq_iff_eq,List.contains_eq_mem] at this
  obtain ⟨_,e,c,f,m⟩:=this
  exact ⟨e,Array.mem_toList_iff.1 c,f,m⟩
 ·have:=(H j (dw n)).2
  rw [aB] at this
  have:=this i (bV.2 l)
  rw [p,n] at this
  simpa using this
theorem NJ {x y:cn} (h:Z4 x y=true):(∀d,x.dst=some d->d∉IF y)/\(∀d,x.dst=some d->y.dst≠some d)/\(∀d,y.dst=some d->d∉IF x):=by
 refine ⟨fun d a=> ?_,fun d a=> ?_,fun d a=> ?_⟩<;>simp [Z4,a] at h
 ·exact h.1.1
 ·exact h.1.2
 ·exact h.2
theorem xB {P:Program} {n:Nat} {ops:Array Oper}: ∀{l:List Oper} {steps:List cn},k9 P n ops l=some steps->steps.length=l.length/\ ∀(i:Nat) (o:Oper),l[i]? =some o-> ∃s,steps[i]? =some s/\Kj P n ops o=some s
 |[],steps,h=>by simp [k9] at h;subst h;exact ⟨rfl,fun i o ho=>by simp at ho⟩
 |o::l,steps,h=>by
  simp only [k9] at h
  split at h
  ·rename_i s r h1 h2
   cases h
   obtain ⟨a1,a2⟩:=xB h2
   refine ⟨by simp [a1],fun i o' ho=> ?_⟩
   cases i with
   |zero=>simp at ho;subst ho;exact ⟨s,rfl,h1⟩
   |succ i=>simpa using a2 i o' (by simpa using ho)
  ·cases h
end
section
structure Run (P:Program) (C:ce) (ow:ec) (n:Nat) (ops:Array Oper) (steps:List cn) (deps:List (List Nat)) (base:Nat) (rs:List Rec) (sts:Nat->St) (vs:Nat->V) (us:Nat->Upd):Prop where
 cs:k9 P n ops ops.toList=some steps
 D:c1N ops.toList steps deps
 ent: ∀(i:Nat) (s:cn),steps[i]? =some s-> ∃rc,rs[i]? =some rc/\Ent C ow (sts i) (sts (i+1)) s i (base+i) rc (vs i) (us i)
 po:qE deps (rs.filter Rec.loud)=true
def mE (steps:List cn) (i:Nat):Option Nat:=(steps[i]?).bind (·.dst)
def Bl (S:Nat->Bool) (i:Nat):Nat->Bool:=fun j=>if j=i then true else S j
section
variable {P:Program} {C:ce} {ow:ec} {n:Nat} {ops:Array Oper} {steps:List cn} {deps:List (List Nat)} {base:Nat} {rs:List Rec} {sts:Nat->St} {vs:Nat->V} {us:Nat->Upd}
theorem Run.heapAt (R:Run P C ow n ops steps deps base rs sts vs us): ∀{i:Nat},i<=steps.length->(sts i).heap=hat us (fun _=>true) i (sts 0).heap
 |0,_=>rfl
 |i+1,h=>by
  obtain ⟨s,a⟩:=eu (l:=steps) (i:=i) (by omega)
  obtain ⟨rc,_,E⟩:=R.ent i s a
  rw [E.nx,St.put_heap,St.upd_heap,R.heapAt (by omega)]
  rfl
theorem Run.getAt (R:Run P C ow n ops steps deps base rs sts vs us): ∀{i:Nat},i<=steps.length->(sts i).get=fat (mE steps) vs (fun _=>true) i (sts 0).get
 |0,_=>rfl
 |i+1,h=>by
  obtain ⟨s,a⟩:=eu (l:=steps) (i:=i) (by omega)
  obtain ⟨rc,_,E⟩:=R.ent i s a
  funext t
  rw [E.nx,St.put_get,St.upd_get,R.getAt (by omega)]
  show _=(if mE steps i=some t then vs i else _)
  have:mE steps i=s.dst:=by simp [mE,a]
  rw [this]
theorem Run.ordB (R:Run P C ow n ops steps deps base rs sts vs us) {i j:Nat} {s:cn} {rc:Rec} (m:steps[i]? =some s) (c:rs[i]? =some rc) (E:Ent C ow (sts i) (sts (i+1)) s i (base+i) rc (vs i) (us i))
 (h:j<steps.length) (k:j≠i) {b:Nat} (d:b∈(us j).map (·.1)) (hi:b∈rc.fp\/b∈(us i).map (·.1)):if j<i then j∈deps.getD i [] else i∈deps.getD j []:=by
 obtain ⟨s',e⟩:=eu h
 obtain ⟨rc',a,E'⟩:=R.ent j s' e
 rw [<-E.wr] at hi
 rw [<-E'.wr] at d
 split
 ·rename_i f
  have:=a1J R.po f a c (by
   simp only [Vv,cY,iv]
   left
   exact ⟨b,d,by simpa using hi⟩)
  rwa [E.ri,E'.ri] at this
 ·rename_i l
  have:=a1J R.po (show i<j by omega) c a (by
   simp only [Vv,cY,iv]
   rcases hi with hi|hi
   ·right;exact ⟨b,d,by simpa using hi⟩
   ·left;exact ⟨b,hi,by simp [d]⟩)
  rwa [E.ri,E'.ri] at this
theorem Run.ordT (R:Run P C ow n ops steps deps base rs sts vs us) {i j:Nat} {s:cn} (e:steps[i]? =some s) (l:j<steps.length) (m:j≠i) {t:Nat} (o:mE steps j=some t)
 (hi:t∈IF s\/mE steps i=some t):if j<i then j∈deps.getD i [] else i∈deps.getD j []:=by
 obtain ⟨s',a⟩:=eu l
 have d:s'.dst=some t:=by simpa [mE,a] using o
 have c:t∈IF s\/s.dst=some t:=by simpa [mE,e] using hi
 split
 ·rename_i f
  rcases R.D.ap j i s' s f a e with b|b
  ·exact b
  ·obtain ⟨k,a2,a3⟩:=NJ b
   exact absurd c (by rintro (h|h);exact k t d h;exact a2 t d h)
 ·rename_i p
  rcases R.D.ap i j s s' (by omega) e a with b|b
  ·exact b
  ·obtain ⟨k,a2,a3⟩:=NJ b
   exact absurd c (by rintro (h|h);exact a3 t d h;exact a2 t h d)
structure Rdy (deps:List (List Nat)) (S:Nat->Bool) (i:Nat):Prop where
 cl: ∀j,S j=true-> ∀d∈deps.getD j [],S d=true
 no:S i=false
 pre: ∀d∈deps.getD i [],S d=true
theorem Rdy.side {S:Nat->Bool} {i j:Nat} (r:Rdy deps S i) (c:j≠i) (h:if j<i then j∈deps.getD i [] else i∈deps.getD j []):S j=decide (j<i):=by
 split at h
 ·rename_i a;rw [r.pre j h];simp [a]
 ·rename_i b
  cases d:S j with
  |false=>simp [b]
  |true=>have:=r.cl j d i h;rw [r.no] at this;cases this
section
variable {i:Nat} {s:cn} {rc:Rec} {S:Nat->Bool}
theorem Run.seeT (R:Run P C ow n ops steps deps base rs sts vs us) (a:steps[i]? =some s) (r:Rdy deps S i) {t:Nat} (b:t∈IF s\/mE steps i=some t):
 fat (mE steps) vs S steps.length (sts 0).get t=(sts i).get t:=by
 have hi:=dw a
 rw [R.getAt (i:=i) (by omega), <-a6B (N:=steps.length) (by omega)]
 refine xS (fun j c d=> ?_)
 by_cases e:j=i
 ·subst e;rw [r.no];simp
 ·exact r.side e (R.ordT a c e d b)
theorem Run.seeB (R:Run P C ow n ops steps deps base rs sts vs us) (c:steps[i]? =some s) (a:rs[i]? =some rc) (E:Ent C ow (sts i) (sts (i+1)) s i (base+i) rc (vs i) (us i)) (r:Rdy deps S i)
 {b:Nat} (d:b∈rc.fp\/b∈(us i).map (·.1)):hat us S steps.length (sts 0).heap b=(sts i).heap b:=by
 have hi:=dw c
 rw [R.heapAt (i:=i) (by omega), <-a6K (N:=steps.length) (by omega)]
 refine xW (fun j f h=> ?_)
 by_cases e:j=i
 ·subst e;rw [r.no];simp
 ·exact r.side e (R.ordB c a E f e h d)
theorem Run.setT (R:Run P C ow n ops steps deps base rs sts vs us) (c:steps[i]? =some s) (r:Rdy deps S i):
 fat (mE steps) vs (Bl S i) steps.length (sts 0).get=fun t=>if s.dst=some t then vs i else fat (mE steps) vs S steps.length (sts 0).get t:=by
 have hi:=dw c
 have d:mE steps i=s.dst:=by simp [mE,c]
 funext t
 by_cases b:s.dst=some t
 ·rw [ae b]
  have e1:fat (mE steps) vs (Bl S i) steps.length (sts 0).get t=fat (mE steps) vs (fun j=>decide (j<i+1)) steps.length (sts 0).get t:=by
   refine xS (fun j f a=> ?_)
   unfold Bl
   by_cases e:j=i
   ·subst e;simp
   ·rw [aa e,r.side e (R.ordT c f e a (.inr (by rw [d];exact b)))]
    by_cases h:j<i
    ·simp [h];omega
    ·simp [h];omega
  rw [e1,a6B (by omega), <-R.getAt (by omega)]
  obtain ⟨rc,_,E⟩:=R.ent i s c
  rw [E.nx,St.put_get,ae b]
 ·rw [aa b]
  refine xS (fun j f a=> ?_)
  unfold Bl
  by_cases e:j=i
  ·subst e;rw [d] at a;exact absurd a b
  ·rw [aa e]
theorem Run.setB (R:Run P C ow n ops steps deps base rs sts vs us) (f:steps[i]? =some s) (d:rs[i]? =some rc) (E:Ent C ow (sts i) (sts (i+1)) s i (base+i) rc (vs i) (us i)) (r:Rdy deps S i):
 hat us (Bl S i) steps.length (sts 0).heap=g9 (hat us S steps.length (sts 0).heap) (us i):=by
 have hi:=dw f
 funext b
 by_cases c:b∈(us i).map (·.1)
 ·have e1:hat us (Bl S i) steps.length (sts 0).heap b=hat us (fun j=>decide (j<i+1)) steps.length (sts 0).heap b:=by
   refine xW (fun j h a=> ?_)
   unfold Bl
   by_cases e:j=i
   ·subst e;simp
   ·rw [aa e,r.side e (R.ordB f d E h e a (.inr c))]
    by_cases k:j<i
    ·simp [k];omega
    ·simp [k];omega
  rw [e1,a6K (by omega), <-R.heapAt (by omega),E.nx,St.put_heap,St.upd_heap]
  exact X6 c
 ·rw [uZ c]
  refine xW (fun j h a=> ?_)
  unfold Bl
  by_cases e:j=i
  ·subst e;exact absurd a c
  ·rw [aa e]
end
end
section
variable {P:Program} {C:ce} {ow:ec} {n:Nat} {ops:Array Oper} {steps:List cn} {deps:List (List Nat)} {base:Nat} {rs:List Rec} {sts:Nat->St} {vs:Nat->V} {us:Nat->Upd}
theorem SS [Frame] {ops:Array Oper} {o:Oper} {s:cn} (CS:c5q P n ops o s) {f:Nat->V} {μ:Mu} {h:b8} {w:World} {a:Act} (E:gg μ h w f a) {b:Bool} (i:N1 f s.guard=some b):
 Region.wanted o (yielded ops a.tmps)=b:=by
 cases j:s.guard with
 |none=>
  rw [j] at i
  exact M2 (st:=⟨[],[]⟩) CS (μ:=μ) (h:=fun _=>none) (w:=w) (a:=a) (fun t=>by show aY _ _ _ .undef _;exact .unk _) (by rw [j];exact i)
 |some p=>
  obtain ⟨t,c⟩:=p
  rw [j] at i
  cases d:f t with
  |lit y=>
   refine M2 (st:=⟨[(t,.lit y)],[]⟩) CS (μ:=μ) (h:=h) (w:=w) (a:=a) (fun t'=> ?_) ?_
   ·show aY μ h w ((dP [(t,V.lit y)] t').getD .undef) _
    simp only [dP]
    by_cases e:t=t'
    ·rw [ae e];have:=E t';rw [<-e,d] at this;rw [<-e];exact this
    ·rw [aa e];exact .unk _
   ·rw [j,Zp]
    have e1:St.get ⟨[(t,.lit y)],[]⟩ t= .lit y:=by show (dP [(t,V.lit y)] t).getD .undef=_;simp [dP]
    simp only [N1,e1]
    simp only [N1,d] at i
    exact i
  |_=>simp [N1,d] at i
theorem Run.one [Frame] (R:Run P C ow n ops steps deps base rs sts vs us) (hC:lH P C) {Q:Exit->Act->World->Prop} {μ0:Mu} {h0:b8} {w0:World} {S:Nat->Bool} {i:Nat} {o:Oper} (ho:ops[i]? =some o) (r:Rdy deps S i)
 {μ:Mu} {a:Act} {w:World} (I:Inv n (fat (mE steps) vs S steps.length (sts 0).get) (hat us S steps.length (sts 0).heap) μ a w) (Si:lk μ0 h0 w0 μ (hat us S steps.length (sts 0).heap) w) {K:Act->World->Prop}
 (HK: ∀μ' a' w',Inv n (fat (mE steps) vs (Bl S i) steps.length (sts 0).get) (hat us (Bl S i) steps.length (sts 0).heap) μ' a' w'->lk μ0 h0 w0 μ' (hat us (Bl S i) steps.length (sts 0).heap) w'->K a' w'):
 wpOp P ops Q i K a w:=by
 obtain ⟨s,h,z⟩:=(xB R.cs).2 i o (by simpa using ho)
 have CS:=Ij z
 obtain ⟨rc,j,E⟩:=R.ent i s h
 have hT:=R.setT h r
 have hB:=R.setB h j E r
 rw [hT,hB] at HK
 have seeG:N1 (fat (mE steps) vs S steps.length (sts 0).get) s.guard=N1 (sts i).get s.guard:=by
  cases hg:s.guard with
  |none=>rfl
  |some p=>
   obtain ⟨t,c⟩:=p
   simp only [N1]
   rw [R.seeT h r (.inl (by simp [IF,hg]))]
 unfold wpOp
 rw [ho]
 simp only
 rcases E.kind with ⟨m,hv,hu⟩|⟨m,q,l⟩
 ·rw [Zp, <-seeG] at m
  rw [SS CS I.E m]
  simp only [bx,if_false]
  rw [hv,hu] at HK
  refine HK μ _ w ?_ Si
  rw [CS.dst]
  exact I.put_skip CS.lt (.lit _)
 ·rw [Zp, <-seeG] at m
  rw [SS CS I.E m]
  simp only [if_true]
  have hev: ∀x∈s.op.opds,(sts i).ev x=Opd.ev (fat (mE steps) vs S steps.length (sts 0).get) x:=by
   intro x hx
   cases x with
   |t t=>
    show (sts i).get t=_
    have:t∈IF s:=by
     unfold IF
     exact List.mem_append_left _ (List.mem_filterMap.2 ⟨.t t,hx,rfl⟩)
    rw [<-R.seeT h r (.inl this)]
    rfl
   |c v=>rfl
   |f k=>rfl
  rw [a29 hev] at q
  have hle:Le (sj (sts i).heap rc.fp) (hat us S steps.length (sts 0).heap):=by
   intro b k y
   unfold sj at y
   split at y
   ·rename_i hb
    rw [R.seeB h j E r (.inl hb)]
    exact y
   ·cases y
  have u:=b5P hle q (fun b hm h0=>by
   rw [R.seeB h j E r (.inr hm)]
   rcases l b hm with hb|e
   ·unfold sj at h0;rw [ae hb] at h0;exact h0
   ·exact e)
  refine .inl (PZ hC I.H I.E CS.op u (fun x w' μ' H' C' V'=> ?_))
  refine HK μ' _ w' ?_ ⟨Si.C.trans C',Si.lo⟩
  have E':gg μ' _ w' _ a:=fun t=>(I.E t).chg C'
  have:=(Inv.mk H' E' I.sz I.df).put_skip (d:=o.dst) CS.lt V'
  rw [CS.dst]
  exact this
def yc (N:Nat) (listed:Array Bool):Nat:=(List.range N).countP (fun i=> !listed.getD i false)
theorem a9q {p q:Nat->Bool} {l:List Nat} {i:Nat} (hi:i∈l) (b:p i=true) (c:q i=false) (a: ∀j,q j=true->p j=true):l.countP q<l.countP p:=by
 induction l with
 |nil=>simp at hi
 |cons x r ih=>
  rw [o8,o8]
  have d:r.countP q<=r.countP p:=List.countP_mono_left (fun j _ e=>a j e)
  rcases b9.1 hi with rfl|hi
  ·rw [b,c];simp;omega
  ·have:=ih hi
   cases f:q x with
   |true=>rw [a x f];simp;omega
   |false=>simp;split<;>omega
theorem Run.any [Frame] (R:Run P C ow n ops steps deps base rs sts vs us) (hC:lH P C) {Q:Exit->Act->World->Prop} {μ0:Mu} {h0:b8} {w0:World}
 (K: ∀μ a w,Inv n (sts steps.length).get (sts steps.length).heap μ a w->lk μ0 h0 w0 μ (sts steps.length).heap w->Q .normal a w): ∀(fuel:Nat) (listed:Array Bool) (a:Act) (w:World) (μ:Mu),listed.size=steps.length->
 yc steps.length listed<=fuel->(∀j,listed.getD j false=true-> ∀d∈deps.getD j [],listed.getD d false=true)->
 Inv n (fat (mE steps) vs (fun j=>listed.getD j false) steps.length (sts 0).get) (hat us (fun j=>listed.getD j false) steps.length (sts 0).heap) μ a w->
 lk μ0 h0 w0 μ (hat us (fun j=>listed.getD j false) steps.length (sts 0).heap) w->wpAny P .any ops Q fuel listed a w:=by
 have hlen:steps.length=ops.size:=by rw [(xB R.cs).1,Array.length_toList]
 have getEq: ∀(listed:Array Bool) (j:Nat),j<listed.size->listed.getD j true=listed.getD j false:=by
  intro listed j c
  rw [Array.getD_eq_getD_getElem?,Array.getD_eq_getD_getElem?,aL c];rfl
 have stop: ∀(listed:Array Bool),listed.size=steps.length->Region.ready .any ops listed=[]-> ∀j,j<steps.length->listed.getD j false=true:=by
  intro listed f q j
  induction j using Nat.strongRecOn with
  |_ j ih=>
   intro c
   cases y:listed.getD j false with
   |true=>rfl
   |false=>
    obtain ⟨o,l⟩: ∃o,ops[j]? =some o:=⟨ops[j],aL (by omega)⟩
    have:j∈Region.ready .any ops listed:=mem_ready.2 ⟨by rw [getEq _ _ (by omega)];exact y,o,l,fun e he hb=>by
     have s:=R.D.back j o c (by simpa using l) e he hb
     exact ih e.on s (by omega)⟩
    rw [q] at this;cases this
 have fin: ∀(listed:Array Bool) (a:Act) (w:World) (μ:Mu),listed.size=steps.length->Region.ready .any ops listed=[]->
  Inv n (fat (mE steps) vs (fun j=>listed.getD j false) steps.length (sts 0).get) (hat us (fun j=>listed.getD j false) steps.length (sts 0).heap) μ a w->
  lk μ0 h0 w0 μ (hat us (fun j=>listed.getD j false) steps.length (sts 0).heap) w->Q .normal a w:=by
  intro listed a w μ f q I Si
  have m:=stop listed f q
  have e1:fat (mE steps) vs (fun j=>listed.getD j false) steps.length (sts 0).get=(sts steps.length).get:=by
   rw [R.getAt (aw _)]
   funext t
   exact xS (fun j c _=>m j c)
  have e2:hat us (fun j=>listed.getD j false) steps.length (sts 0).heap=(sts steps.length).heap:=by
   rw [R.heapAt (aw _)]
   funext b
   exact xW (fun j c _=>m j c)
  rw [e1,e2] at I
  rw [e2] at Si
  exact K μ a w I Si
 intro fuel
 induction fuel with
 |zero=>
  intro listed a w μ f hf k I Si
  have h:Region.ready .any ops listed=[]:=by
   cases q:Region.ready .any ops listed with
   |nil=>rfl
   |cons x r=>
    exfalso
    have hx:x∈Region.ready .any ops listed:=by rw [q];simp
    obtain ⟨v,o,l,_⟩:=mem_ready.1 hx
    have s:x<ops.size:=(lx.1 l).1
    rw [getEq _ _ (by omega)] at v
    have:0<yc steps.length listed:=by
     unfold yc
     rw [List.countP_pos_iff]
     exact ⟨x,bV.2 (by omega),by rw [v];rfl⟩
    omega
  exact ⟨h,fin listed a w μ f h I Si⟩
 |succ fuel ih=>
  intro listed a w μ f hf k I Si
  refine ⟨fun q=>fin listed a w μ f q I Si,fun i hi=> ?_⟩
  obtain ⟨v,o,l,u⟩:=mem_ready.1 hi
  have s:i<ops.size:=(lx.1 l).1
  rw [getEq _ _ (by omega)] at v
  have p: ∀d∈deps.getD i [],listed.getD d false=true:=by
   intro d z
   obtain ⟨e,he,hb,hor⟩:=R.D.edge i o (by omega) (by simpa using l) d z
   have y:=u e he hb
   rcases hor with h2|h2
   ·rw [<-h2];exact y
   ·exact k e.on y d h2
  have bT:(fun j=>(listed.setIfInBounds i true).getD j false)=Bl (fun j=>listed.getD j false) i:=by
   funext j
   unfold Bl
   by_cases e:j=i
   ·subst e
    rw [ae rfl,Array.getD_eq_getD_getElem?]
    have:j<listed.size:=by omega
    simp [this]
   ·rw [aa e,getD_set_ne false (Ne.symm e)]
  refine R.one hC l ⟨k,v,p⟩ I Si (fun μ' a' w' I' Si'=> ?_)
  rw [<-bT] at I' Si'
  refine ih (listed.setIfInBounds i true) a' w' μ' (by simpa using f) ?_ ?_ I' Si'
  ·have:yc steps.length (listed.setIfInBounds i true)<yc steps.length listed:=by
    unfold yc
    refine a9q (i:=i) (bV.2 (by omega)) (by rw [v];rfl) ?_ (fun j c=> ?_)
    ·have e1:(listed.setIfInBounds i true).getD i false=Bl (fun j=>listed.getD j false) i i:=congrFun bT i
     rw [e1];simp [Bl]
    ·have e1:(listed.setIfInBounds i true).getD j false=Bl (fun j=>listed.getD j false) i j:=congrFun bT j
     rw [e1] at c
     unfold Bl at c
     split at c
     ·cases c
     ·exact c
   omega
  ·intro j c d z
   have e1:(listed.setIfInBounds i true).getD j false=Bl (fun j=>listed.getD j false) i j:=congrFun bT j
   have e2:(listed.setIfInBounds i true).getD d false=Bl (fun j=>listed.getD j false) i d:=congrFun bT d
   rw [e1] at c
   rw [e2]
   unfold Bl at c ⊢
   split
   ·rfl
   ·split at c
    ·rename_i e;subst e;exact p d z
    ·exact k j c d z
theorem a0i [Frame] (x:lH P C) {id:Nat} {live:List Nat} {Q:Exit->Act->World->Prop} {μ0:Mu} {h0:b8} {w0:World} {st st':St} {e:bR} {μ:Mu} {a:Act} {w:World} (y:P.follows .mixedOrders=true)
 (hc:k9 P n ops ops.toList=some steps) (z:Pg ops.toList steps deps=true) (c:Az C ow base steps deps live st=some (e,st')) (I:Inv n st.get st.heap μ a w) (S:lk μ0 h0 w0 μ st.heap w)
 (K: ∀μ' a' w',Inv n st'.get st'.heap μ' a' w'->lk μ0 h0 w0 μ' st'.heap w'->Q .normal a' w'):e= .normal/\(Code.region id ops true).wp P Q a w:=by
 unfold Az at c
 split at c
 ·rename_i st1 rs h1
  split at c
  ·rename_i l
   cases c
   obtain ⟨hl,sts,e0,e1,e2⟩:=ND h1
   have m: ∀i, ∃vu:V×Upd, ∀s,steps[i]? =some s-> ∃rc,rs[i]? =some rc/\Ent C ow (sts i) (sts (i+1)) s i (base+i) rc vu.1 vu.2:=by
    intro i
    cases o:steps[i]? with
    |none=>exact ⟨(.undef,[]),fun s c=>by cases c⟩
    |some s=>
     obtain ⟨rc,g1,q⟩:=e2 i s o
     rw [cy] at q
     obtain ⟨v,u,E⟩:=a4i q
     exact ⟨(v,u),fun s' p=>by cases p;exact ⟨rc,g1,E⟩⟩
   obtain ⟨g,hg⟩:=Classical.axiomOfChoice m
   have R:Run P C ow n ops steps deps base rs sts (fun i=>(g i).1) (fun i=>(g i).2):=⟨hc,Zy z,fun i s c=>hg i s c,l⟩
   refine ⟨rfl,wp_region_any y ?_⟩
   have d:steps.length=ops.size:=by rw [(xB hc).1,Array.length_toList]
   have k:yv w { w with drawn:=w.drawn+1 }:=⟨rfl,rfl,rfl,aw _,fun _ _=>rfl,ms _⟩
   have C1:=k.chg I.H
   have b:(fun j=>(Array.replicate ops.size false).getD j false)=fun _=>false:=by
    funext j
    rw [Array.getD_eq_getD_getElem?,Array.getElem?_replicate]
    split<;>rfl
   have ef:fat (mE steps) (fun i=>(g i).1) (fun _=>false) steps.length (sts 0).get=st.get:=by
    have:=RL (ds:=mE steps) (vs:=fun i=>(g i).1) (S:=fun _=>false) (f:=(sts 0).get) (i:=0) (fun _ _=>rfl) steps.length
    rw [cy] at this
    rw [this,e0];rfl
   have eh:hat (fun i=>(g i).2) (fun _=>false) steps.length (sts 0).heap=st.heap:=by
    have:=Rt (us:=fun i=>(g i).2) (S:=fun _=>false) (h:=(sts 0).heap) (i:=0) (fun _ _=>rfl) steps.length
    rw [cy] at this
    rw [this,e0];rfl
   refine R.any x (μ0:=μ0) (h0:=h0) (w0:=w0) (fun μ' a' w' I' S'=> ?_) ops.size (Array.replicate ops.size false) a _ μ (by simp [d]) ?_ (fun j r=> ?_) ?_ ?_
   ·rw [e1] at I' S'
    exact K μ' a' w' (I'.trim live) S'
   ·unfold yc
    exact e7 oZ (by simp [d])
   ·have e3:(Array.replicate ops.size false).getD j false=false:=congrFun b j
    rw [e3] at r;cases r
   ·rw [b,ef,eh]
    exact ⟨I.H.grown k,fun t=>(I.E t).chg C1,I.sz,I.df⟩
   ·rw [b,eh]
    exact ⟨S.C.trans C1,S.lo⟩
  ·cases c
 ·cases c
end
end
end Go.AI
