/- Part. -/
import Derived.Test.YtdnkignjanfikaaGreatAiGhost
import Derived.Test.YtdnkignjanfikaaGreatAiMono
set_option linter.unusedVariables false
set_option linter.unusedSimpArgs false
namespace Go.AI
section
theorem J3 {ev ev':Opd->V}: ∀{ps:List (Nat×Nat×Opd)},(∀x∈ps.map (·.2.2),ev x=ev' x)->iG ev ps=iG ev' ps
 |[],_=>rfl
 | (a,b,x)::r,h=>by
   simp only [iG]
   rw [h x (by simp),J3 (fun y c=>h y (by simp at c ⊢;exact .inr c))]
theorem Ed {b:b8} {ev ev':Opd->V}: ∀{ps:List (Nat×Opd)},(∀x∈ps.map (·.2),ev x=ev' x)->ew b ev ps=ew b ev' ps
 |[],_=>rfl
 | (a,x)::r,h=>by
   simp only [ew]
   rw [h x (by simp),Ed (fun y c=>h y (by simp at c ⊢;exact .inr c))]
theorem DJ {ev ev':Opd->V} {o:Option Opd} (h: ∀x∈KC o,ev x=ev' x):o.map ev=o.map ev':=by
 cases o with
 |none=>rfl
 |some x=>simp [h x (by simp [KC])]
theorem a1J {C:ce} {ow:FuncId->List Nat} {o:AOp} {ev ev':Opd->V} {b:b8} {n:Nat} (h: ∀x∈o.opds,ev x=ev' x):aM C ow o ev b n=aM C ow o ev' b n:=by
 cases o<;>simp only [AOp.opds,b9,aX,List.not_mem_nil,or_false,forall_eq_or_imp,forall_eq] at h<;>simp only [aM]
 case build z ps=>rw [J3 (fun x a=>h x a)]
 case buildSlice e z l ps=>rw [Ed (fun x a=>h x a)]
 case makeFunc f cs=>rw [cC (fun x a=>h x a)]
 case call f cs=>rw [cC (fun x a=>h x a)]
 case dyn f cs=>rw [h.1,cC (fun x a=>h.2 x a)]
 case sliceStr x lo hi=>rw [h.1,DJ (fun x a=>h.2 x (.inl a)),DJ (o:=hi) (fun x a=>h.2 x (.inr a))]
 case slice e x lo hi mx=>rw [h.1,DJ (fun x a=>h.2 x (.inl a)),DJ (o:=hi) (fun x a=>h.2 x (.inr (.inl a)))]
 all_goals first
  | (rw [h];done)
  | (rw [h.1,h.2];done)
  | (rw [h.1,h.2.1,h.2.2];done)
  |rfl
def O0 (f:Nat->V):Option (Nat×Bool)->Option Bool
 |none=>some true
 |some (t,b)=>match f t with
  | .lit (.bool c)=>some (c==b)
  | .lit (.tuple _)=>some false
  |_=>none
theorem Wz (st:St) (g:Option (Nat×Bool)):st.want g=O0 st.get g:=by cases g<;>rfl
theorem vp: ∀{u:Upd} {h:b8} {b:Nat},b∉u.map (·.1)->fW h u b=h b
 |[],h,b,_=>rfl
 | (i,k)::r,h,b,a=>by
   simp only [aP,b9,not_or] at a
   show fW (bT h i k) r b=h b
   rw [vp a.2]
   simp [bT,a.1]
theorem Xt: ∀{u:Upd} {h h':b8} {b:Nat},b∈u.map (·.1)->fW h u b=fW h' u b
 |[],h,h',b,a=>by simp at a
 | (i,k)::r,h,h',b,a=>by
   show fW (bT h i k) r b=fW (bT h' i k) r b
   by_cases c:b∈r.map (·.1)
   ·exact Xt c
   ·rw [vp c,vp c]
    simp only [aP,b9] at a
    d:b=i:=a.resolve_right c
    simp [bT,this]
def hat (us:Nat->Upd) (S:Nat->Bool):Nat->b8->b8
 |0,h=>h
 |k+1,h=>if S k=true then fW (hat us S k h) (us k) else hat us S k h
def fat (ds:Nat->Option Nat) (vs:Nat->V) (S:Nat->Bool):Nat->(Nat->V)->Nat->V
 |0,f=>f
 |k+1,f=>if S k=true then (fun t=>if ds k=some t then vs k else fat ds vs S k f t) else fat ds vs S k f
theorem xO {us:Nat->Upd} {S S':Nat->Bool} {h:b8} {b:Nat}: ∀{k:Nat},(∀j,j<k->b∈(us j).map (·.1)->S j=S' j)->hat us S k h b=hat us S' k h b
 |0,_=>rfl
 |k+1,H=>by
  c ih:=xO (k:=k) (us:=us) (S:=S) (S':=S') (h:=h) (b:=b) (fun j d a=>H j (by omega) a)
  simp only [hat]
  by_cases a:b∈(us k).map (·.1)
  ·rw [H k (by omega) a]
   split
   ·exact Xt a
   ·exact ih
  ·split<;>split
   ·rw [vp a,vp a];exact ih
   ·rw [vp a];exact ih
   ·rw [vp a];exact ih
   ·exact ih
theorem xU {ds:Nat->Option Nat} {vs:Nat->V} {S S':Nat->Bool} {f:Nat->V} {t:Nat}: ∀{k:Nat},(∀j,j<k->ds j=some t->S j=S' j)->fat ds vs S k f t=fat ds vs S' k f t
 |0,_=>rfl
 |k+1,H=>by
  b ih:=xU (k:=k) (ds:=ds) (vs:=vs) (S:=S) (S':=S') (f:=f) (t:=t) (fun j c a=>H j (by omega) a)
  simp only [fat]
  by_cases a:ds k=some t
  ·rw [H k (by omega) a]
   split
   ·simp [a]
   ·exact ih
  ·split<;>split
   ·simp only [a,if_false];exact ih
   ·simp only [a,if_false];exact ih
   ·simp only [a,if_false];exact ih
   ·exact ih
theorem Tc {us:Nat->Upd} {S:Nat->Bool} {h:b8} {i:Nat} (H: ∀j,i<=j->S j=false): ∀d,hat us S (i+d) h=hat us S i h
 |0=>rfl
 |d+1=>by
  show (if S (i+d)=true then _ else hat us S (i+d) h)=_
  rw [H (i+d) (by omega)]
  exact Tc H d
theorem SA {ds:Nat->Option Nat} {vs:Nat->V} {S:Nat->Bool} {f:Nat->V} {i:Nat} (H: ∀j,i<=j->S j=false): ∀d,fat ds vs S (i+d) f=fat ds vs S i f
 |0=>rfl
 |d+1=>by
  show (if S (i+d)=true then _ else fat ds vs S (i+d) f)=_
  rw [H (i+d) (by omega)]
  exact SA H d
theorem a6D {us:Nat->Upd} {h:b8} {i N:Nat} (hi:i<=N) (b:Nat):hat us (fun j=>decide (j<i)) N h b=hat us (fun _=>true) i h b:=by
 obtain ⟨d,rfl⟩: ∃d,N=i+d:=⟨N-i,by omega⟩
 rw [Tc (fun j a=>by simp;omega)]
 exact xO (fun j a _=>by simp [a])
theorem a74 {ds:Nat->Option Nat} {vs f:Nat->V} {i N:Nat} (hi:i<=N) (t:Nat):fat ds vs (fun j=>decide (j<i)) N f t=fat ds vs (fun _=>true) i f t:=by
 obtain ⟨d,rfl⟩: ∃d,N=i+d:=⟨N-i,by omega⟩
 rw [SA (fun j a=>by simp;omega)]
 exact xU (fun j a _=>by simp [a])
theorem O3 {C:ce} {ow:ec} {base:Nat}: ∀{steps:List cn} {i:Nat} {st st':St} {rs:List Rec},jD C ow base steps i st=some (st',rs)->
 rs.length=steps.length/\ ∃sts:Nat->St,sts 0=st/\sts steps.length=st'/\ ∀(j:Nat) (s:cn),steps[j]? =some s-> ∃rc,rs[j]? =some rc/\z6 C ow (sts j) s (i+j) (base+(i+j))=some (sts (j+1),rc)
 |[],i,st,st',rs,h=>by
  simp [jD] at h
  obtain ⟨rfl,rfl⟩:=h
  exact ⟨rfl,fun _=>st,rfl,rfl,fun j s d=>by simp at d⟩
 |s::r,i,st,st',rs,h=>by
  simp only [jD] at h
  cases b:z6 C ow st s i (base+i) with
  |none=>rw [b] at h;cases h
  |some p=>
   obtain ⟨st1,rc⟩:=p
   rw [b] at h
   dsimp only at h
   cases c:jD C ow base r (i+1) st1 with
   |none=>rw [c] at h;cases h
   |some q=>
    obtain ⟨st2,rs'⟩:=q
    rw [c] at h
    cases h
    obtain ⟨e,sts,e0,e1,e2⟩:=O3 c
    refine ⟨by simp [e],fun j=>match j with
     |0=>st
     |j+1=>sts j,rfl,by simpa using e1,fun j s' a=> ?_⟩
    cases j with
    |zero=>
     simp at a
     subst a
     refine ⟨rc,rfl, ?_⟩
     simp only [cQ,cy,e0]
     exact b
    |succ j=>
     obtain ⟨rc',f,k⟩:=e2 j s' (by simpa using a)
     refine ⟨rc',by simpa using f, ?_⟩
     rw [show i+(j+1)=i+1+j by omega]
     exact k
structure Ent (C:ce) (ow:ec) (st st':St) (s:cn) (i n:Nat) (rc:Rec) (v:V) (u:Upd):Prop where
 nx:st'=(st.upd u).put s.dst v
 ri:rc.i=i
 wr:rc.wr=u.map (·.1)
 kind:(st.want s.guard=some false/\v= .lit (.tuple #[])/\u=[])\/
  (st.want s.guard=some true/\aM C ow s.op st.ev (s3 st.heap rc.fp) n=some (v,u)/\ ∀b∈u.map (·.1),b∈rc.fp\/st.heap b=none)
theorem a4a {C:ce} {ow:ec} {st st':St} {s:cn} {i n:Nat} {rc:Rec} (h:z6 C ow st s i n=some (st',rc)): ∃v u,Ent C ow st st' s i n rc v u:=by
 unfold z6 at h
 cases a:st.want s.guard with
 |none=>rw [a] at h;cases h
 |some b=>
  rw [a] at h
  cases b with
  |false=>
   cases h
   exact ⟨.lit (.tuple #[]),[],rfl,rfl,rfl,.inl ⟨a,rfl,rfl⟩⟩
  |true=>
   dsimp only at h
   split at h
   ·rename_i v u c
    split at h
    ·rename_i d
     cases h
     simp only [aB,da,aC,Option.isNone_iff_eq_none] at d
     exact ⟨v,u,rfl,rfl,rfl,.inr ⟨a,c,d⟩⟩
    ·cases h
   ·cases h
def a5S (deps:List (List Nat)) (p q:Rec):Prop:=(p.wr.isEmpty&&q.wr.isEmpty||(deps.getD q.i []).contains p.i|| !VL p q)=true
theorem NG {deps:List (List Nat)} {p:Rec}: ∀{l:List Rec},Fb deps p l=true-> ∀q∈l,a5S deps p q
 |[],_,q,a=>by simp at a
 |x::r,h,q,a=>by
  simp only [Fb,aD] at h
  rcases b9.1 a with rfl|a
  ·exact h.1
  ·exact NG h.2 q a
theorem KW {deps:List (List Nat)}: ∀{l:List Rec},pZ deps l=true->l.Pairwise (a5S deps)
 |[],_=>List.Pairwise.nil
 |x::r,h=>by
  simp only [pZ,aD] at h
  exact List.Pairwise.cons (fun q a=>NG h.1 q a) (KW h.2)
theorem a35 {deps:List (List Nat)} {rs:List Rec} (h:pZ deps (rs.filter Rec.loud)=true) {i j:Nat} {p q:Rec} (l:i<j) (m:rs[i]? =some p) (n:rs[j]? =some q) (o:VL p q=true):
 p.i∈deps.getD q.i []:=by
 a r:=KW h
 rw [List.pairwise_filter,lV] at r
 a hi:=dv m
 a s:=dv n
 a t:=r i j hi s l
 rw [aq hi] at m
 rw [aq s] at n
 cases m;cases n
 a d:=o
 simp only [VL,da,iq] at d
 a lp:Rec.loud rs[i]=true:=by
   unfold Rec.loud
   rcases d with ⟨b,f,_⟩|⟨b,f,c⟩
   ·cases e:(rs[i]).wr with
    |nil=>rw [e] at f;cases f
    |cons x y=>simp
   ·cases e:(rs[i]).fp with
    |nil=>rw [e] at c;simp at c
    |cons x y=>simp
 a lq:Rec.loud rs[j]=true:=by
   unfold Rec.loud
   rcases d with ⟨b,f,c⟩|⟨b,f,c⟩
   ·rcases c with c|c
    ·cases e:(rs[j]).fp with
     |nil=>rw [e] at c;simp at c
     |cons x y=>simp
    ·cases e:(rs[j]).wr with
     |nil=>rw [e] at c;simp at c
     |cons x y=>simp
   ·cases e:(rs[j]).wr with
    |nil=>rw [e] at f;cases f
    |cons x y=>simp
 a k:=t lp lq
 unfold a5S at k
 rw [o] at k
 simp only [aH,Bool.or_false,da,aD,List.contains_eq_mem,aC] at k
 rcases k with ⟨e1,e2⟩|k
 ·exfalso
  rw [List.isEmpty_iff] at e1 e2
  rw [e1,e2] at d
  simp at d
 ·exact k
structure c2i (ops:List Oper) (steps:List cn) (deps:List (List Nat)):Prop where
 back: ∀(j:Nat) (o:Oper),j<steps.length->ops[j]? =some o-> ∀e∈o.after,Region.binds .any e=true->e.on<j
 lt: ∀(j:Nat),j<steps.length-> ∀d∈deps.getD j [],d<j
 edge: ∀(j:Nat) (o:Oper),j<steps.length->ops[j]? =some o-> ∀d∈deps.getD j [], ∃e∈o.after,Region.binds .any e=true/\(e.on=d\/d∈deps.getD e.on [])
 ap: ∀(i j:Nat) (x y:cn),i<j->steps[i]? =some x->steps[j]? =some y->i∈deps.getD j []\/Zh x y=true
theorem WK {ops:List Oper} {steps:List cn} {deps:List (List Nat)} (h:Pf ops steps deps=true):c2i ops steps deps:=by
 unfold Pf at h
 rw [aB] at h
 a H:=fun j (b:j<steps.length)=>h j (bU.2 b)
 simp only [aD] at H
 refine ⟨fun j o b c e f k=> ?_,fun j b d l=> ?_,fun j o b c d l=> ?_,fun i j x y m q p=> ?_⟩
 ·a:=(H j b).1.1
  rw [c] at this
  simp only [ea,dq,aB] at this
  a:=this e (Array.mem_toList_iff.2 f)
  rw [k] at this
  simp only [aH,Bool.false_or,aD,aC] at this
  exact this.1.1
 ·a:=(H j b).1.2
  rw [aB] at this
  a:=this d l
  simp only [aD,aC] at this
  exact this.1
 ·a:=(H j b).1.2
  rw [aB] at this
  a:=this d l
  rw [c] at this
  simp only [aD,aC,ea,dq,iq,da,beq_iff_eq,List.contains_eq_mem] at this
  obtain ⟨_,e,f,k,n⟩:=this
  exact ⟨e,Array.mem_toList_iff.1 f,k,n⟩
 ·a:=(H j (dv p)).2
  rw [aB] at this
  a:=this i (bU.2 m)
  rw [q,p] at this
  simpa using this
theorem NY {x y:cn} (h:Zh x y=true):(∀d,x.dst=some d->d∉IA y)/\(∀d,x.dst=some d->y.dst≠some d)/\(∀d,y.dst=some d->d∉IA x):=by
 refine ⟨fun d a=> ?_,fun d a=> ?_,fun d a=> ?_⟩<;>simp [Zh,a] at h
 ·exact h.1.1
 ·exact h.1.2
 ·exact h.2
theorem xv {P:Program} {n:Nat} {ops:Array Oper}: ∀{l:List Oper} {steps:List cn},jX P n ops l=some steps->steps.length=l.length/\ ∀(i:Nat) (o:Oper),l[i]? =some o-> ∃s,steps[i]? =some s/\Lh P n ops o=some s
 |[],steps,h=>by simp [jX] at h;subst h;exact ⟨rfl,fun i o a=>by simp at a⟩
 |o::l,steps,h=>by
  simp only [jX] at h
  split at h
  ·rename_i s r b c
   cases h
   obtain ⟨d,a2⟩:=xv c
   refine ⟨by simp [d],fun i o' a=> ?_⟩
   cases i with
   |zero=>simp at a;subst a;exact ⟨s,rfl,b⟩
   |succ i=>simpa using a2 i o' (by simpa using a)
  ·cases h
end
section
structure Run (P:Program) (C:ce) (ow:ec) (n:Nat) (ops:Array Oper) (steps:List cn) (deps:List (List Nat)) (base:Nat) (rs:List Rec) (sts:Nat->St) (vs:Nat->V) (us:Nat->Upd):Prop where
 cs:jX P n ops ops.toList=some steps
 D:c2i ops.toList steps deps
 ent: ∀(i:Nat) (s:cn),steps[i]? =some s-> ∃rc,rs[i]? =some rc/\Ent C ow (sts i) (sts (i+1)) s i (base+i) rc (vs i) (us i)
 po:pZ deps (rs.filter Rec.loud)=true
def mw (steps:List cn) (i:Nat):Option Nat:=(steps[i]?).bind (·.dst)
def Br (S:Nat->Bool) (i:Nat):Nat->Bool:=fun j=>if j=i then true else S j
section
variable {P:Program} {C:ce} {ow:ec} {n:Nat} {ops:Array Oper} {steps:List cn} {deps:List (List Nat)} {base:Nat} {rs:List Rec} {sts:Nat->St} {vs:Nat->V} {us:Nat->Upd}
theorem Run.heapAt (R:Run P C ow n ops steps deps base rs sts vs us): ∀{i:Nat},i<=steps.length->(sts i).heap=hat us (fun _=>true) i (sts 0).heap
 |0,_=>rfl
 |i+1,h=>by
  obtain ⟨s,a⟩:=ep (l:=steps) (i:=i) (by omega)
  obtain ⟨rc,_,E⟩:=R.ent i s a
  rw [E.nx,St.put_heap,St.upd_heap,R.heapAt (by omega)]
  rfl
theorem Run.getAt (R:Run P C ow n ops steps deps base rs sts vs us): ∀{i:Nat},i<=steps.length->(sts i).get=fat (mw steps) vs (fun _=>true) i (sts 0).get
 |0,_=>rfl
 |i+1,h=>by
  obtain ⟨s,a⟩:=ep (l:=steps) (i:=i) (by omega)
  obtain ⟨rc,_,E⟩:=R.ent i s a
  funext t
  rw [E.nx,St.put_get,St.upd_get,R.getAt (by omega)]
  show _=(if mw steps i=some t then vs i else _)
  b:mw steps i=s.dst:=by simp [mw,a]
  rw [this]
theorem Run.ordB (R:Run P C ow n ops steps deps base rs sts vs us) {i j:Nat} {s:cn} {rc:Rec} (o:steps[i]? =some s) (c:rs[i]? =some rc) (E:Ent C ow (sts i) (sts (i+1)) s i (base+i) rc (vs i) (us i))
 (k:j<steps.length) (l:j≠i) {b:Nat} (e:b∈(us j).map (·.1)) (hi:b∈rc.fp\/b∈(us i).map (·.1)):if j<i then j∈deps.getD i [] else i∈deps.getD j []:=by
 obtain ⟨s',f⟩:=ep k
 obtain ⟨rc',a,E'⟩:=R.ent j s' f
 rw [<-E.wr] at hi
 rw [<-E'.wr] at e
 split
 ·rename_i h
  d:=a35 R.po h a c (by
   simp only [VL,da,iq]
   left
   exact ⟨b,e,by simpa using hi⟩)
  rwa [E.ri,E'.ri] at this
 ·rename_i m
  d:=a35 R.po (show i<j by omega) c a (by
   simp only [VL,da,iq]
   rcases hi with hi|hi
   ·right;exact ⟨b,e,by simpa using hi⟩
   ·left;exact ⟨b,hi,by simp [e]⟩)
  rwa [E.ri,E'.ri] at this
theorem Run.ordT (R:Run P C ow n ops steps deps base rs sts vs us) {i j:Nat} {s:cn} (f:steps[i]? =some s) (m:j<steps.length) (o:j≠i) {t:Nat} (p:mw steps j=some t)
 (hi:t∈IA s\/mw steps i=some t):if j<i then j∈deps.getD i [] else i∈deps.getD j []:=by
 obtain ⟨s',a⟩:=ep m
 c e:s'.dst=some t:=by simpa [mw,a] using p
 c d:t∈IA s\/s.dst=some t:=by simpa [mw,f] using hi
 split
 ·rename_i k
  rcases R.D.ap j i s' s k a f with b|b
  ·exact b
  ·obtain ⟨l,a2,a3⟩:=NY b
   exact absurd d (by rintro (h|h);exact l t e h;exact a2 t e h)
 ·rename_i q
  rcases R.D.ap i j s s' (by omega) f a with b|b
  ·exact b
  ·obtain ⟨l,a2,a3⟩:=NY b
   exact absurd d (by rintro (h|h);exact a3 t e h;exact a2 t h e)
structure Rdy (deps:List (List Nat)) (S:Nat->Bool) (i:Nat):Prop where
 cl: ∀j,S j=true-> ∀d∈deps.getD j [],S d=true
 no:S i=false
 pre: ∀d∈deps.getD i [],S d=true
theorem Rdy.side {S:Nat->Bool} {i j:Nat} (r:Rdy deps S i) (d:j≠i) (h:if j<i then j∈deps.getD i [] else i∈deps.getD j []):S j=decide (j<i):=by
 split at h
 ·rename_i a;rw [r.pre j h];simp [a]
 ·rename_i b
  cases e:S j with
  |false=>simp [b]
  |true=>c:=r.cl j e i h;rw [r.no] at this;cases this
section
variable {i:Nat} {s:cn} {rc:Rec} {S:Nat->Bool}
theorem Run.seeT (R:Run P C ow n ops steps deps base rs sts vs us) (a:steps[i]? =some s) (r:Rdy deps S i) {t:Nat} (c:t∈IA s\/mw steps i=some t):
 fat (mw steps) vs S steps.length (sts 0).get t=(sts i).get t:=by
 b hi:=dv a
 rw [R.getAt (i:=i) (by omega), <-a74 (N:=steps.length) (by omega)]
 refine xU (fun j d f=> ?_)
 by_cases e:j=i
 ·subst e;rw [r.no];simp
 ·exact r.side e (R.ordT a d e f c)
theorem Run.seeB (R:Run P C ow n ops steps deps base rs sts vs us) (c:steps[i]? =some s) (a:rs[i]? =some rc) (E:Ent C ow (sts i) (sts (i+1)) s i (base+i) rc (vs i) (us i)) (r:Rdy deps S i)
 {b:Nat} (f:b∈rc.fp\/b∈(us i).map (·.1)):hat us S steps.length (sts 0).heap b=(sts i).heap b:=by
 d hi:=dv c
 rw [R.heapAt (i:=i) (by omega), <-a6D (N:=steps.length) (by omega)]
 refine xO (fun j h k=> ?_)
 by_cases e:j=i
 ·subst e;rw [r.no];simp
 ·exact r.side e (R.ordB c a E h e k f)
theorem Run.setT (R:Run P C ow n ops steps deps base rs sts vs us) (d:steps[i]? =some s) (r:Rdy deps S i):
 fat (mw steps) vs (Br S i) steps.length (sts 0).get=fun t=>if s.dst=some t then vs i else fat (mw steps) vs S steps.length (sts 0).get t:=by
 b hi:=dv d
 b f:mw steps i=s.dst:=by simp [mw,d]
 funext t
 by_cases c:s.dst=some t
 ·rw [ae c]
  b e1:fat (mw steps) vs (Br S i) steps.length (sts 0).get t=fat (mw steps) vs (fun j=>decide (j<i+1)) steps.length (sts 0).get t:=by
    refine xU (fun j h a=> ?_)
    unfold Br
    by_cases e:j=i
    ·subst e;simp
    ·rw [aa e,r.side e (R.ordT d h e a (.inr (by rw [f];exact c)))]
     by_cases k:j<i
     ·simp [k];omega
     ·simp [k];omega
  rw [e1,a74 (by omega), <-R.getAt (by omega)]
  obtain ⟨rc,_,E⟩:=R.ent i s d
  rw [E.nx,St.put_get,ae c]
 ·rw [aa c]
  refine xU (fun j h a=> ?_)
  unfold Br
  by_cases e:j=i
  ·subst e;rw [f] at a;exact absurd a c
  ·rw [aa e]
theorem Run.setB (R:Run P C ow n ops steps deps base rs sts vs us) (h:steps[i]? =some s) (f:rs[i]? =some rc) (E:Ent C ow (sts i) (sts (i+1)) s i (base+i) rc (vs i) (us i)) (r:Rdy deps S i):
 hat us (Br S i) steps.length (sts 0).heap=fW (hat us S steps.length (sts 0).heap) (us i):=by
 c hi:=dv h
 funext b
 by_cases d:b∈(us i).map (·.1)
 ·c e1:hat us (Br S i) steps.length (sts 0).heap b=hat us (fun j=>decide (j<i+1)) steps.length (sts 0).heap b:=by
    refine xO (fun j k a=> ?_)
    unfold Br
    by_cases e:j=i
    ·subst e;simp
    ·rw [aa e,r.side e (R.ordB h f E k e a (.inr d))]
     by_cases l:j<i
     ·simp [l];omega
     ·simp [l];omega
  rw [e1,a6D (by omega), <-R.heapAt (by omega),E.nx,St.put_heap,St.upd_heap]
  exact Xt d
 ·rw [vp d]
  refine xO (fun j k a=> ?_)
  unfold Br
  by_cases e:j=i
  ·subst e;exact absurd a d
  ·rw [aa e]
end
end
section
variable {P:Program} {C:ce} {ow:ec} {n:Nat} {ops:Array Oper} {steps:List cn} {deps:List (List Nat)} {base:Nat} {rs:List Rec} {sts:Nat->St} {vs:Nat->V} {us:Nat->Upd}
theorem RQ [Frame] {ops:Array Oper} {o:Oper} {s:cn} (CS:c3b P n ops o s) {f:Nat->V} {μ:Mu} {h:b8} {w:World} {a:Act} (E:gi μ h w f a) {b:Bool} (i:O0 f s.guard=some b):
 Region.wanted o (yielded ops a.tmps)=b:=by
 cases k:s.guard with
 |none=>
  rw [k] at i
  exact My (st:=⟨[],[]⟩) CS (μ:=μ) (h:=fun _=>none) (w:=w) (a:=a) (fun t=>by show aY _ _ _ .undef _;exact .unk _) (by rw [k];exact i)
 |some p=>
  obtain ⟨t,c⟩:=p
  rw [k] at i
  cases d:f t with
  |lit y=>
   refine My (st:=⟨[(t,.lit y)],[]⟩) CS (μ:=μ) (h:=h) (w:=w) (a:=a) (fun t'=> ?_) ?_
   ·show aY μ h w ((dP [(t,V.lit y)] t').getD .undef) _
    simp only [dP]
    by_cases e:t=t'
    ·rw [ae e];j:=E t';rw [<-e,d] at this;rw [<-e];exact this
    ·rw [aa e];exact .unk _
   ·rw [k,Wz]
    j e1:St.get ⟨[(t,.lit y)],[]⟩ t= .lit y:=by show (dP [(t,V.lit y)] t).getD .undef=_;simp [dP]
    simp only [O0,e1]
    simp only [O0,d] at i
    exact i
  |_=>simp [O0,d] at i
theorem Run.one [Frame] (R:Run P C ow n ops steps deps base rs sts vs us) (hC:lN P C) {Q:Exit->Act->World->Prop} {μ0:Mu} {h0:b8} {w0:World} {S:Nat->Bool} {i:Nat} {o:Oper} (ho:ops[i]? =some o) (r:Rdy deps S i)
 {μ:Mu} {a:Act} {w:World} (I:Inv n (fat (mw steps) vs S steps.length (sts 0).get) (hat us S steps.length (sts 0).heap) μ a w) (Si:l8 μ0 h0 w0 μ (hat us S steps.length (sts 0).heap) w) {K:Act->World->Prop}
 (HK: ∀μ' a' w',Inv n (fat (mw steps) vs (Br S i) steps.length (sts 0).get) (hat us (Br S i) steps.length (sts 0).heap) μ' a' w'->l8 μ0 h0 w0 μ' (hat us (Br S i) steps.length (sts 0).heap) w'->K a' w'):
 wpOp P ops Q i K a w:=by
 obtain ⟨s,j,hcs⟩:=(xv R.cs).2 i o (by simpa using ho)
 h CS:=HG hcs
 obtain ⟨rc,l,E⟩:=R.ent i s j
 h hT:=R.setT j r
 h hB:=R.setB j l E r
 rw [hT,hB] at HK
 h seeG:O0 (fat (mw steps) vs S steps.length (sts 0).get) s.guard=O0 (sts i).get s.guard:=by
   cases hg:s.guard with
   |none=>rfl
   |some p=>
    obtain ⟨t,c⟩:=p
    simp only [O0]
    rw [R.seeT j r (.inl (by simp [IA,hg]))]
 unfold wpOp
 rw [ho]
 simp only
 rcases E.kind with ⟨q,hv,hu⟩|⟨q,u,m⟩
 ·rw [Wz, <-seeG] at q
  rw [RQ CS I.E q]
  simp only [bx,if_false]
  rw [hv,hu] at HK
  refine HK μ _ w ?_ Si
  rw [CS.dst]
  exact I.put_skip CS.lt (.lit _)
 ·rw [Wz, <-seeG] at q
  rw [RQ CS I.E q]
  simp only [if_true]
  h hev: ∀x∈s.op.opds,(sts i).ev x=Opd.ev (fat (mw steps) vs S steps.length (sts 0).get) x:=by
    intro x hx
    cases x with
    |t t=>
     show (sts i).get t=_
     h:t∈IA s:=by
      unfold IA
      exact List.mem_append_left _ (List.mem_filterMap.2 ⟨.t t,hx,rfl⟩)
     rw [<-R.seeT j r (.inl this)]
     rfl
    |c v=>rfl
    |f k=>rfl
  rw [a1J hev] at u
  h hle:Le (s3 (sts i).heap rc.fp) (hat us S steps.length (sts 0).heap):=by
    intro b k z
    unfold s3 at z
    split at z
    ·rename_i hb
     rw [R.seeB j l E r (.inl hb)]
     exact z
    ·cases z
  h y:=b4h hle u (fun b hm h0=>by
    rw [R.seeB j l E r (.inr hm)]
    rcases m b hm with hb|e
    ·unfold s3 at h0;rw [ae hb] at h0;exact h0
    ·exact e)
  refine .inl (Se hC I.H I.E CS.op y (fun x w' μ' H' C' V'=> ?_))
  refine HK μ' _ w' ?_ ⟨Si.C.trans C',Si.lo⟩
  h E':gi μ' _ w' _ a:=fun t=>(I.E t).chg C'
  h:=(Inv.mk H' E' I.sz I.df).put_skip (d:=o.dst) CS.lt V'
  rw [CS.dst]
  exact this
def yc (N:Nat) (listed:Array Bool):Nat:=(List.range N).countP (fun i=> !listed.getD i false)
theorem a8P {p q:Nat->Bool} {l:List Nat} {i:Nat} (hi:i∈l) (c:p i=true) (d:q i=false) (b: ∀j,q j=true->p j=true):l.countP q<l.countP p:=by
 induction l with
 |nil=>simp at hi
 |cons x r ih=>
  rw [nP,nP]
  a e:r.countP q<=r.countP p:=List.countP_mono_left (fun j _ f=>b j f)
  rcases b9.1 hi with rfl|hi
  ·rw [c,d];simp;omega
  ·a:=ih hi
   cases h:q x with
   |true=>rw [b x h];simp;omega
   |false=>simp;split<;>omega
theorem Run.any [Frame] (R:Run P C ow n ops steps deps base rs sts vs us) (hC:lN P C) {Q:Exit->Act->World->Prop} {μ0:Mu} {h0:b8} {w0:World}
 (K: ∀μ a w,Inv n (sts steps.length).get (sts steps.length).heap μ a w->l8 μ0 h0 w0 μ (sts steps.length).heap w->Q .normal a w): ∀(fuel:Nat) (listed:Array Bool) (a:Act) (w:World) (μ:Mu),listed.size=steps.length->
 yc steps.length listed<=fuel->(∀j,listed.getD j false=true-> ∀d∈deps.getD j [],listed.getD d false=true)->
 Inv n (fat (mw steps) vs (fun j=>listed.getD j false) steps.length (sts 0).get) (hat us (fun j=>listed.getD j false) steps.length (sts 0).heap) μ a w->
 l8 μ0 h0 w0 μ (hat us (fun j=>listed.getD j false) steps.length (sts 0).heap) w->wpAny P .any ops Q fuel listed a w:=by
 c hlen:steps.length=ops.size:=by rw [(xv R.cs).1,Array.length_toList]
 c getEq: ∀(listed:Array Bool) (j:Nat),j<listed.size->listed.getD j true=listed.getD j false:=by
   intro listed j f
   rw [Array.getD_eq_getD_getElem?,Array.getD_eq_getD_getElem?,aL f];rfl
 c stop: ∀(listed:Array Bool),listed.size=steps.length->Region.ready .any ops listed=[]-> ∀j,j<steps.length->listed.getD j false=true:=by
   intro listed h s j
   induction j using Nat.strongRecOn with
   |_ j ih=>
    intro f
    cases z:listed.getD j false with
    |true=>rfl
    |false=>
     obtain ⟨o,m⟩: ∃o,ops[j]? =some o:=⟨ops[j],aL (by omega)⟩
     c:j∈Region.ready .any ops listed:=mem_ready.2 ⟨by rw [getEq _ _ (by omega)];exact z,o,m,fun e he hb=>by
      c u:=R.D.back j o f (by simpa using m) e he hb
      exact ih e.on u (by omega)⟩
     rw [s] at this;cases this
 c fin: ∀(listed:Array Bool) (a:Act) (w:World) (μ:Mu),listed.size=steps.length->Region.ready .any ops listed=[]->
  Inv n (fat (mw steps) vs (fun j=>listed.getD j false) steps.length (sts 0).get) (hat us (fun j=>listed.getD j false) steps.length (sts 0).heap) μ a w->
  l8 μ0 h0 w0 μ (hat us (fun j=>listed.getD j false) steps.length (sts 0).heap) w->Q .normal a w:=by
   intro listed a w μ h s I Si
   c p:=stop listed h s
   c e1:fat (mw steps) vs (fun j=>listed.getD j false) steps.length (sts 0).get=(sts steps.length).get:=by
     rw [R.getAt (aw _)]
     funext t
     exact xU (fun j f _=>p j f)
   c e2:hat us (fun j=>listed.getD j false) steps.length (sts 0).heap=(sts steps.length).heap:=by
     rw [R.heapAt (aw _)]
     funext b
     exact xO (fun j f _=>p j f)
   rw [e1,e2] at I
   rw [e2] at Si
   exact K μ a w I Si
 intro fuel
 induction fuel with
 |zero=>
  intro listed a w μ h hf l I Si
  c k:Region.ready .any ops listed=[]:=by
    cases s:Region.ready .any ops listed with
    |nil=>rfl
    |cons x r=>
     exfalso
     c hx:x∈Region.ready .any ops listed:=by rw [s];simp
     obtain ⟨y,o,m,_⟩:=mem_ready.1 hx
     c u:x<ops.size:=(lr.1 m).1
     rw [getEq _ _ (by omega)] at y
     c:0<yc steps.length listed:=by
      unfold yc
      rw [List.countP_pos_iff]
      exact ⟨x,bU.2 (by omega),by rw [y];rfl⟩
     omega
  exact ⟨k,fin listed a w μ h k I Si⟩
 |succ fuel ih=>
  intro listed a w μ h hf l I Si
  refine ⟨fun s=>fin listed a w μ h s I Si,fun i hi=> ?_⟩
  obtain ⟨y,o,m,v⟩:=mem_ready.1 hi
  c u:i<ops.size:=(lr.1 m).1
  rw [getEq _ _ (by omega)] at y
  c q: ∀d∈deps.getD i [],listed.getD d false=true:=by
    intro d hd
    obtain ⟨e,he,hb,hor⟩:=R.D.edge i o (by omega) (by simpa using m) d hd
    c z:=v e he hb
    rcases hor with h2|h2
    ·rw [<-h2];exact z
    ·exact l e.on z d h2
  c bT:(fun j=>(listed.setIfInBounds i true).getD j false)=Br (fun j=>listed.getD j false) i:=by
    funext j
    unfold Br
    by_cases e:j=i
    ·subst e
     rw [ae rfl,Array.getD_eq_getD_getElem?]
     c:j<listed.size:=by omega
     simp [this]
    ·rw [aa e,getD_set_ne false (Ne.symm e)]
  refine R.one hC m ⟨l,y,q⟩ I Si (fun μ' a' w' I' Si'=> ?_)
  rw [<-bT] at I' Si'
  refine ih (listed.setIfInBounds i true) a' w' μ' (by simpa using h) ?_ ?_ I' Si'
  ·c:yc steps.length (listed.setIfInBounds i true)<yc steps.length listed:=by
    unfold yc
    refine a8P (i:=i) (bU.2 (by omega)) (by rw [y];rfl) ?_ (fun j f=> ?_)
    ·c e1:(listed.setIfInBounds i true).getD i false=Br (fun j=>listed.getD j false) i i:=congrFun bT i
     rw [e1];simp [Br]
    ·c e1:(listed.setIfInBounds i true).getD j false=Br (fun j=>listed.getD j false) i j:=congrFun bT j
     rw [e1] at f
     unfold Br at f
     split at f
     ·cases f
     ·exact f
   omega
  ·intro j f d hd
   c e1:(listed.setIfInBounds i true).getD j false=Br (fun j=>listed.getD j false) i j:=congrFun bT j
   c e2:(listed.setIfInBounds i true).getD d false=Br (fun j=>listed.getD j false) i d:=congrFun bT d
   rw [e1] at f
   rw [e2]
   unfold Br at f ⊢
   split
   ·rfl
   ·split at f
    ·rename_i e;subst e;exact q d hd
    ·exact l j f d hd
theorem a0o [Frame] (z:lN P C) {id:Nat} {live:List Nat} {Q:Exit->Act->World->Prop} {μ0:Mu} {h0:b8} {w0:World} {st st':St} {e:bR} {μ:Mu} {a:Act} {w:World} (hm:P.follows .mixedOrders=true)
 (r:jX P n ops ops.toList=some steps) (hd:Pf ops.toList steps deps=true) (d:B8 C ow base steps deps live st=some (e,st')) (I:Inv n st.get st.heap μ a w) (S:l8 μ0 h0 w0 μ st.heap w)
 (K: ∀μ' a' w',Inv n st'.get st'.heap μ' a' w'->l8 μ0 h0 w0 μ' st'.heap w'->Q .normal a' w'):e= .normal/\(Code.region id ops true).wp P Q a w:=by
 unfold B8 at d
 split at d
 ·rename_i st1 rs h1
  split at d
  ·rename_i m
   cases d
   obtain ⟨hl,sts,e0,e1,e2⟩:=O3 h1
   b o: ∀i, ∃vu:V×Upd, ∀s,steps[i]? =some s-> ∃rc,rs[i]? =some rc/\Ent C ow (sts i) (sts (i+1)) s i (base+i) rc vu.1 vu.2:=by
     intro i
     cases p:steps[i]? with
     |none=>exact ⟨(.undef,[]),fun s d=>by cases d⟩
     |some s=>
      obtain ⟨rc,g1,x⟩:=e2 i s p
      rw [cy] at x
      obtain ⟨v,u,E⟩:=a4a x
      exact ⟨(v,u),fun s' q=>by cases q;exact ⟨rc,g1,E⟩⟩
   obtain ⟨g,hg⟩:=Classical.axiomOfChoice o
   b R:Run P C ow n ops steps deps base rs sts (fun i=>(g i).1) (fun i=>(g i).2):=⟨r,WK hd,fun i s d=>hg i s d,m⟩
   refine ⟨rfl,wp_region_any hm ?_⟩
   b k:steps.length=ops.size:=by rw [(xv r).1,Array.length_toList]
   b l:yP w { w with drawn:=w.drawn+1 }:=⟨rfl,rfl,rfl,aw _,fun _ _=>rfl,mD _⟩
   b C1:=l.chg I.H
   b c:(fun j=>(Array.replicate ops.size false).getD j false)=fun _=>false:=by
     funext j
     rw [Array.getD_eq_getD_getElem?,Array.getElem?_replicate]
     split<;>rfl
   b ef:fat (mw steps) (fun i=>(g i).1) (fun _=>false) steps.length (sts 0).get=st.get:=by
     b:=SA (ds:=mw steps) (vs:=fun i=>(g i).1) (S:=fun _=>false) (f:=(sts 0).get) (i:=0) (fun _ _=>rfl) steps.length
     rw [cy] at this
     rw [this,e0];rfl
   b eh:hat (fun i=>(g i).2) (fun _=>false) steps.length (sts 0).heap=st.heap:=by
     b:=Tc (us:=fun i=>(g i).2) (S:=fun _=>false) (h:=(sts 0).heap) (i:=0) (fun _ _=>rfl) steps.length
     rw [cy] at this
     rw [this,e0];rfl
   refine R.any z (μ0:=μ0) (h0:=h0) (w0:=w0) (fun μ' a' w' I' S'=> ?_) ops.size (Array.replicate ops.size false) a _ μ (by simp [k]) ?_ (fun j y=> ?_) ?_ ?_
   ·rw [e1] at I' S'
    exact K μ' a' w' (I'.trim live) S'
   ·unfold yc
    exact e7 oX (by simp [k])
   ·b e3:(Array.replicate ops.size false).getD j false=false:=congrFun c j
    rw [e3] at y;cases y
   ·rw [c,ef,eh]
    exact ⟨I.H.grown l,fun t=>(I.E t).chg C1,I.sz,I.df⟩
   ·rw [c,eh]
    exact ⟨S.C.trans C1,S.lo⟩
  ·cases d
 ·cases d
end
end
end Go.AI
