/- Regions whose order is drawn: each order that the edges allow comes to what the order of the text comes to. -/
import Derived.Test.YtdnkignjanfikaaGreatAiGhost
import Derived.Test.YtdnkignjanfikaaGreatAiMono
set_option linter.unusedVariables false
set_option linter.unusedSimpArgs false
namespace Go.AI
section
theorem Il {ev ev':Opd->V}: ∀{ps:List (Nat×Nat×Opd)},(∀x∈ps.map (·.2.2),ev x=ev' x)->iE ev ps=iE ev' ps
 |[],_=>rfl
 | (a,b,x)::r,h=>by
   simp only [iE]
   rw [h x (by simp),Il (fun y hy=>h y (by simp at hy ⊢;exact .inr hy))]
theorem EQ {hp:aZ} {ev ev':Opd->V}: ∀{ps:List (Nat×Opd)},(∀x∈ps.map (·.2),ev x=ev' x)->eD hp ev ps=eD hp ev' ps
 |[],_=>rfl
 | (a,x)::r,h=>by
   simp only [eD]
   rw [h x (by simp),EQ (fun y hy=>h y (by simp at hy ⊢;exact .inr hy))]
theorem Dc {ev ev':Opd->V} {o:Option Opd} (h: ∀x∈Mq o,ev x=ev' x):o.map ev=o.map ev':=by
 cases o with
 |none=>rfl
 |some x=>simp [h x (by simp [Mq])]
theorem a2Y {C:cg} {ow:FuncId->List Nat} {o:AOp} {ev ev':Opd->V} {hp:aZ} {n:Nat} (h: ∀x∈o.opds,ev x=ev' x):aN C ow o ev hp n=aN C ow o ev' hp n:=by
 cases o<;>simp only [AOp.opds,bc,aW,List.not_mem_nil,or_false,forall_eq_or_imp,forall_eq] at h<;>simp only [aN]
 case build z ps=>rw [Il (fun x hx=>h x hx)]
 case buildSlice e z l ps=>rw [EQ (fun x hx=>h x hx)]
 case makeFunc f cs=>rw [cC (fun x hx=>h x hx)]
 case call f cs=>rw [cC (fun x hx=>h x hx)]
 case dyn f cs=>rw [h.1,cC (fun x hx=>h.2 x hx)]
 case sliceStr x lo hi=>rw [h.1,Dc (fun x hx=>h.2 x (.inl hx)),Dc (o:=hi) (fun x hx=>h.2 x (.inr hx))]
 case slice e x lo hi mx=>rw [h.1,Dc (fun x hx=>h.2 x (.inl hx)),Dc (o:=hi) (fun x hx=>h.2 x (.inr (.inl hx)))]
 all_goals first
  | (rw [h];done)
  | (rw [h.1,h.2];done)
  | (rw [h.1,h.2.1,h.2.2];done)
  |rfl
def OU (f:Nat->V):Option (Nat×Bool)->Option Bool
 |none=>some true
 |some (t,b)=>match f t with
  | .lit (.bool c)=>some (c==b)
  | .lit (.tuple _)=>some false
  |_=>none
theorem a1i (st:St) (g:Option (Nat×Bool)):st.want g=OU st.get g:=by cases g<;>rfl
theorem vH: ∀{u:Upd} {h:aZ} {b:Nat},b∉u.map (·.1)->fX h u b=h b
 |[],h,b,_=>rfl
 | (i,k)::r,h,b,hb=>by
   simp only [aS,bc,not_or] at hb
   show fX (bV h i k) r b=h b
   rw [vH hb.2]
   simp [bV,hb.1]
theorem ZG: ∀{u:Upd} {h h':aZ} {b:Nat},b∈u.map (·.1)->fX h u b=fX h' u b
 |[],h,h',b,hb=>by simp at hb
 | (i,k)::r,h,h',b,hb=>by
   show fX (bV h i k) r b=fX (bV h' i k) r b
   by_cases hr:b∈r.map (·.1)
   ·exact ZG hr
   ·rw [vH hr,vH hr]
    simp only [aS,bc] at hb
    have:b=i:=hb.resolve_right hr
    simp [bV,this]
def hat (us:Nat->Upd) (S:Nat->Bool):Nat->aZ->aZ
 |0,h=>h
 |k+1,h=>if S k=true then fX (hat us S k h) (us k) else hat us S k h
def fat (ds:Nat->Option Nat) (vs:Nat->V) (S:Nat->Bool):Nat->(Nat->V)->Nat->V
 |0,f=>f
 |k+1,f=>if S k=true then (fun t=>if ds k=some t then vs k else fat ds vs S k f t) else fat ds vs S k f
theorem yd {us:Nat->Upd} {S S':Nat->Bool} {h:aZ} {b:Nat}: ∀{k:Nat},(∀j,j<k->b∈(us j).map (·.1)->S j=S' j)->hat us S k h b=hat us S' k h b
 |0,_=>rfl
 |k+1,H=>by
  have ih:=yd (k:=k) (us:=us) (S:=S) (S':=S') (h:=h) (b:=b) (fun j hj hb=>H j (by omega) hb)
  simp only [hat]
  by_cases hb:b∈(us k).map (·.1)
  ·rw [H k (by omega) hb]
   split
   ·exact ZG hb
   ·exact ih
  ·split<;>split
   ·rw [vH hb,vH hb];exact ih
   ·rw [vH hb];exact ih
   ·rw [vH hb];exact ih
   ·exact ih
theorem yo {ds:Nat->Option Nat} {vs:Nat->V} {S S':Nat->Bool} {f:Nat->V} {t:Nat}: ∀{k:Nat},(∀j,j<k->ds j=some t->S j=S' j)->fat ds vs S k f t=fat ds vs S' k f t
 |0,_=>rfl
 |k+1,H=>by
  have ih:=yo (k:=k) (ds:=ds) (vs:=vs) (S:=S) (S':=S') (f:=f) (t:=t) (fun j hj hb=>H j (by omega) hb)
  simp only [fat]
  by_cases hb:ds k=some t
  ·rw [H k (by omega) hb]
   split
   ·simp [hb]
   ·exact ih
  ·split<;>split
   ·simp only [hb,if_false];exact ih
   ·simp only [hb,if_false];exact ih
   ·simp only [hb,if_false];exact ih
   ·exact ih
theorem Un {us:Nat->Upd} {S:Nat->Bool} {h:aZ} {i:Nat} (H: ∀j,i<=j->S j=false): ∀d,hat us S (i+d) h=hat us S i h
 |0=>rfl
 |d+1=>by
  show (if S (i+d)=true then _ else hat us S (i+d) h)=_
  rw [H (i+d) (by omega)]
  exact Un H d
theorem QQ {ds:Nat->Option Nat} {vs:Nat->V} {S:Nat->Bool} {f:Nat->V} {i:Nat} (H: ∀j,i<=j->S j=false): ∀d,fat ds vs S (i+d) f=fat ds vs S i f
 |0=>rfl
 |d+1=>by
  show (if S (i+d)=true then _ else fat ds vs S (i+d) f)=_
  rw [H (i+d) (by omega)]
  exact QQ H d
theorem a8P {us:Nat->Upd} {h:aZ} {i N:Nat} (hi:i<=N) (b:Nat):hat us (fun j=>decide (j<i)) N h b=hat us (fun _=>true) i h b:=by
 obtain ⟨d,rfl⟩: ∃d,N=i+d:=⟨N-i,by omega⟩
 rw [Un (fun j hj=>by simp;omega)]
 exact yd (fun j hj _=>by simp [hj])
theorem a8I {ds:Nat->Option Nat} {vs f:Nat->V} {i N:Nat} (hi:i<=N) (t:Nat):fat ds vs (fun j=>decide (j<i)) N f t=fat ds vs (fun _=>true) i f t:=by
 obtain ⟨d,rfl⟩: ∃d,N=i+d:=⟨N-i,by omega⟩
 rw [QQ (fun j hj=>by simp;omega)]
 exact yo (fun j hj _=>by simp [hj])
theorem OS {C:cg} {ow:en} {base:Nat}: ∀{steps:List cm} {i:Nat} {st st':St} {rs:List Rec},jC C ow base steps i st=some (st',rs)->
 rs.length=steps.length/\ ∃sts:Nat->St,sts 0=st/\sts steps.length=st'/\ ∀(j:Nat) (s:cm),steps[j]? =some s-> ∃rc,rs[j]? =some rc/\yO C ow (sts j) s (i+j) (base+(i+j))=some (sts (j+1),rc)
 |[],i,st,st',rs,h=>by
  simp [jC] at h
  obtain ⟨rfl,rfl⟩:=h
  exact ⟨rfl,fun _=>st,rfl,rfl,fun j s hs=>by simp at hs⟩
 |s::r,i,st,st',rs,h=>by
  simp only [jC] at h
  cases h1:yO C ow st s i (base+i) with
  |none=>rw [h1] at h;cases h
  |some p=>
   obtain ⟨st1,rc⟩:=p
   rw [h1] at h
   dsimp only at h
   cases h2:jC C ow base r (i+1) st1 with
   |none=>rw [h2] at h;cases h
   |some q=>
    obtain ⟨st2,rs'⟩:=q
    rw [h2] at h
    cases h
    obtain ⟨l1,sts,e0,e1,e2⟩:=OS h2
    refine ⟨by simp [l1],fun j=>match j with
     |0=>st
     |j+1=>sts j,rfl,by simpa using e1,fun j s' hs'=> ?_⟩
    cases j with
    |zero=>
     simp at hs'
     subst hs'
     refine ⟨rc,rfl, ?_⟩
     simp only [cQ,cI,e0]
     exact h1
    |succ j=>
     obtain ⟨rc',g1,g2⟩:=e2 j s' (by simpa using hs')
     refine ⟨rc',by simpa using g1, ?_⟩
     rw [show i+(j+1)=i+1+j by omega]
     exact g2
structure Ent (C:cg) (ow:en) (st st':St) (s:cm) (i n:Nat) (rc:Rec) (v:V) (u:Upd):Prop where
 nx:st'=(st.upd u).put s.dst v
 ri:rc.i=i
 wr:rc.wr=u.map (·.1)
 kind:(st.want s.guard=some false/\v= .lit (.tuple #[])/\u=[])\/
  (st.want s.guard=some true/\aN C ow s.op st.ev (sM st.heap rc.fp) n=some (v,u)/\ ∀b∈u.map (·.1),b∈rc.fp\/st.heap b=none)
theorem a6u {C:cg} {ow:en} {st st':St} {s:cm} {i n:Nat} {rc:Rec} (h:yO C ow st s i n=some (st',rc)): ∃v u,Ent C ow st st' s i n rc v u:=by
 unfold yO at h
 cases hw:st.want s.guard with
 |none=>rw [hw] at h;cases h
 |some b=>
  rw [hw] at h
  cases b with
  |false=>
   cases h
   exact ⟨.lit (.tuple #[]),[],rfl,rfl,rfl,.inl ⟨hw,rfl,rfl⟩⟩
  |true=>
   dsimp only at h
   split at h
   ·rename_i v u hop
    split at h
    ·rename_i hc
     cases h
     simp only [aB,da,aG,Option.isNone_iff_eq_none] at hc
     exact ⟨v,u,rfl,rfl,rfl,.inr ⟨hw,hop,hc⟩⟩
    ·cases h
   ·cases h
def a61 (deps:List (List Nat)) (p q:Rec):Prop:=(p.wr.isEmpty&&q.wr.isEmpty||(deps.getD q.i []).contains p.i|| !XL p q)=true
theorem NT {deps:List (List Nat)} {p:Rec}: ∀{l:List Rec},GE deps p l=true-> ∀q∈l,a61 deps p q
 |[],_,q,hq=>by simp at hq
 |x::r,h,q,hq=>by
  simp only [GE,aC] at h
  rcases bc.1 hq with rfl|hq
  ·exact h.1
  ·exact NT h.2 q hq
theorem KJ {deps:List (List Nat)}: ∀{l:List Rec},qM deps l=true->l.Pairwise (a61 deps)
 |[],_=>List.Pairwise.nil
 |x::r,h=>by
  simp only [qM,aC] at h
  exact List.Pairwise.cons (fun q hq=>NT h.1 q hq) (KJ h.2)
theorem a4d {deps:List (List Nat)} {rs:List Rec} (h:qM deps (rs.filter Rec.loud)=true) {i j:Nat} {p q:Rec} (hij:i<j) (hp:rs[i]? =some p) (hq:rs[j]? =some q) (hc:XL p q=true):
 p.i∈deps.getD q.i []:=by
 have h1:=KJ h
 rw [List.pairwise_filter,mb] at h1
 have hi:=dw hp
 have hj:=dw hq
 have h2:=h1 i j hi hj hij
 rw [aq hi] at hp
 rw [aq hj] at hq
 cases hp;cases hq
 have hcl:=hc
 simp only [XL,da,ix] at hcl
 have lp:Rec.loud rs[i]=true:=by
  unfold Rec.loud
  rcases hcl with ⟨b,hb,_⟩|⟨b,hb,hb2⟩
  ·cases hw:(rs[i]).wr with
   |nil=>rw [hw] at hb;cases hb
   |cons x y=>simp
  ·cases hw:(rs[i]).fp with
   |nil=>rw [hw] at hb2;simp at hb2
   |cons x y=>simp
 have lq:Rec.loud rs[j]=true:=by
  unfold Rec.loud
  rcases hcl with ⟨b,hb,hb2⟩|⟨b,hb,hb2⟩
  ·rcases hb2 with hb2|hb2
   ·cases hw:(rs[j]).fp with
    |nil=>rw [hw] at hb2;simp at hb2
    |cons x y=>simp
   ·cases hw:(rs[j]).wr with
    |nil=>rw [hw] at hb2;simp at hb2
    |cons x y=>simp
  ·cases hw:(rs[j]).wr with
   |nil=>rw [hw] at hb;cases hb
   |cons x y=>simp
 have h3:=h2 lp lq
 unfold a61 at h3
 rw [hc] at h3
 simp only [aH,Bool.or_false,da,aC,List.contains_eq_mem,aG] at h3
 rcases h3 with ⟨e1,e2⟩|h3
 ·exfalso
  rw [List.isEmpty_iff] at e1 e2
  rw [e1,e2] at hcl
  simp at hcl
 ·exact h3
structure c0o (ops:List Oper) (steps:List cm) (deps:List (List Nat)):Prop where
 back: ∀(j:Nat) (o:Oper),j<steps.length->ops[j]? =some o-> ∀e∈o.after,Region.binds .any e=true->e.on<j
 lt: ∀(j:Nat),j<steps.length-> ∀d∈deps.getD j [],d<j
 edge: ∀(j:Nat) (o:Oper),j<steps.length->ops[j]? =some o-> ∀d∈deps.getD j [], ∃e∈o.after,Region.binds .any e=true/\(e.on=d\/d∈deps.getD e.on [])
 ap: ∀(i j:Nat) (x y:cm),i<j->steps[i]? =some x->steps[j]? =some y->i∈deps.getD j []\/a01 x y=true
theorem Yt {ops:List Oper} {steps:List cm} {deps:List (List Nat)} (h:Qc ops steps deps=true):c0o ops steps deps:=by
 unfold Qc at h
 rw [aB] at h
 have H:=fun j (hj:j<steps.length)=>h j (bX.2 hj)
 simp only [aC] at H
 refine ⟨fun j o hj ho e he hb=> ?_,fun j hj d hd=> ?_,fun j o hj ho d hd=> ?_,fun i j x y hij hx hy=> ?_⟩
 ·have:=(H j hj).1.1
  rw [ho] at this
  simp only [ej,du,aB] at this
  have:=this e (Array.mem_toList_iff.2 he)
  rw [hb] at this
  simp only [aH,Bool.false_or,aC,aG] at this
  exact this.1.1
 ·have:=(H j hj).1.2
  rw [aB] at this
  have:=this d hd
  simp only [aC,aG] at this
  exact this.1
 ·have:=(H j hj).1.2
  rw [aB] at this
  have:=this d hd
  rw [ho] at this
  simp only [aC,aG,ej,du,ix,da,beq_iff_eq,List.contains_eq_mem] at this
  obtain ⟨_,e,he,hb,hor⟩:=this
  exact ⟨e,Array.mem_toList_iff.1 he,hb,hor⟩
 ·have:=(H j (dw hy)).2
  rw [aB] at this
  have:=this i (bX.2 hij)
  rw [hx,hy] at this
  simpa using this
theorem Ol {x y:cm} (h:a01 x y=true):(∀d,x.dst=some d->d∉II y)/\(∀d,x.dst=some d->y.dst≠some d)/\(∀d,y.dst=some d->d∉II x):=by
 refine ⟨fun d hd=> ?_,fun d hd=> ?_,fun d hd=> ?_⟩<;>simp [a01,hd] at h
 ·exact h.1.1
 ·exact h.1.2
 ·exact h.2
theorem xv {P:Program} {n:Nat} {ops:Array Oper}: ∀{l:List Oper} {steps:List cm},km P n ops l=some steps->steps.length=l.length/\ ∀(i:Nat) (o:Oper),l[i]? =some o-> ∃s,steps[i]? =some s/\L5 P n ops o=some s
 |[],steps,h=>by simp [km] at h;subst h;exact ⟨rfl,fun i o ho=>by simp at ho⟩
 |o::l,steps,h=>by
  simp only [km] at h
  split at h
  ·rename_i s r h1 h2
   cases h
   obtain ⟨a1,a2⟩:=xv h2
   refine ⟨by simp [a1],fun i o' ho=> ?_⟩
   cases i with
   |zero=>simp at ho;subst ho;exact ⟨s,rfl,h1⟩
   |succ i=>simpa using a2 i o' (by simpa using ho)
  ·cases h
end
section
structure Run (P:Program) (C:cg) (ow:en) (n:Nat) (ops:Array Oper) (steps:List cm) (deps:List (List Nat)) (base:Nat) (rs:List Rec) (sts:Nat->St) (vs:Nat->V) (us:Nat->Upd):Prop where
 cs:km P n ops ops.toList=some steps
 D:c0o ops.toList steps deps
 ent: ∀(i:Nat) (s:cm),steps[i]? =some s-> ∃rc,rs[i]? =some rc/\Ent C ow (sts i) (sts (i+1)) s i (base+i) rc (vs i) (us i)
 po:qM deps (rs.filter Rec.loud)=true
def mY (steps:List cm) (i:Nat):Option Nat:=(steps[i]?).bind (·.dst)
def CM (S:Nat->Bool) (i:Nat):Nat->Bool:=fun j=>if j=i then true else S j
section
variable {P:Program} {C:cg} {ow:en} {n:Nat} {ops:Array Oper} {steps:List cm} {deps:List (List Nat)} {base:Nat} {rs:List Rec} {sts:Nat->St} {vs:Nat->V} {us:Nat->Upd}
theorem Run.heapAt (R:Run P C ow n ops steps deps base rs sts vs us): ∀{i:Nat},i<=steps.length->(sts i).heap=hat us (fun _=>true) i (sts 0).heap
 |0,_=>rfl
 |i+1,h=>by
  obtain ⟨s,hs⟩:=ey (l:=steps) (i:=i) (by omega)
  obtain ⟨rc,_,E⟩:=R.ent i s hs
  rw [E.nx,St.put_heap,St.upd_heap,R.heapAt (by omega)]
  rfl
theorem Run.getAt (R:Run P C ow n ops steps deps base rs sts vs us): ∀{i:Nat},i<=steps.length->(sts i).get=fat (mY steps) vs (fun _=>true) i (sts 0).get
 |0,_=>rfl
 |i+1,h=>by
  obtain ⟨s,hs⟩:=ey (l:=steps) (i:=i) (by omega)
  obtain ⟨rc,_,E⟩:=R.ent i s hs
  funext t
  rw [E.nx,St.put_get,St.upd_get,R.getAt (by omega)]
  show _=(if mY steps i=some t then vs i else _)
  have:mY steps i=s.dst:=by simp [mY,hs]
  rw [this]
theorem Run.ordB (R:Run P C ow n ops steps deps base rs sts vs us) {i j:Nat} {s:cm} {rc:Rec} (hs:steps[i]? =some s) (hrc:rs[i]? =some rc) (E:Ent C ow (sts i) (sts (i+1)) s i (base+i) rc (vs i) (us i))
 (hj:j<steps.length) (hne:j≠i) {b:Nat} (hb:b∈(us j).map (·.1)) (hi:b∈rc.fp\/b∈(us i).map (·.1)):if j<i then j∈deps.getD i [] else i∈deps.getD j []:=by
 obtain ⟨s',hs'⟩:=ey hj
 obtain ⟨rc',hrc',E'⟩:=R.ent j s' hs'
 rw [<-E.wr] at hi
 rw [<-E'.wr] at hb
 split
 ·rename_i hlt
  have:=a4d R.po hlt hrc' hrc (by
   simp only [XL,da,ix]
   left
   exact ⟨b,hb,by simpa using hi⟩)
  rwa [E.ri,E'.ri] at this
 ·rename_i hge
  have:=a4d R.po (show i<j by omega) hrc hrc' (by
   simp only [XL,da,ix]
   rcases hi with hi|hi
   ·right;exact ⟨b,hb,by simpa using hi⟩
   ·left;exact ⟨b,hi,by simp [hb]⟩)
  rwa [E.ri,E'.ri] at this
theorem Run.ordT (R:Run P C ow n ops steps deps base rs sts vs us) {i j:Nat} {s:cm} (hs:steps[i]? =some s) (hj:j<steps.length) (hne:j≠i) {t:Nat} (ht:mY steps j=some t)
 (hi:t∈II s\/mY steps i=some t):if j<i then j∈deps.getD i [] else i∈deps.getD j []:=by
 obtain ⟨s',hs'⟩:=ey hj
 have hd:s'.dst=some t:=by simpa [mY,hs'] using ht
 have hi':t∈II s\/s.dst=some t:=by simpa [mY,hs] using hi
 split
 ·rename_i hlt
  rcases R.D.ap j i s' s hlt hs' hs with h1|h1
  ·exact h1
  ·obtain ⟨a1,a2,a3⟩:=Ol h1
   exact absurd hi' (by rintro (h|h);exact a1 t hd h;exact a2 t hd h)
 ·rename_i hge
  rcases R.D.ap i j s s' (by omega) hs hs' with h1|h1
  ·exact h1
  ·obtain ⟨a1,a2,a3⟩:=Ol h1
   exact absurd hi' (by rintro (h|h);exact a3 t hd h;exact a2 t h hd)
structure Rdy (deps:List (List Nat)) (S:Nat->Bool) (i:Nat):Prop where
 cl: ∀j,S j=true-> ∀d∈deps.getD j [],S d=true
 no:S i=false
 pre: ∀d∈deps.getD i [],S d=true
theorem Rdy.side {S:Nat->Bool} {i j:Nat} (r:Rdy deps S i) (hne:j≠i) (h:if j<i then j∈deps.getD i [] else i∈deps.getD j []):S j=decide (j<i):=by
 split at h
 ·rename_i hlt;rw [r.pre j h];simp [hlt]
 ·rename_i hge
  cases hS:S j with
  |false=>simp [hge]
  |true=>have:=r.cl j hS i h;rw [r.no] at this;cases this
section
variable {i:Nat} {s:cm} {rc:Rec} {S:Nat->Bool}
theorem Run.seeT (R:Run P C ow n ops steps deps base rs sts vs us) (hs:steps[i]? =some s) (r:Rdy deps S i) {t:Nat} (ht:t∈II s\/mY steps i=some t):
 fat (mY steps) vs S steps.length (sts 0).get t=(sts i).get t:=by
 have hi:=dw hs
 rw [R.getAt (i:=i) (by omega), <-a8I (N:=steps.length) (by omega)]
 refine yo (fun j hj hd=> ?_)
 by_cases e:j=i
 ·subst e;rw [r.no];simp
 ·exact r.side e (R.ordT hs hj e hd ht)
theorem Run.seeB (R:Run P C ow n ops steps deps base rs sts vs us) (hs:steps[i]? =some s) (hrc:rs[i]? =some rc) (E:Ent C ow (sts i) (sts (i+1)) s i (base+i) rc (vs i) (us i)) (r:Rdy deps S i)
 {b:Nat} (hb:b∈rc.fp\/b∈(us i).map (·.1)):hat us S steps.length (sts 0).heap b=(sts i).heap b:=by
 have hi:=dw hs
 rw [R.heapAt (i:=i) (by omega), <-a8P (N:=steps.length) (by omega)]
 refine yd (fun j hj hd=> ?_)
 by_cases e:j=i
 ·subst e;rw [r.no];simp
 ·exact r.side e (R.ordB hs hrc E hj e hd hb)
theorem Run.setT (R:Run P C ow n ops steps deps base rs sts vs us) (hs:steps[i]? =some s) (r:Rdy deps S i):
 fat (mY steps) vs (CM S i) steps.length (sts 0).get=fun t=>if s.dst=some t then vs i else fat (mY steps) vs S steps.length (sts 0).get t:=by
 have hi:=dw hs
 have hd:mY steps i=s.dst:=by simp [mY,hs]
 funext t
 by_cases ht:s.dst=some t
 ·rw [ae ht]
  have e1:fat (mY steps) vs (CM S i) steps.length (sts 0).get t=fat (mY steps) vs (fun j=>decide (j<i+1)) steps.length (sts 0).get t:=by
   refine yo (fun j hj hdj=> ?_)
   unfold CM
   by_cases e:j=i
   ·subst e;simp
   ·rw [aa e,r.side e (R.ordT hs hj e hdj (.inr (by rw [hd];exact ht)))]
    by_cases h1:j<i
    ·simp [h1];omega
    ·simp [h1];omega
  rw [e1,a8I (by omega), <-R.getAt (by omega)]
  obtain ⟨rc,_,E⟩:=R.ent i s hs
  rw [E.nx,St.put_get,ae ht]
 ·rw [aa ht]
  refine yo (fun j hj hdj=> ?_)
  unfold CM
  by_cases e:j=i
  ·subst e;rw [hd] at hdj;exact absurd hdj ht
  ·rw [aa e]
theorem Run.setB (R:Run P C ow n ops steps deps base rs sts vs us) (hs:steps[i]? =some s) (hrc:rs[i]? =some rc) (E:Ent C ow (sts i) (sts (i+1)) s i (base+i) rc (vs i) (us i)) (r:Rdy deps S i):
 hat us (CM S i) steps.length (sts 0).heap=fX (hat us S steps.length (sts 0).heap) (us i):=by
 have hi:=dw hs
 funext b
 by_cases hb:b∈(us i).map (·.1)
 ·have e1:hat us (CM S i) steps.length (sts 0).heap b=hat us (fun j=>decide (j<i+1)) steps.length (sts 0).heap b:=by
   refine yd (fun j hj hdj=> ?_)
   unfold CM
   by_cases e:j=i
   ·subst e;simp
   ·rw [aa e,r.side e (R.ordB hs hrc E hj e hdj (.inr hb))]
    by_cases h1:j<i
    ·simp [h1];omega
    ·simp [h1];omega
  rw [e1,a8P (by omega), <-R.heapAt (by omega),E.nx,St.put_heap,St.upd_heap]
  exact ZG hb
 ·rw [vH hb]
  refine yd (fun j hj hdj=> ?_)
  unfold CM
  by_cases e:j=i
  ·subst e;exact absurd hdj hb
  ·rw [aa e]
end
end
section
variable {P:Program} {C:cg} {ow:en} {n:Nat} {ops:Array Oper} {steps:List cm} {deps:List (List Nat)} {base:Nat} {rs:List Rec} {sts:Nat->St} {vs:Nat->V} {us:Nat->Upd}
theorem U0 [Frame] {ops:Array Oper} {o:Oper} {s:cm} (CS:c1D P n ops o s) {f:Nat->V} {μ:Mu} {h:aZ} {w:World} {a:Act} (E:gj μ h w f a) {b:Bool} (hw:OU f s.guard=some b):
 Region.wanted o (yielded ops a.tmps)=b:=by
 cases hg:s.guard with
 |none=>
  rw [hg] at hw
  exact NC (st:=⟨[],[]⟩) CS (μ:=μ) (h:=fun _=>none) (w:=w) (a:=a) (fun t=>by show aX _ _ _ .undef _;exact .unk _) (by rw [hg];exact hw)
 |some p=>
  obtain ⟨t,c⟩:=p
  rw [hg] at hw
  cases hft:f t with
  |lit y=>
   refine NC (st:=⟨[(t,.lit y)],[]⟩) CS (μ:=μ) (h:=h) (w:=w) (a:=a) (fun t'=> ?_) ?_
   ·show aX μ h w ((dO [(t,V.lit y)] t').getD .undef) _
    simp only [dO]
    by_cases e:t=t'
    ·rw [ae e];have:=E t';rw [<-e,hft] at this;rw [<-e];exact this
    ·rw [aa e];exact .unk _
   ·rw [hg,a1i]
    have e1:St.get ⟨[(t,.lit y)],[]⟩ t= .lit y:=by show (dO [(t,V.lit y)] t).getD .undef=_;simp [dO]
    simp only [OU,e1]
    simp only [OU,hft] at hw
    exact hw
  |_=>simp [OU,hft] at hw
theorem Run.one [Frame] (R:Run P C ow n ops steps deps base rs sts vs us) (hC:ln P C) {Q:Exit->Act->World->Prop} {μ0:Mu} {h0:aZ} {w0:World} {S:Nat->Bool} {i:Nat} {o:Oper} (ho:ops[i]? =some o) (r:Rdy deps S i)
 {μ:Mu} {a:Act} {w:World} (I:Inv n (fat (mY steps) vs S steps.length (sts 0).get) (hat us S steps.length (sts 0).heap) μ a w) (Si:lr μ0 h0 w0 μ (hat us S steps.length (sts 0).heap) w) {K:Act->World->Prop}
 (HK: ∀μ' a' w',Inv n (fat (mY steps) vs (CM S i) steps.length (sts 0).get) (hat us (CM S i) steps.length (sts 0).heap) μ' a' w'->lr μ0 h0 w0 μ' (hat us (CM S i) steps.length (sts 0).heap) w'->K a' w'):
 wpOp P ops Q i K a w:=by
 obtain ⟨s,hs,hcs⟩:=(xv R.cs).2 i o (by simpa using ho)
 have CS:=Jx hcs
 obtain ⟨rc,hrc,E⟩:=R.ent i s hs
 have hT:=R.setT hs r
 have hB:=R.setB hs hrc E r
 rw [hT,hB] at HK
 have seeG:OU (fat (mY steps) vs S steps.length (sts 0).get) s.guard=OU (sts i).get s.guard:=by
  cases hg:s.guard with
  |none=>rfl
  |some p=>
   obtain ⟨t,c⟩:=p
   simp only [OU]
   rw [R.seeT hs r (.inl (by simp [II,hg]))]
 unfold wpOp
 rw [ho]
 simp only
 rcases E.kind with ⟨hw,hv,hu⟩|⟨hw,hop,hkeys⟩
 ·rw [a1i, <-seeG] at hw
  rw [U0 CS I.E hw]
  simp only [bA,if_false]
  rw [hv,hu] at HK
  refine HK μ _ w ?_ Si
  rw [CS.dst]
  exact I.put_skip CS.lt (.lit _)
 ·rw [a1i, <-seeG] at hw
  rw [U0 CS I.E hw]
  simp only [if_true]
  have hev: ∀x∈s.op.opds,(sts i).ev x=Opd.ev (fat (mY steps) vs S steps.length (sts 0).get) x:=by
   intro x hx
   cases x with
   |t t=>
    show (sts i).get t=_
    have:t∈II s:=by
     unfold II
     exact List.mem_append_left _ (List.mem_filterMap.2 ⟨.t t,hx,rfl⟩)
    rw [<-R.seeT hs r (.inl this)]
    rfl
   |c v=>rfl
   |f k=>rfl
  rw [a2Y hev] at hop
  have hle:Le (sM (sts i).heap rc.fp) (hat us S steps.length (sts 0).heap):=by
   intro b k hk
   unfold sM at hk
   split at hk
   ·rename_i hb
    rw [R.seeB hs hrc E r (.inl hb)]
    exact hk
   ·cases hk
  have hop2:=b4P hle hop (fun b hm h0=>by
   rw [R.seeB hs hrc E r (.inr hm)]
   rcases hkeys b hm with hb|e
   ·unfold sM at h0;rw [ae hb] at h0;exact h0
   ·exact e)
  refine .inl (T5 hC I.H I.E CS.op hop2 (fun x w' μ' H' C' V'=> ?_))
  refine HK μ' _ w' ?_ ⟨Si.C.trans C',Si.lo⟩
  have E':gj μ' _ w' _ a:=fun t=>(I.E t).chg C'
  have:=(Inv.mk H' E' I.sz I.df).put_skip (d:=o.dst) CS.lt V'
  rw [CS.dst]
  exact this
def zd (N:Nat) (listed:Array Bool):Nat:=(List.range N).countP (fun i=> !listed.getD i false)
theorem b1S {p q:Nat->Bool} {l:List Nat} {i:Nat} (hi:i∈l) (h1:p i=true) (h2:q i=false) (h3: ∀j,q j=true->p j=true):l.countP q<l.countP p:=by
 induction l with
 |nil=>simp at hi
 |cons x r ih=>
  rw [oz,oz]
  have hle:r.countP q<=r.countP p:=List.countP_mono_left (fun j _ hj=>h3 j hj)
  rcases bc.1 hi with rfl|hi
  ·rw [h1,h2];simp;omega
  ·have:=ih hi
   cases hq:q x with
   |true=>rw [h3 x hq];simp;omega
   |false=>simp;split<;>omega
theorem Run.any [Frame] (R:Run P C ow n ops steps deps base rs sts vs us) (hC:ln P C) {Q:Exit->Act->World->Prop} {μ0:Mu} {h0:aZ} {w0:World}
 (K: ∀μ a w,Inv n (sts steps.length).get (sts steps.length).heap μ a w->lr μ0 h0 w0 μ (sts steps.length).heap w->Q .normal a w): ∀(fuel:Nat) (listed:Array Bool) (a:Act) (w:World) (μ:Mu),listed.size=steps.length->
 zd steps.length listed<=fuel->(∀j,listed.getD j false=true-> ∀d∈deps.getD j [],listed.getD d false=true)->
 Inv n (fat (mY steps) vs (fun j=>listed.getD j false) steps.length (sts 0).get) (hat us (fun j=>listed.getD j false) steps.length (sts 0).heap) μ a w->
 lr μ0 h0 w0 μ (hat us (fun j=>listed.getD j false) steps.length (sts 0).heap) w->wpAny P .any ops Q fuel listed a w:=by
 have hlen:steps.length=ops.size:=by rw [(xv R.cs).1,Array.length_toList]
 have getEq: ∀(listed:Array Bool) (j:Nat),j<listed.size->listed.getD j true=listed.getD j false:=by
  intro listed j hj
  rw [Array.getD_eq_getD_getElem?,Array.getD_eq_getD_getElem?,aL hj];rfl
 have stop: ∀(listed:Array Bool),listed.size=steps.length->Region.ready .any ops listed=[]-> ∀j,j<steps.length->listed.getD j false=true:=by
  intro listed hsz hr j
  induction j using Nat.strongRecOn with
  |_ j ih=>
   intro hj
   cases hl:listed.getD j false with
   |true=>rfl
   |false=>
    obtain ⟨o,ho⟩: ∃o,ops[j]? =some o:=⟨ops[j],aL (by omega)⟩
    have:j∈Region.ready .any ops listed:=mem_ready.2 ⟨by rw [getEq _ _ (by omega)];exact hl,o,ho,fun e he hb=>by
     have hlt:=R.D.back j o hj (by simpa using ho) e he hb
     exact ih e.on hlt (by omega)⟩
    rw [hr] at this;cases this
 have fin: ∀(listed:Array Bool) (a:Act) (w:World) (μ:Mu),listed.size=steps.length->Region.ready .any ops listed=[]->
  Inv n (fat (mY steps) vs (fun j=>listed.getD j false) steps.length (sts 0).get) (hat us (fun j=>listed.getD j false) steps.length (sts 0).heap) μ a w->
  lr μ0 h0 w0 μ (hat us (fun j=>listed.getD j false) steps.length (sts 0).heap) w->Q .normal a w:=by
  intro listed a w μ hsz hr I Si
  have hall:=stop listed hsz hr
  have e1:fat (mY steps) vs (fun j=>listed.getD j false) steps.length (sts 0).get=(sts steps.length).get:=by
   rw [R.getAt (aw _)]
   funext t
   exact yo (fun j hj _=>hall j hj)
  have e2:hat us (fun j=>listed.getD j false) steps.length (sts 0).heap=(sts steps.length).heap:=by
   rw [R.heapAt (aw _)]
   funext b
   exact yd (fun j hj _=>hall j hj)
  rw [e1,e2] at I
  rw [e2] at Si
  exact K μ a w I Si
 intro fuel
 induction fuel with
 |zero=>
  intro listed a w μ hsz hf hcl I Si
  have hnone:Region.ready .any ops listed=[]:=by
   cases hr:Region.ready .any ops listed with
   |nil=>rfl
   |cons x r=>
    exfalso
    have hx:x∈Region.ready .any ops listed:=by rw [hr];simp
    obtain ⟨h1,o,ho,_⟩:=mem_ready.1 hx
    have hlt:x<ops.size:=(lH.1 ho).1
    rw [getEq _ _ (by omega)] at h1
    have:0<zd steps.length listed:=by
     unfold zd
     rw [List.countP_pos_iff]
     exact ⟨x,bX.2 (by omega),by rw [h1];rfl⟩
    omega
  exact ⟨hnone,fin listed a w μ hsz hnone I Si⟩
 |succ fuel ih=>
  intro listed a w μ hsz hf hcl I Si
  refine ⟨fun hr=>fin listed a w μ hsz hr I Si,fun i hi=> ?_⟩
  obtain ⟨h1,o,ho,hedge⟩:=mem_ready.1 hi
  have hlt:i<ops.size:=(lH.1 ho).1
  rw [getEq _ _ (by omega)] at h1
  have hpre: ∀d∈deps.getD i [],listed.getD d false=true:=by
   intro d hd
   obtain ⟨e,he,hb,hor⟩:=R.D.edge i o (by omega) (by simpa using ho) d hd
   have hl:=hedge e he hb
   rcases hor with h2|h2
   ·rw [<-h2];exact hl
   ·exact hcl e.on hl d h2
  have bV:(fun j=>(listed.setIfInBounds i true).getD j false)=CM (fun j=>listed.getD j false) i:=by
   funext j
   unfold CM
   by_cases e:j=i
   ·subst e
    rw [ae rfl,Array.getD_eq_getD_getElem?]
    have:j<listed.size:=by omega
    simp [this]
   ·rw [aa e,getD_set_ne false (Ne.symm e)]
  refine R.one hC ho ⟨hcl,h1,hpre⟩ I Si (fun μ' a' w' I' Si'=> ?_)
  rw [<-bV] at I' Si'
  refine ih (listed.setIfInBounds i true) a' w' μ' (by simpa using hsz) ?_ ?_ I' Si'
  ·have:zd steps.length (listed.setIfInBounds i true)<zd steps.length listed:=by
    unfold zd
    refine b1S (i:=i) (bX.2 (by omega)) (by rw [h1];rfl) ?_ (fun j hj=> ?_)
    ·have e1:(listed.setIfInBounds i true).getD i false=CM (fun j=>listed.getD j false) i i:=congrFun bV i
     rw [e1];simp [CM]
    ·have e1:(listed.setIfInBounds i true).getD j false=CM (fun j=>listed.getD j false) i j:=congrFun bV j
     rw [e1] at hj
     unfold CM at hj
     split at hj
     ·cases hj
     ·exact hj
   omega
  ·intro j hj d hd
   have e1:(listed.setIfInBounds i true).getD j false=CM (fun j=>listed.getD j false) i j:=congrFun bV j
   have e2:(listed.setIfInBounds i true).getD d false=CM (fun j=>listed.getD j false) i d:=congrFun bV d
   rw [e1] at hj
   rw [e2]
   unfold CM at hj ⊢
   split
   ·rfl
   ·split at hj
    ·rename_i e;subst e;exact hpre d hd
    ·exact hcl j hj d hd
theorem a1P [Frame] (hC:ln P C) {id:Nat} {live:List Nat} {Q:Exit->Act->World->Prop} {μ0:Mu} {h0:aZ} {w0:World} {st st':St} {e:bT} {μ:Mu} {a:Act} {w:World} (hm:P.follows .mixedOrders=true)
 (hc:km P n ops ops.toList=some steps) (hd:Qc ops.toList steps deps=true) (hs:Bi C ow base steps deps live st=some (e,st')) (I:Inv n st.get st.heap μ a w) (S:lr μ0 h0 w0 μ st.heap w)
 (K: ∀μ' a' w',Inv n st'.get st'.heap μ' a' w'->lr μ0 h0 w0 μ' st'.heap w'->Q .normal a' w'):e= .normal/\(Code.region id ops true).wp P Q a w:=by
 unfold Bi at hs
 split at hs
 ·rename_i st1 rs h1
  split at hs
  ·rename_i hpo
   cases hs
   obtain ⟨hl,sts,e0,e1,e2⟩:=OS h1
   have hch: ∀i, ∃vu:V×Upd, ∀s,steps[i]? =some s-> ∃rc,rs[i]? =some rc/\Ent C ow (sts i) (sts (i+1)) s i (base+i) rc vu.1 vu.2:=by
    intro i
    cases hsi:steps[i]? with
    |none=>exact ⟨(.undef,[]),fun s hs=>by cases hs⟩
    |some s=>
     obtain ⟨rc,g1,g2⟩:=e2 i s hsi
     rw [cI] at g2
     obtain ⟨v,u,E⟩:=a6u g2
     exact ⟨(v,u),fun s' hs'=>by cases hs';exact ⟨rc,g1,E⟩⟩
   obtain ⟨g,hg⟩:=Classical.axiomOfChoice hch
   have R:Run P C ow n ops steps deps base rs sts (fun i=>(g i).1) (fun i=>(g i).2):=⟨hc,Yt hd,fun i s hs=>hg i s hs,hpo⟩
   refine ⟨rfl,wp_region_any hm ?_⟩
   have hlen:steps.length=ops.size:=by rw [(xv hc).1,Array.length_toList]
   have hgr:yD w { w with drawn:=w.drawn+1 }:=⟨rfl,rfl,rfl,aw _,fun _ _=>rfl,mS _⟩
   have C1:=hgr.chg I.H
   have hrep:(fun j=>(Array.replicate ops.size false).getD j false)=fun _=>false:=by
    funext j
    rw [Array.getD_eq_getD_getElem?,Array.getElem?_replicate]
    split<;>rfl
   have ef:fat (mY steps) (fun i=>(g i).1) (fun _=>false) steps.length (sts 0).get=st.get:=by
    have:=QQ (ds:=mY steps) (vs:=fun i=>(g i).1) (S:=fun _=>false) (f:=(sts 0).get) (i:=0) (fun _ _=>rfl) steps.length
    rw [cI] at this
    rw [this,e0];rfl
   have eh:hat (fun i=>(g i).2) (fun _=>false) steps.length (sts 0).heap=st.heap:=by
    have:=Un (us:=fun i=>(g i).2) (S:=fun _=>false) (h:=(sts 0).heap) (i:=0) (fun _ _=>rfl) steps.length
    rw [cI] at this
    rw [this,e0];rfl
   refine R.any hC (μ0:=μ0) (h0:=h0) (w0:=w0) (fun μ' a' w' I' S'=> ?_) ops.size (Array.replicate ops.size false) a _ μ (by simp [hlen]) ?_ (fun j hj=> ?_) ?_ ?_
   ·rw [e1] at I' S'
    exact K μ' a' w' (I'.trim live) S'
   ·unfold zd
    exact ed pp (by simp [hlen])
   ·have e3:(Array.replicate ops.size false).getD j false=false:=congrFun hrep j
    rw [e3] at hj;cases hj
   ·rw [hrep,ef,eh]
    exact ⟨I.H.grown hgr,fun t=>(I.E t).chg C1,I.sz,I.df⟩
   ·rw [hrep,eh]
    exact ⟨S.C.trans C1,S.lo⟩
  ·cases hs
 ·cases hs
end
end
end Go.AI
