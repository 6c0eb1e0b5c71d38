/- Regions whose order is drawn: each order that the edges allow comes to what the order of the text comes to. -/
import Derived.Test.YtdmhkkcihecndaaGreatAiGhost
import Derived.Test.YtdmhkkcihecndaaGreatAiMono
set_option linter.unusedVariables false
set_option linter.unusedSimpArgs false
namespace Go.AI
theorem Ca {ev ev':Opd→V}: ∀{ps:List (Nat×Nat×Opd)},(∀x∈ps.map (·.2.2),ev x=ev' x)→ej ev ps=ej ev' ps
 |[],_=>rfl
 | (a,b,x)::r,h=>by
   simp only [ej]
   rw [h x (by simp),Ca (fun y hy=>h y (by simp at hy ⊢;exact .inr hy))]
theorem yT {hp:ak} {ev ev':Opd→V}: ∀{ps:List (Nat×Opd)},(∀x∈ps.map (·.2),ev x=ev' x)→cq hp ev ps=cq hp ev' ps
 |[],_=>rfl
 | (a,x)::r,h=>by
   simp only [cq]
   rw [h x (by simp),yT (fun y hy=>h y (by simp at hy ⊢;exact .inr hy))]
theorem yv {ev ev':Opd→V} {o:Option Opd} (h: ∀x∈EU o,ev x=ev' x):o.map ev=o.map ev':=by
 cases o with
 |none=>rfl
 |some x=>simp [h x (by simp [EU])]
theorem UL {C:aU} {ow:FuncId→List Nat} {o:AOp} {ev ev':Opd→V} {hp:ak} {n:Nat} (h: ∀x∈o.opds,ev x=ev' x):ai C ow o ev hp n=ai C ow o ev' hp n:=by
 cases o<;>simp only [AOp.opds,List.mem_cons,List.mem_append,List.not_mem_nil,or_false,forall_eq_or_imp,forall_eq] at h<;>simp only [ai]
 case build z ps=>rw [Ca (fun x hx=>h x hx)]
 case buildSlice e z l ps=>rw [yT (fun x hx=>h x hx)]
 case makeFunc f cs=>rw [List.map_congr_left (fun x hx=>h x hx)]
 case call f cs=>rw [List.map_congr_left (fun x hx=>h x hx)]
 case dyn f cs=>rw [h.1,List.map_congr_left (fun x hx=>h.2 x hx)]
 case sliceStr x lo hi=>rw [h.1,yv (fun x hx=>h.2 x (.inl hx)),yv (o:=hi) (fun x hx=>h.2 x (.inr hx))]
 case slice e x lo hi mx=>rw [h.1,yv (fun x hx=>h.2 x (.inl hx)),yv (o:=hi) (fun x hx=>h.2 x (.inr (.inl hx)))]
 all_goals first
  | (rw [h];done)
  | (rw [h.1,h.2];done)
  | (rw [h.1,h.2.1,h.2.2];done)
  |rfl
def HQ (f:Nat→V):Option (Nat×Bool)→Option Bool
 |none=>some true
 |some (t,b)=>match f t with
  | .lit (.bool c)=>some (c==b)
  | .lit (.tuple _)=>some false
  |_=>none
theorem SM (st:St) (g:Option (Nat×Bool)):st.want g=HQ st.get g:=by cases g<;>rfl
theorem oA: ∀{u:Upd} {h:ak} {b:Nat},b∉u.map (·.1)→dU h u b=h b
 |[],h,b,_=>rfl
 | (i,k)::r,h,b,hb=>by
   simp only [List.map_cons,List.mem_cons,not_or] at hb
   show dU (bj h i k) r b=h b
   rw [oA hb.2]
   simp [bj,hb.1]
theorem Tc: ∀{u:Upd} {h h':ak} {b:Nat},b∈u.map (·.1)→dU h u b=dU h' u b
 |[],h,h',b,hb=>by simp at hb
 | (i,k)::r,h,h',b,hb=>by
   show dU (bj h i k) r b=dU (bj h' i k) r b
   by_cases hr:b∈r.map (·.1)
   ·exact Tc hr
   ·rw [oA hr,oA hr]
    simp only [List.map_cons,List.mem_cons] at hb
    have:b=i:=hb.resolve_right hr
    simp [bj,this]
def hat (us:Nat→Upd) (S:Nat→Bool):Nat→ak→ak
 |0,h=>h
 |k+1,h=>if S k=true then dU (hat us S k h) (us k) else hat us S k h
def fat (ds:Nat→Option Nat) (vs:Nat→V) (S:Nat→Bool):Nat→(Nat→V)→Nat→V
 |0,f=>f
 |k+1,f=>if S k=true then (fun t=>if ds k=some t then vs k else fat ds vs S k f t) else fat ds vs S k f
theorem s4 {us:Nat→Upd} {S S':Nat→Bool} {h:ak} {b:Nat}: ∀{k:Nat},(∀j,j<k→b∈(us j).map (·.1)→S j=S' j)→hat us S k h b=hat us S' k h b
 |0,_=>rfl
 |k+1,H=>by
  have ih:=s4 (k:=k) (us:=us) (S:=S) (S':=S') (h:=h) (b:=b) (fun j hj hb=>H j (by omega) hb)
  simp only [hat]
  by_cases hb:b∈(us k).map (·.1)
  ·rw [H k (by omega) hb]
   split
   ·exact Tc hb
   ·exact ih
  ·split<;>split
   ·rw [oA hb,oA hb];exact ih
   ·rw [oA hb];exact ih
   ·rw [oA hb];exact ih
   ·exact ih
theorem rV {ds:Nat→Option Nat} {vs:Nat→V} {S S':Nat→Bool} {f:Nat→V} {t:Nat}: ∀{k:Nat},(∀j,j<k→ds j=some t→S j=S' j)→fat ds vs S k f t=fat ds vs S' k f t
 |0,_=>rfl
 |k+1,H=>by
  have ih:=rV (k:=k) (ds:=ds) (vs:=vs) (S:=S) (S':=S') (f:=f) (t:=t) (fun j hj hb=>H j (by omega) hb)
  simp only [fat]
  by_cases hb:ds k=some t
  ·rw [H k (by omega) hb]
   split
   ·simp [hb]
   ·exact ih
  ·split<;>split
   ·simp only [hb,if_false];exact ih
   ·simp only [hb,if_false];exact ih
   ·simp only [hb,if_false];exact ih
   ·exact ih
theorem Kx {us:Nat→Upd} {S:Nat→Bool} {h:ak} {i:Nat} (H: ∀j,i≤j→S j=false): ∀d,hat us S (i+d) h=hat us S i h
 |0=>rfl
 |d+1=>by
  show (if S (i+d)=true then _ else hat us S (i+d) h)=_
  rw [H (i+d) (by omega)]
  exact Kx H d
theorem Kn {ds:Nat→Option Nat} {vs:Nat→V} {S:Nat→Bool} {f:Nat→V} {i:Nat} (H: ∀j,i≤j→S j=false): ∀d,fat ds vs S (i+d) f=fat ds vs S i f
 |0=>rfl
 |d+1=>by
  show (if S (i+d)=true then _ else fat ds vs S (i+d) f)=_
  rw [H (i+d) (by omega)]
  exact Kn H d
theorem a01 {us:Nat→Upd} {h:ak} {i N:Nat} (hi:i≤N) (b:Nat):hat us (fun j=>decide (j<i)) N h b=hat us (fun _=>true) i h b:=by
 obtain ⟨d,rfl⟩: ∃d,N=i+d:=⟨N-i,by omega⟩
 rw [Kx (fun j hj=>by simp;omega)]
 exact s4 (fun j hj _=>by simp [hj])
theorem a0u {ds:Nat→Option Nat} {vs f:Nat→V} {i N:Nat} (hi:i≤N) (t:Nat):fat ds vs (fun j=>decide (j<i)) N f t=fat ds vs (fun _=>true) i f t:=by
 obtain ⟨d,rfl⟩: ∃d,N=i+d:=⟨N-i,by omega⟩
 rw [Kn (fun j hj=>by simp;omega)]
 exact rV (fun j hj _=>by simp [hj])
theorem IB {C:aU} {ow:dl} {base:Nat}: ∀{steps:List aY} {i:Nat} {st st':St} {rs:List Rec},fm C ow base steps i st=some (st',rs)→
 rs.length=steps.length∧ ∃sts:Nat→St,sts 0=st∧sts steps.length=st'∧ ∀(j:Nat) (s:aY),steps[j]? =some s→ ∃rc,rs[j]? =some rc∧tn C ow (sts j) s (i+j) (base+(i+j))=some (sts (j+1),rc)
 |[],i,st,st',rs,h=>by
  simp [fm] at h
  obtain ⟨rfl,rfl⟩:=h
  exact ⟨rfl,fun _=>st,rfl,rfl,fun j s hs=>by simp at hs⟩
 |s::r,i,st,st',rs,h=>by
  simp only [fm] at h
  cases h1:tn C ow st s i (base+i) with
  |none=>rw [h1] at h;cases h
  |some p=>
   obtain ⟨st1,rc⟩:=p
   rw [h1] at h
   dsimp only at h
   cases h2:fm C ow base r (i+1) st1 with
   |none=>rw [h2] at h;cases h
   |some q=>
    obtain ⟨st2,rs'⟩:=q
    rw [h2] at h
    cases h
    obtain ⟨l1,sts,e0,e1,e2⟩:=IB h2
    refine ⟨by simp [l1],fun j=>match j with
     |0=>st
     |j+1=>sts j,rfl,by simpa using e1,fun j s' hs'=> ?_⟩
    cases j with
    |zero=>
     simp at hs'
     subst hs'
     refine ⟨rc,rfl, ?_⟩
     simp only [Nat.add_zero,Nat.zero_add,e0]
     exact h1
    |succ j=>
     obtain ⟨rc',g1,g2⟩:=e2 j s' (by simpa using hs')
     refine ⟨rc',by simpa using g1, ?_⟩
     rw [show i+(j+1)=i+1+j by omega]
     exact g2
structure Ent (C:aU) (ow:dl) (st st':St) (s:aY) (i n:Nat) (rc:Rec) (v:V) (u:Upd):Prop where
 nx:st'=(st.upd u).put s.dst v
 ri:rc.i=i
 wr:rc.wr=u.map (·.1)
 kind:(st.want s.guard=some false∧v= .lit (.tuple #[])∧u=[])∨
  (st.want s.guard=some true∧ai C ow s.op st.ev (lT st.heap rc.fp) n=some (v,u)∧(n∈u.map (·.1)→st.heap n=none)∧ ∀b∈u.map (·.1),b=n∨b∈rc.fp)
theorem XO {C:aU} {ow:dl} {st st':St} {s:aY} {i n:Nat} {rc:Rec} (h:tn C ow st s i n=some (st',rc)): ∃v u,Ent C ow st st' s i n rc v u:=by
 unfold tn at h
 cases hw:st.want s.guard with
 |none=>rw [hw] at h;cases h
 |some b=>
  rw [hw] at h
  cases b with
  |false=>
   cases h
   exact ⟨.lit (.tuple #[]),[],rfl,rfl,rfl,.inl ⟨hw,rfl,rfl⟩⟩
  |true=>
   dsimp only at h
   split at h
   ·rename_i v u hop
    split at h
    ·rename_i hc
     cases h
     simp only [Bool.and_eq_true,List.all_eq_true,Bool.or_eq_true,beq_iff_eq,decide_eq_true_eq,Bool.not_eq_true',List.contains_eq_mem,decide_eq_false_iff_not,Option.isNone_iff_eq_none] at hc
     exact ⟨v,u,rfl,rfl,rfl,.inr ⟨hw,hop,fun hm=>hc.2.resolve_left (fun h1=>h1 hm),hc.1⟩⟩
    ·cases h
   ·cases h
def Xj (deps:List (List Nat)) (p q:Rec):Prop:=(p.wr.isEmpty&&q.wr.isEmpty||(deps.getD q.i []).contains p.i|| !Qu p q)=true
theorem Ht {deps:List (List Nat)} {p:Rec}: ∀{l:List Rec},AE deps p l=true→ ∀q∈l,Xj deps p q
 |[],_,q,hq=>by simp at hq
 |x::r,h,q,hq=>by
  simp only [AE,Bool.and_eq_true] at h
  rcases List.mem_cons.1 hq with rfl|hq
  ·exact h.1
  ·exact Ht h.2 q hq
theorem Fw {deps:List (List Nat)}: ∀{l:List Rec},kK deps l=true→l.Pairwise (Xj deps)
 |[],_=>List.Pairwise.nil
 |x::r,h=>by
  simp only [kK,Bool.and_eq_true] at h
  exact List.Pairwise.cons (fun q hq=>Ht h.1 q hq) (Fw h.2)
theorem Wp {deps:List (List Nat)} {rs:List Rec} (h:kK deps (rs.filter Rec.loud)=true) {i j:Nat} {p q:Rec} (hij:i<j) (hp:rs[i]? =some p) (hq:rs[j]? =some q) (hc:Qu p q=true):
 p.i∈deps.getD q.i []:=by
 have h1:=Fw h
 rw [List.pairwise_filter,List.pairwise_iff_getElem] at h1
 have hi:=cu hp
 have hj:=cu hq
 have h2:=h1 i j hi hj hij
 rw [List.getElem?_eq_getElem hi] at hp
 rw [List.getElem?_eq_getElem hj] at hq
 cases hp;cases hq
 have hcl:=hc
 simp only [Qu,Bool.or_eq_true,List.any_eq_true] at hcl
 have lp:Rec.loud rs[i]=true:=by
  unfold Rec.loud
  rcases hcl with ⟨b,hb,_⟩|⟨b,hb,hb2⟩
  ·cases hw:(rs[i]).wr with
   |nil=>rw [hw] at hb;cases hb
   |cons x y=>simp
  ·cases hw:(rs[i]).fp with
   |nil=>rw [hw] at hb2;simp at hb2
   |cons x y=>simp
 have lq:Rec.loud rs[j]=true:=by
  unfold Rec.loud
  rcases hcl with ⟨b,hb,hb2⟩|⟨b,hb,hb2⟩
  ·rcases hb2 with hb2|hb2
   ·cases hw:(rs[j]).fp with
    |nil=>rw [hw] at hb2;simp at hb2
    |cons x y=>simp
   ·cases hw:(rs[j]).wr with
    |nil=>rw [hw] at hb2;simp at hb2
    |cons x y=>simp
  ·cases hw:(rs[j]).wr with
   |nil=>rw [hw] at hb;cases hb
   |cons x y=>simp
 have h3:=h2 lp lq
 unfold Xj at h3
 rw [hc] at h3
 simp only [Bool.not_true,Bool.or_false,Bool.or_eq_true,Bool.and_eq_true,List.contains_eq_mem,decide_eq_true_eq] at h3
 rcases h3 with ⟨e1,e2⟩|h3
 ·exfalso
  rw [List.isEmpty_iff] at e1 e2
  rw [e1,e2] at hcl
  simp at hcl
 ·exact h3
structure b1w (ops:List Oper) (steps:List aY) (deps:List (List Nat)):Prop where
 back: ∀(j:Nat) (o:Oper),j<steps.length→ops[j]? =some o→ ∀e∈o.after,Region.binds .any e=true→e.on<j
 lt: ∀(j:Nat),j<steps.length→ ∀d∈deps.getD j [],d<j
 edge: ∀(j:Nat) (o:Oper),j<steps.length→ops[j]? =some o→ ∀d∈deps.getD j [], ∃e∈o.after,Region.binds .any e=true∧(e.on=d∨d∈deps.getD e.on [])
 ap: ∀(i j:Nat) (x y:aY),i<j→steps[i]? =some x→steps[j]? =some y→i∈deps.getD j []∨Rj x y=true
theorem Rb {ops:List Oper} {steps:List aY} {deps:List (List Nat)} (h:JR ops steps deps=true):b1w ops steps deps:=by
 unfold JR at h
 rw [List.all_eq_true] at h
 have H:=fun j (hj:j<steps.length)=>h j (List.mem_range.2 hj)
 simp only [Bool.and_eq_true] at H
 refine ⟨fun j o hj ho e he hb=> ?_,fun j hj d hd=> ?_,fun j o hj ho d hd=> ?_,fun i j x y hij hx hy=> ?_⟩
 ·have:=(H j hj).1.1
  rw [ho] at this
  simp only [Option.map_some,Option.getD_some,List.all_eq_true] at this
  have:=this e (Array.mem_toList_iff.2 he)
  rw [hb] at this
  simp only [Bool.not_true,Bool.false_or,Bool.and_eq_true,decide_eq_true_eq] at this
  exact this.1.1
 ·have:=(H j hj).1.2
  rw [List.all_eq_true] at this
  have:=this d hd
  simp only [Bool.and_eq_true,decide_eq_true_eq] at this
  exact this.1
 ·have:=(H j hj).1.2
  rw [List.all_eq_true] at this
  have:=this d hd
  rw [ho] at this
  simp only [Bool.and_eq_true,decide_eq_true_eq,Option.map_some,Option.getD_some,List.any_eq_true,Bool.or_eq_true,beq_iff_eq,List.contains_eq_mem] at this
  obtain ⟨_,e,he,hb,hor⟩:=this
  exact ⟨e,Array.mem_toList_iff.1 he,hb,hor⟩
 ·have:=(H j (cu hy)).2
  rw [List.all_eq_true] at this
  have:=this i (List.mem_range.2 hij)
  rw [hx,hy] at this
  simpa using this
theorem IC {x y:aY} (h:Rj x y=true):(∀d,x.dst=some d→d∉Ce y)∧(∀d,x.dst=some d→y.dst≠some d)∧(∀d,y.dst=some d→d∉Ce x):=by
 refine ⟨fun d hd=> ?_,fun d hd=> ?_,fun d hd=> ?_⟩<;>simp [Rj,hd] at h
 ·exact h.1.1
 ·exact h.1.2
 ·exact h.2
theorem rg {P:Program} {n:Nat} {ops:Array Oper}: ∀{l:List Oper} {steps:List aY},gJ P n ops l=some steps→steps.length=l.length∧ ∀(i:Nat) (o:Oper),l[i]? =some o→ ∃s,steps[i]? =some s∧Ff P n ops o=some s
 |[],steps,h=>by simp [gJ] at h;subst h;exact ⟨rfl,fun i o ho=>by simp at ho⟩
 |o::l,steps,h=>by
  simp only [gJ] at h
  split at h
  ·rename_i s r h1 h2
   cases h
   obtain ⟨a1,a2⟩:=rg h2
   refine ⟨by simp [a1],fun i o' ho=> ?_⟩
   cases i with
   |zero=>simp at ho;subst ho;exact ⟨s,rfl,h1⟩
   |succ i=>simpa using a2 i o' (by simpa using ho)
  ·cases h
end Go.AI
