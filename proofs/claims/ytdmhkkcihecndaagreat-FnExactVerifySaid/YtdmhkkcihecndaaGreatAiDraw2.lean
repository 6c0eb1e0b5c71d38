/- Regions whose order is drawn: the proof. -/
import Derived.Test.YtdmhkkcihecndaaGreatAiDraw
set_option linter.unusedVariables false
set_option linter.unusedSimpArgs false
namespace Go.AI
structure Run (P:Program) (C:aU) (ow:dl) (n:Nat) (ops:Array Oper) (steps:List aY) (deps:List (List Nat)) (base:Nat) (rs:List Rec) (sts:Nat→St) (vs:Nat→V) (us:Nat→Upd):Prop where
 cs:gJ P n ops ops.toList=some steps
 D:b1w ops.toList steps deps
 ent: ∀(i:Nat) (s:aY),steps[i]? =some s→ ∃rc,rs[i]? =some rc∧Ent C ow (sts i) (sts (i+1)) s i (base+i) rc (vs i) (us i)
 po:kK deps (rs.filter Rec.loud)=true
def i8 (steps:List aY) (i:Nat):Option Nat:=(steps[i]?).bind (·.dst)
def wO (S:Nat→Bool) (i:Nat):Nat→Bool:=fun j=>if j=i then true else S j
section
variable {P:Program} {C:aU} {ow:dl} {n:Nat} {ops:Array Oper} {steps:List aY} {deps:List (List Nat)} {base:Nat} {rs:List Rec} {sts:Nat→St} {vs:Nat→V} {us:Nat→Upd}
theorem Run.heapAt (R:Run P C ow n ops steps deps base rs sts vs us): ∀{i:Nat},i≤steps.length→(sts i).heap=hat us (fun _=>true) i (sts 0).heap
 |0,_=>rfl
 |i+1,h=>by
  obtain ⟨s,hs⟩:=cH (l:=steps) (i:=i) (by omega)
  obtain ⟨rc,_,E⟩:=R.ent i s hs
  rw [E.nx,St.put_heap,St.upd_heap,R.heapAt (by omega)]
  rfl
theorem Run.getAt (R:Run P C ow n ops steps deps base rs sts vs us): ∀{i:Nat},i≤steps.length→(sts i).get=fat (i8 steps) vs (fun _=>true) i (sts 0).get
 |0,_=>rfl
 |i+1,h=>by
  obtain ⟨s,hs⟩:=cH (l:=steps) (i:=i) (by omega)
  obtain ⟨rc,_,E⟩:=R.ent i s hs
  funext t
  rw [E.nx,St.put_get,St.upd_get,R.getAt (by omega)]
  show _=(if i8 steps i=some t then vs i else _)
  have:i8 steps i=s.dst:=by simp [i8,hs]
  rw [this]
theorem Run.ordB (R:Run P C ow n ops steps deps base rs sts vs us) {i j:Nat} {s:aY} {rc:Rec} (hs:steps[i]? =some s) (hrc:rs[i]? =some rc) (E:Ent C ow (sts i) (sts (i+1)) s i (base+i) rc (vs i) (us i))
 (hj:j<steps.length) (hne:j≠i) {b:Nat} (hb:b∈(us j).map (·.1)) (hi:b∈rc.fp∨b∈(us i).map (·.1)):if j<i then j∈deps.getD i [] else i∈deps.getD j []:=by
 obtain ⟨s',hs'⟩:=cH hj
 obtain ⟨rc',hrc',E'⟩:=R.ent j s' hs'
 rw [←E.wr] at hi
 rw [←E'.wr] at hb
 split
 ·rename_i hlt
  have:=Wp R.po hlt hrc' hrc (by
   simp only [Qu,Bool.or_eq_true,List.any_eq_true]
   left
   exact ⟨b,hb,by simpa using hi⟩)
  rwa [E.ri,E'.ri] at this
 ·rename_i hge
  have:=Wp R.po (show i<j by omega) hrc hrc' (by
   simp only [Qu,Bool.or_eq_true,List.any_eq_true]
   rcases hi with hi|hi
   ·right;exact ⟨b,hb,by simpa using hi⟩
   ·left;exact ⟨b,hi,by simp [hb]⟩)
  rwa [E.ri,E'.ri] at this
theorem Run.ordT (R:Run P C ow n ops steps deps base rs sts vs us) {i j:Nat} {s:aY} (hs:steps[i]? =some s) (hj:j<steps.length) (hne:j≠i) {t:Nat} (ht:i8 steps j=some t)
 (hi:t∈Ce s∨i8 steps i=some t):if j<i then j∈deps.getD i [] else i∈deps.getD j []:=by
 obtain ⟨s',hs'⟩:=cH hj
 have hd:s'.dst=some t:=by simpa [i8,hs'] using ht
 have hi':t∈Ce s∨s.dst=some t:=by simpa [i8,hs] using hi
 split
 ·rename_i hlt
  rcases R.D.ap j i s' s hlt hs' hs with h1|h1
  ·exact h1
  ·obtain ⟨a1,a2,a3⟩:=IC h1
   exact absurd hi' (by rintro (h|h);exact a1 t hd h;exact a2 t hd h)
 ·rename_i hge
  rcases R.D.ap i j s s' (by omega) hs hs' with h1|h1
  ·exact h1
  ·obtain ⟨a1,a2,a3⟩:=IC h1
   exact absurd hi' (by rintro (h|h);exact a3 t hd h;exact a2 t h hd)
structure Rdy (deps:List (List Nat)) (S:Nat→Bool) (i:Nat):Prop where
 cl: ∀j,S j=true→ ∀d∈deps.getD j [],S d=true
 no:S i=false
 pre: ∀d∈deps.getD i [],S d=true
theorem Rdy.side {S:Nat→Bool} {i j:Nat} (r:Rdy deps S i) (hne:j≠i) (h:if j<i then j∈deps.getD i [] else i∈deps.getD j []):S j=decide (j<i):=by
 split at h
 ·rename_i hlt;rw [r.pre j h];simp [hlt]
 ·rename_i hge
  cases hS:S j with
  |false=>simp [hge]
  |true=>have:=r.cl j hS i h;rw [r.no] at this;cases this
section
variable {i:Nat} {s:aY} {rc:Rec} {S:Nat→Bool}
theorem Run.seeT (R:Run P C ow n ops steps deps base rs sts vs us) (hs:steps[i]? =some s) (r:Rdy deps S i) {t:Nat} (ht:t∈Ce s∨i8 steps i=some t):
 fat (i8 steps) vs S steps.length (sts 0).get t=(sts i).get t:=by
 have hi:=cu hs
 rw [R.getAt (i:=i) (by omega), ←a0u (N:=steps.length) (by omega)]
 refine rV (fun j hj hd=> ?_)
 by_cases e:j=i
 ·subst e;rw [r.no];simp
 ·exact r.side e (R.ordT hs hj e hd ht)
theorem Run.seeB (R:Run P C ow n ops steps deps base rs sts vs us) (hs:steps[i]? =some s) (hrc:rs[i]? =some rc) (E:Ent C ow (sts i) (sts (i+1)) s i (base+i) rc (vs i) (us i)) (r:Rdy deps S i)
 {b:Nat} (hb:b∈rc.fp∨b∈(us i).map (·.1)):hat us S steps.length (sts 0).heap b=(sts i).heap b:=by
 have hi:=cu hs
 rw [R.heapAt (i:=i) (by omega), ←a01 (N:=steps.length) (by omega)]
 refine s4 (fun j hj hd=> ?_)
 by_cases e:j=i
 ·subst e;rw [r.no];simp
 ·exact r.side e (R.ordB hs hrc E hj e hd hb)
theorem Run.setT (R:Run P C ow n ops steps deps base rs sts vs us) (hs:steps[i]? =some s) (r:Rdy deps S i):
 fat (i8 steps) vs (wO S i) steps.length (sts 0).get=fun t=>if s.dst=some t then vs i else fat (i8 steps) vs S steps.length (sts 0).get t:=by
 have hi:=cu hs
 have hd:i8 steps i=s.dst:=by simp [i8,hs]
 funext t
 by_cases ht:s.dst=some t
 ·rw [if_pos ht]
  have e1:fat (i8 steps) vs (wO S i) steps.length (sts 0).get t=fat (i8 steps) vs (fun j=>decide (j<i+1)) steps.length (sts 0).get t:=by
   refine rV (fun j hj hdj=> ?_)
   unfold wO
   by_cases e:j=i
   ·subst e;simp
   ·rw [if_neg e,r.side e (R.ordT hs hj e hdj (.inr (by rw [hd];exact ht)))]
    by_cases h1:j<i
    ·simp [h1];omega
    ·simp [h1];omega
  rw [e1,a0u (by omega), ←R.getAt (by omega)]
  obtain ⟨rc,_,E⟩:=R.ent i s hs
  rw [E.nx,St.put_get,if_pos ht]
 ·rw [if_neg ht]
  refine rV (fun j hj hdj=> ?_)
  unfold wO
  by_cases e:j=i
  ·subst e;rw [hd] at hdj;exact absurd hdj ht
  ·rw [if_neg e]
theorem Run.setB (R:Run P C ow n ops steps deps base rs sts vs us) (hs:steps[i]? =some s) (hrc:rs[i]? =some rc) (E:Ent C ow (sts i) (sts (i+1)) s i (base+i) rc (vs i) (us i)) (r:Rdy deps S i):
 hat us (wO S i) steps.length (sts 0).heap=dU (hat us S steps.length (sts 0).heap) (us i):=by
 have hi:=cu hs
 funext b
 by_cases hb:b∈(us i).map (·.1)
 ·have e1:hat us (wO S i) steps.length (sts 0).heap b=hat us (fun j=>decide (j<i+1)) steps.length (sts 0).heap b:=by
   refine s4 (fun j hj hdj=> ?_)
   unfold wO
   by_cases e:j=i
   ·subst e;simp
   ·rw [if_neg e,r.side e (R.ordB hs hrc E hj e hdj (.inr hb))]
    by_cases h1:j<i
    ·simp [h1];omega
    ·simp [h1];omega
  rw [e1,a01 (by omega), ←R.heapAt (by omega),E.nx,St.put_heap,St.upd_heap]
  exact Tc hb
 ·rw [oA hb]
  refine s4 (fun j hj hdj=> ?_)
  unfold wO
  by_cases e:j=i
  ·subst e;exact absurd hdj hb
  ·rw [if_neg e]
end
end
section
variable {P:Program} {C:aU} {ow:dl} {n:Nat} {ops:Array Oper} {steps:List aY} {deps:List (List Nat)} {base:Nat} {rs:List Rec} {sts:Nat→St} {vs:Nat→V} {us:Nat→Upd}
theorem MU [Frame] {ops:Array Oper} {o:Oper} {s:aY} (CS:b2I P n ops o s) {f:Nat→V} {μ:Mu} {h:ak} {w:World} {a:Act} (E:dN μ h w f a) {b:Bool} (hw:HQ f s.guard=some b):
 Region.wanted o (yielded ops a.tmps)=b:=by
 cases hg:s.guard with
 |none=>
  rw [hg] at hw
  exact Gn (st:=⟨[],[]⟩) CS (μ:=μ) (h:=fun _=>none) (w:=w) (a:=a) (fun t=>by show aj _ _ _ .undef _;exact .unk _) (by rw [hg];exact hw)
 |some p=>
  obtain ⟨t,c⟩:=p
  rw [hg] at hw
  cases hft:f t with
  |lit y=>
   refine Gn (st:=⟨[(t,.lit y)],[]⟩) CS (μ:=μ) (h:=h) (w:=w) (a:=a) (fun t'=> ?_) ?_
   ·show aj μ h w ((dv [(t,V.lit y)] t').getD .undef) _
    simp only [dv]
    by_cases e:t=t'
    ·rw [if_pos e];have:=E t';rw [←e,hft] at this;rw [←e];exact this
    ·rw [if_neg e];exact .unk _
   ·rw [hg,SM]
    have e1:St.get ⟨[(t,.lit y)],[]⟩ t= .lit y:=by show (dv [(t,V.lit y)] t).getD .undef=_;simp [dv]
    simp only [HQ,e1]
    simp only [HQ,hft] at hw
    exact hw
  |_=>simp [HQ,hft] at hw
theorem Run.one [Frame] (R:Run P C ow n ops steps deps base rs sts vs us) (hC:gA P C) {Q:Exit→Act→World→Prop} {μ0:Mu} {h0:ak} {w0:World} {S:Nat→Bool} {i:Nat} {o:Oper} (ho:ops[i]? =some o) (r:Rdy deps S i)
 {μ:Mu} {a:Act} {w:World} (I:Inv n (fat (i8 steps) vs S steps.length (sts 0).get) (hat us S steps.length (sts 0).heap) μ a w) (Si:jB μ0 h0 w0 μ (hat us S steps.length (sts 0).heap) w) {K:Act→World→Prop}
 (HK: ∀μ' a' w',Inv n (fat (i8 steps) vs (wO S i) steps.length (sts 0).get) (hat us (wO S i) steps.length (sts 0).heap) μ' a' w'→jB μ0 h0 w0 μ' (hat us (wO S i) steps.length (sts 0).heap) w'→K a' w'):
 wpOp P ops Q i K a w:=by
 obtain ⟨s,hs,hcs⟩:=(rg R.cs).2 i o (by simpa using ho)
 have CS:=Cp hcs
 obtain ⟨rc,hrc,E⟩:=R.ent i s hs
 have hT:=R.setT hs r
 have hB:=R.setB hs hrc E r
 rw [hT,hB] at HK
 have seeG:HQ (fat (i8 steps) vs S steps.length (sts 0).get) s.guard=HQ (sts i).get s.guard:=by
  cases hg:s.guard with
  |none=>rfl
  |some p=>
   obtain ⟨t,c⟩:=p
   simp only [HQ]
   rw [R.seeT hs r (.inl (by simp [Ce,hg]))]
 unfold wpOp
 rw [ho]
 simp only
 rcases E.kind with ⟨hw,hv,hu⟩|⟨hw,hop,hnew,hkeys⟩
 ·rw [SM, ←seeG] at hw
  rw [MU CS I.E hw]
  simp only [Bool.false_eq_true,if_false]
  rw [hv,hu] at HK
  refine HK μ _ w ?_ Si
  rw [CS.dst]
  exact I.put_skip CS.lt (.lit _)
 ·rw [SM, ←seeG] at hw
  rw [MU CS I.E hw]
  simp only [if_true]
  have hev: ∀x∈s.op.opds,(sts i).ev x=Opd.ev (fat (i8 steps) vs S steps.length (sts 0).get) x:=by
   intro x hx
   cases x with
   |t t=>
    show (sts i).get t=_
    have:t∈Ce s:=by
     unfold Ce
     exact List.mem_append_left _ (List.mem_filterMap.2 ⟨.t t,hx,rfl⟩)
    rw [←R.seeT hs r (.inl this)]
    rfl
   |c v=>rfl
   |f k=>rfl
  rw [UL hev] at hop
  have hle:Le (lT (sts i).heap rc.fp) (hat us S steps.length (sts 0).heap):=by
   intro b k hk
   unfold lT at hk
   split at hk
   ·rename_i hb
    rw [R.seeB hs hrc E r (.inl hb)]
    exact hk
   ·cases hk
  have hop2:=a57 hle hop (fun b hm h0=>by
   rw [R.seeB hs hrc E r (.inr hm)]
   rcases hkeys b hm with e|hb
   ·subst e;exact hnew hm
   ·unfold lT at h0;rw [if_pos hb] at h0;exact h0)
  refine .inl (Li hC I.H I.E CS.op hop2 (fun x w' μ' H' C' V'=> ?_))
  refine HK μ' _ w' ?_ ⟨Si.C.trans C',Si.lo⟩
  have E':dN μ' _ w' _ a:=fun t=>(I.E t).chg C'
  have:=(Inv.mk H' E' I.sz I.df).put_skip (d:=o.dst) CS.lt V'
  rw [CS.dst]
  exact this
def sx (N:Nat) (listed:Array Bool):Nat:=(List.range N).countP (fun i=> !listed.getD i false)
theorem a1H {p q:Nat→Bool} {l:List Nat} {i:Nat} (hi:i∈l) (h1:p i=true) (h2:q i=false) (h3: ∀j,q j=true→p j=true):l.countP q<l.countP p:=by
 induction l with
 |nil=>simp at hi
 |cons x r ih=>
  rw [List.countP_cons,List.countP_cons]
  have hle:r.countP q≤r.countP p:=List.countP_mono_left (fun j _ hj=>h3 j hj)
  rcases List.mem_cons.1 hi with rfl|hi
  ·rw [h1,h2];simp;omega
  ·have:=ih hi
   cases hq:q x with
   |true=>rw [h3 x hq];simp;omega
   |false=>simp;split<;>omega
theorem Run.any [Frame] (R:Run P C ow n ops steps deps base rs sts vs us) (hC:gA P C) {Q:Exit→Act→World→Prop} {μ0:Mu} {h0:ak} {w0:World}
 (K: ∀μ a w,Inv n (sts steps.length).get (sts steps.length).heap μ a w→jB μ0 h0 w0 μ (sts steps.length).heap w→Q .normal a w): ∀(fuel:Nat) (listed:Array Bool) (a:Act) (w:World) (μ:Mu),listed.size=steps.length→
 sx steps.length listed≤fuel→(∀j,listed.getD j false=true→ ∀d∈deps.getD j [],listed.getD d false=true)→
 Inv n (fat (i8 steps) vs (fun j=>listed.getD j false) steps.length (sts 0).get) (hat us (fun j=>listed.getD j false) steps.length (sts 0).heap) μ a w→
 jB μ0 h0 w0 μ (hat us (fun j=>listed.getD j false) steps.length (sts 0).heap) w→wpAny P .any ops Q fuel listed a w:=by
 have hlen:steps.length=ops.size:=by rw [(rg R.cs).1,Array.length_toList]
 have getEq: ∀(listed:Array Bool) (j:Nat),j<listed.size→listed.getD j true=listed.getD j false:=by
  intro listed j hj
  rw [Array.getD_eq_getD_getElem?,Array.getD_eq_getD_getElem?,Array.getElem?_eq_getElem hj];rfl
 have stop: ∀(listed:Array Bool),listed.size=steps.length→Region.ready .any ops listed=[]→ ∀j,j<steps.length→listed.getD j false=true:=by
  intro listed hsz hr j
  induction j using Nat.strongRecOn with
  |_ j ih=>
   intro hj
   cases hl:listed.getD j false with
   |true=>rfl
   |false=>
    obtain ⟨o,ho⟩: ∃o,ops[j]? =some o:=⟨ops[j],Array.getElem?_eq_getElem (by omega)⟩
    have:j∈Region.ready .any ops listed:=mem_ready.2 ⟨by rw [getEq _ _ (by omega)];exact hl,o,ho,fun e he hb=>by
     have hlt:=R.D.back j o hj (by simpa using ho) e he hb
     exact ih e.on hlt (by omega)⟩
    rw [hr] at this;cases this
 have fin: ∀(listed:Array Bool) (a:Act) (w:World) (μ:Mu),listed.size=steps.length→Region.ready .any ops listed=[]→
  Inv n (fat (i8 steps) vs (fun j=>listed.getD j false) steps.length (sts 0).get) (hat us (fun j=>listed.getD j false) steps.length (sts 0).heap) μ a w→
  jB μ0 h0 w0 μ (hat us (fun j=>listed.getD j false) steps.length (sts 0).heap) w→Q .normal a w:=by
  intro listed a w μ hsz hr I Si
  have hall:=stop listed hsz hr
  have e1:fat (i8 steps) vs (fun j=>listed.getD j false) steps.length (sts 0).get=(sts steps.length).get:=by
   rw [R.getAt (Nat.le_refl _)]
   funext t
   exact rV (fun j hj _=>hall j hj)
  have e2:hat us (fun j=>listed.getD j false) steps.length (sts 0).heap=(sts steps.length).heap:=by
   rw [R.heapAt (Nat.le_refl _)]
   funext b
   exact s4 (fun j hj _=>hall j hj)
  rw [e1,e2] at I
  rw [e2] at Si
  exact K μ a w I Si
 intro fuel
 induction fuel with
 |zero=>
  intro listed a w μ hsz hf hcl I Si
  have hnone:Region.ready .any ops listed=[]:=by
   cases hr:Region.ready .any ops listed with
   |nil=>rfl
   |cons x r=>
    exfalso
    have hx:x∈Region.ready .any ops listed:=by rw [hr];simp
    obtain ⟨h1,o,ho,_⟩:=mem_ready.1 hx
    have hlt:x<ops.size:=(Array.getElem?_eq_some_iff.1 ho).1
    rw [getEq _ _ (by omega)] at h1
    have:0<sx steps.length listed:=by
     unfold sx
     rw [List.countP_pos_iff]
     exact ⟨x,List.mem_range.2 (by omega),by rw [h1];rfl⟩
    omega
  exact ⟨hnone,fin listed a w μ hsz hnone I Si⟩
 |succ fuel ih=>
  intro listed a w μ hsz hf hcl I Si
  refine ⟨fun hr=>fin listed a w μ hsz hr I Si,fun i hi=> ?_⟩
  obtain ⟨h1,o,ho,hedge⟩:=mem_ready.1 hi
  have hlt:i<ops.size:=(Array.getElem?_eq_some_iff.1 ho).1
  rw [getEq _ _ (by omega)] at h1
  have hpre: ∀d∈deps.getD i [],listed.getD d false=true:=by
   intro d hd
   obtain ⟨e,he,hb,hor⟩:=R.D.edge i o (by omega) (by simpa using ho) d hd
   have hl:=hedge e he hb
   rcases hor with h2|h2
   ·rw [←h2];exact hl
   ·exact hcl e.on hl d h2
  have bj:(fun j=>(listed.setIfInBounds i true).getD j false)=wO (fun j=>listed.getD j false) i:=by
   funext j
   unfold wO
   by_cases e:j=i
   ·subst e
    rw [if_pos rfl,Array.getD_eq_getD_getElem?]
    have:j<listed.size:=by omega
    simp [this]
   ·rw [if_neg e,getD_set_ne false (Ne.symm e)]
  refine R.one hC ho ⟨hcl,h1,hpre⟩ I Si (fun μ' a' w' I' Si'=> ?_)
  rw [←bj] at I' Si'
  refine ih (listed.setIfInBounds i true) a' w' μ' (by simpa using hsz) ?_ ?_ I' Si'
  ·have:sx steps.length (listed.setIfInBounds i true)<sx steps.length listed:=by
    unfold sx
    refine a1H (i:=i) (List.mem_range.2 (by omega)) (by rw [h1];rfl) ?_ (fun j hj=> ?_)
    ·have e1:(listed.setIfInBounds i true).getD i false=wO (fun j=>listed.getD j false) i i:=congrFun bj i
     rw [e1];simp [wO]
    ·have e1:(listed.setIfInBounds i true).getD j false=wO (fun j=>listed.getD j false) i j:=congrFun bj j
     rw [e1] at hj
     unfold wO at hj
     split at hj
     ·cases hj
     ·exact hj
   omega
  ·intro j hj d hd
   have e1:(listed.setIfInBounds i true).getD j false=wO (fun j=>listed.getD j false) i j:=congrFun bj j
   have e2:(listed.setIfInBounds i true).getD d false=wO (fun j=>listed.getD j false) i d:=congrFun bj d
   rw [e1] at hj
   rw [e2]
   unfold wO at hj ⊢
   split
   ·rfl
   ·split at hj
    ·rename_i e;subst e;exact hpre d hd
    ·exact hcl j hj d hd
theorem WS [Frame] (hC:gA P C) {id:Nat} {live:List Nat} {Q:Exit→Act→World→Prop} {μ0:Mu} {h0:ak} {w0:World} {st st':St} {e:ah} {μ:Mu} {a:Act} {w:World} (hm:P.follows .mixedOrders=true)
 (hc:gJ P n ops ops.toList=some steps) (hd:JR ops.toList steps deps=true) (hs:uS C ow base steps deps live st=some (e,st')) (I:Inv n st.get st.heap μ a w) (S:jB μ0 h0 w0 μ st.heap w)
 (K: ∀μ' a' w',Inv n st'.get st'.heap μ' a' w'→jB μ0 h0 w0 μ' st'.heap w'→Q .normal a' w'):e= .normal∧(Code.region id ops true).wp P Q a w:=by
 unfold uS at hs
 split at hs
 ·rename_i st1 rs h1
  split at hs
  ·rename_i hpo
   cases hs
   obtain ⟨hl,sts,e0,e1,e2⟩:=IB h1
   have hch: ∀i, ∃vu:V×Upd, ∀s,steps[i]? =some s→ ∃rc,rs[i]? =some rc∧Ent C ow (sts i) (sts (i+1)) s i (base+i) rc vu.1 vu.2:=by
    intro i
    cases hsi:steps[i]? with
    |none=>exact ⟨(.undef,[]),fun s hs=>by cases hs⟩
    |some s=>
     obtain ⟨rc,g1,g2⟩:=e2 i s hsi
     rw [Nat.zero_add] at g2
     obtain ⟨v,u,E⟩:=XO g2
     exact ⟨(v,u),fun s' hs'=>by cases hs';exact ⟨rc,g1,E⟩⟩
   obtain ⟨g,hg⟩:=Classical.axiomOfChoice hch
   have R:Run P C ow n ops steps deps base rs sts (fun i=>(g i).1) (fun i=>(g i).2):=⟨hc,Rb hd,fun i s hs=>hg i s hs,hpo⟩
   refine ⟨rfl,wp_region_any hm ?_⟩
   have hlen:steps.length=ops.size:=by rw [(rg hc).1,Array.length_toList]
   have hgr:yO w { w with drawn:=w.drawn+1 }:=⟨rfl,rfl,rfl,Nat.le_refl _,fun _ _=>rfl⟩
   have C1:=hgr.chg I.H
   have hrep:(fun j=>(Array.replicate ops.size false).getD j false)=fun _=>false:=by
    funext j
    rw [Array.getD_eq_getD_getElem?,Array.getElem?_replicate]
    split<;>rfl
   have ef:fat (i8 steps) (fun i=>(g i).1) (fun _=>false) steps.length (sts 0).get=st.get:=by
    have:=Kn (ds:=i8 steps) (vs:=fun i=>(g i).1) (S:=fun _=>false) (f:=(sts 0).get) (i:=0) (fun _ _=>rfl) steps.length
    rw [Nat.zero_add] at this
    rw [this,e0];rfl
   have eh:hat (fun i=>(g i).2) (fun _=>false) steps.length (sts 0).heap=st.heap:=by
    have:=Kx (us:=fun i=>(g i).2) (S:=fun _=>false) (h:=(sts 0).heap) (i:=0) (fun _ _=>rfl) steps.length
    rw [Nat.zero_add] at this
    rw [this,e0];rfl
   refine R.any hC (μ0:=μ0) (h0:=h0) (w0:=w0) (fun μ' a' w' I' S'=> ?_) ops.size (Array.replicate ops.size false) a _ μ (by simp [hlen]) ?_ (fun j hj=> ?_) ?_ ?_
   ·rw [e1] at I' S'
    exact K μ' a' w' (I'.trim live) S'
   ·unfold sx
    exact Nat.le_trans List.countP_le_length (by simp [hlen])
   ·have e3:(Array.replicate ops.size false).getD j false=false:=congrFun hrep j
    rw [e3] at hj;cases hj
   ·rw [hrep,ef,eh]
    exact ⟨I.H.grown hgr,fun t=>(I.E t).chg C1,I.sz,I.df⟩
   ·rw [hrep,eh]
    exact ⟨S.C.trans C1,S.lo⟩
  ·cases hs
 ·cases hs
end
end Go.AI
