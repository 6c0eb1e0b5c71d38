/- A function's way out; and the word for all functions of a table. -/
import Derived.Test.YtdmhkkcihecndaaGreatAiCtl
set_option linter.unusedVariables false
set_option linter.unusedSimpArgs false
namespace Go.AI
theorem aj.weak {F F':Frame} (hf: ∀c,F.fr c→F'.fr c) {μ:Mu} {h:ak} {w:World} {v:V} {x:Value} (hv: @aj F' μ h w v x): @aj F μ h w v x:=by
 have st: ∀c, @kX F' μ c→ @kX F μ c:=fun c hs=>⟨hs.1,fun h1=>hs.2 (hf c h1)⟩
 induction hv with
 |lit v=>exact @aj.lit F μ h w v
 |agg cs xs hl hcell hc ih=>exact @aj.agg F μ h w cs xs hl hcell ih
 |tup vs xs hl hc ih=>exact @aj.tup F μ h w vs xs hl ih
 |ptr b i o n x k hk hn hx hp=>exact @aj.ptr F μ h w b i o n x k hk hn hx hp
 |sl b s n x k hk hn hx hp=>exact @aj.sl F μ h w b s n x k hk hn hx hp
 |emp a=>exact @aj.emp F μ h w a
 |imm0 e a cap he=>exact @aj.imm0 F μ h w e a cap he
 |imm e rows c off cap ys he hr hcap hc hs hrow hcell hv ih=>exact @aj.imm F μ h w e rows c off cap ys he hr hcap hc (st c hs) hrow hcell ih
 |iptr row o c off ys hc hs hrow hcell hv ih=>exact @aj.iptr F μ h w row o c off ys hc (st c hs) hrow hcell ih
 |fn f caps xs hl hc ih=>exact @aj.fn F μ h w f caps xs hl ih
 |unk x=>exact @aj.unk F μ h w x
theorem aE.weak {F F':Frame} (hf: ∀c,F.fr c→F'.fr c) {μ:Mu} {h:ak} {w:World} (H: @aE F' μ h w): @aE F μ h w:=by
 refine @aE.mk F μ h w (b3P H) (b3j H) (fun b k hk=> ?_) (a05 H) (fun b c h1 h2=>TA H b c h1 (hf c h2)) (fun c hc=>b1z H c (hf c hc))
 rcases b25 H b k hk with h1|⟨g0,c,arr,t,lo,hi,gm,gh,gf,gl,gv⟩
 ·exact .inl h1
 ·exact .inr ⟨g0,c,arr,t,lo,hi,gm,gh,gf,gl,fun i row j v h1 h2=>(gv i row j v h1 h2).weak hf⟩
structure Pn (h:ak) (m:Nat) (kp:List Nat) (ids bor:List Nat):Prop where
 flo: ∀b,b<m→ids[b]? =some b
 fkp: ∀b,b∈kp→ids[m+jV b kp]? =some b
 fbor: ∀b k,h b=some k→ ¬b<m→b∉kp→b∈bor
section
variable {h:ak} {m:Nat} {kp ids bor:List Nat}
theorem Hl (F:Pn h m kp ids bor) {v v':V} (hf:ni h m kp v=some v'):uQ h ids bor v v'∧okC v'=true:=by
 cases v with
 |sl b s n=>
  simp only [ni] at hf
  split at hf
  ·rename_i hb;cases hf;exact ⟨.sl b s n b (F.flo b hb),rfl⟩
  ·rename_i hb
   split at hf
   ·rename_i hk;cases hf;exact ⟨.sl b s n _ (F.fkp b hk),rfl⟩
   ·rename_i hk
    split at hf
    ·rename_i v1 bs hs
     cases hf
     simp only [kP] at hs
     split at hs
     ·rename_i k hkb
      split at hs
      ·rename_i hc
       cases hs
       exact ⟨.bor b s n k (F.fbor b k hkb hb hk) hkb hc.1 hc.2.1 hc.2.2,rfl⟩
      ·cases hs
     ·cases hs
    ·cases hf
 |ptr b i o n=>
  simp only [ni] at hf
  split at hf
  ·rename_i hb;cases hf;exact ⟨.ptr b i o n b (F.flo b hb),rfl⟩
  ·rename_i hb
   split at hf
   ·rename_i hk;cases hf;exact ⟨.ptr b i o n _ (F.fkp b hk),rfl⟩
   ·cases hf
 |fn f cs=>
  cases cs with
  |nil=>simp only [ni] at hf;cases hf;exact ⟨.fn f,rfl⟩
  |cons a b=>simp [ni] at hf
 |lit y=>simp only [ni] at hf;cases hf;exact ⟨.lit y,rfl⟩
 |imm e r=>simp only [ni] at hf;cases hf;exact ⟨.imm e r,rfl⟩
 |iptr r o=>simp only [ni] at hf;cases hf;exact ⟨.iptr r o,rfl⟩
 |undef=>simp only [ni] at hf;cases hf;exact ⟨.undef,rfl⟩
 |agg cs=>simp [ni] at hf
 |tup cs=>simp [ni] at hf
theorem Dy (F:Pn h m kp ids bor): ∀{cs cs':List V},q8 h m kp cs=some cs'→cs'.length=cs.length∧(∀(i:Nat) (v v':V),cs[i]? =some v→cs'[i]? =some v'→uQ h ids bor v v')∧cs'.all okC=true
 |[],cs',hf=>by
  simp [q8] at hf;subst hf
  exact ⟨rfl,(fun i v v' h=>by simp at h),rfl⟩
 |v::r,cs',hf=>by
  simp only [q8] at hf
  split at hf
  ·rename_i v1 r1 h1 h2
   cases hf
   obtain ⟨a1,a2⟩:=Hl F h1
   obtain ⟨b1,b2,b3⟩:=Dy F h2
   refine ⟨by simp [b1],fun i u u' hu hu'=> ?_,by simp [a2];simpa using b3⟩
   cases i with
   |zero=>simp at hu hu';subst hu;subst hu';exact a1
   |succ i=>exact b2 i u u' (by simpa using hu) (by simpa using hu')
  ·cases hf
theorem a1P (F:Pn h m kp ids bor) {v v':V} (hf:Du h m kp v=some v'):sY h ids bor v v'∧okA v'=true:=by
 have other:ni h m kp v=some v'→sY h ids bor v v'∧okA v'=true:=fun h1=>by
  obtain ⟨a,b⟩:=Hl F h1
  refine ⟨.cell _ _ a, ?_⟩
  cases v'<;>first|exact b| (simp [okC] at b)
 cases v with
 |agg cs=>
  simp only [Du] at hf
  split at hf
  ·rename_i cs' h1
   cases hf
   obtain ⟨a,b,c⟩:=Dy F h1
   exact ⟨.agg _ _ a b,c⟩
  ·cases hf
 |tup cs=>simp [Du] at hf
 |lit y=>exact other hf
 |ptr b i o n=>exact other hf
 |sl b s n=>exact other hf
 |imm e r=>exact other hf
 |iptr r o=>exact other hf
 |fn f cs=>exact other hf
 |undef=>exact other hf
theorem Nc (F:Pn h m kp ids bor): ∀{cs cs':List V},ug h m kp cs=some cs'→cs'.length=cs.length∧(∀(i:Nat) (v v':V),cs[i]? =some v→cs'[i]? =some v'→sY h ids bor v v')∧cs'.all okA=true
 |[],cs',hf=>by
  simp [ug] at hf;subst hf
  exact ⟨rfl,(fun i v v' h=>by simp at h),rfl⟩
 |v::r,cs',hf=>by
  simp only [ug] at hf
  split at hf
  ·rename_i v1 r1 h1 h2
   cases hf
   obtain ⟨a1,a2⟩:=a1P F h1
   obtain ⟨b1,b2,b3⟩:=Nc F h2
   refine ⟨by simp [b1],fun i u u' hu hu'=> ?_,by simp [a2];simpa using b3⟩
   cases i with
   |zero=>simp at hu hu';subst hu;subst hu';exact a1
   |succ i=>exact b2 i u u' (by simpa using hu) (by simpa using hu')
  ·cases hf
theorem a38 (F:Pn h m kp ids bor) {v v':V} (hf:DG h m kp v=some v'):sY h ids bor v v'∧okD v'=true:=by
 have other:ni h m kp v=some v'→sY h ids bor v v'∧okD v'=true:=fun h1=>by
  obtain ⟨a,b⟩:=Hl F h1
  refine ⟨.cell _ _ a, ?_⟩
  cases v' with
  |fn f cs=>
   cases cs with
   |nil=>rfl
   |cons c d=>simp [okC] at b
  |_=>exact b
 cases v with
 |fn f cs=>
  cases cs with
  |nil=>exact other hf
  |cons c cs=>
   simp only [DG] at hf
   split at hf
   ·rename_i cs' h1
    cases hf
    obtain ⟨a,b,c⟩:=Dy F h1
    exact ⟨.fn f _ _ a b,c⟩
   ·cases hf
 |_=>exact other hf
theorem My (F:Pn h m kp ids bor): ∀{cs cs':List V},vW h m kp cs=some cs'→cs'.length=cs.length∧(∀(i:Nat) (v v':V),cs[i]? =some v→cs'[i]? =some v'→sY h ids bor v v')∧cs'.all okD=true
 |[],cs',hf=>by
  simp [vW] at hf;subst hf
  exact ⟨rfl,(fun i v v' h=>by simp at h),rfl⟩
 |v::r,cs',hf=>by
  simp only [vW] at hf
  split at hf
  ·rename_i v1 r1 h1 h2
   cases hf
   obtain ⟨a1,a2⟩:=a38 F h1
   obtain ⟨b1,b2,b3⟩:=My F h2
   refine ⟨by simp [b1],fun i u u' hu hu'=> ?_,by simp [a2];simpa using b3⟩
   cases i with
   |zero=>simp at hu hu';subst hu;subst hu';exact a1
   |succ i=>exact b2 i u u' (by simpa using hu) (by simpa using hu')
  ·cases hf
theorem Gj (F:Pn h m kp ids bor): ∀{rs rs':List (List V)},Bm h m kp rs=some rs'→rs'.length=rs.length∧(∀(i:Nat) (row row':List V),rs[i]? =some row→rs'[i]? =some row'→row'.length=row.length∧ ∀(j:Nat) (v v':V),row[j]? =some v→row'[j]? =some v'→sY h ids bor v v')∧
 ∀row∈rs', ∀v∈row,okD v=true
 |[],rs',hf=>by
  simp [Bm] at hf;subst hf
  exact ⟨rfl,(fun i v v' h=>by simp at h),fun row hr=>by simp at hr⟩
 |v::r,rs',hf=>by
  simp only [Bm] at hf
  split at hf
  ·rename_i v1 r1 h1 h2
   cases hf
   obtain ⟨a1,a2,a3⟩:=My F h1
   obtain ⟨b1,b2,b3⟩:=Gj F h2
   refine ⟨by simp [b1],fun i u u' hu hu'=> ?_,fun row hr=> ?_⟩
   ·cases i with
    |zero=>simp at hu hu';subst hu;subst hu';exact ⟨a1,a2⟩
    |succ i=>exact b2 i u u' (by simpa using hu) (by simpa using hu')
   ·rcases List.mem_cons.1 hr with rfl|hr
    ·exact fun v hv=>List.all_eq_true.1 a3 v hv
    ·exact b3 row hr
  ·cases hf
theorem a1x (F:Pn h m kp ids bor) {k k0:Blk} (hf:SP h m kp k=some k0):VO h ids bor k k0∧okB k0:=by
 unfold SP at hf
 split at hf
 ·rename_i ho
  cases hf
  exact ⟨⟨rfl,rfl,rfl,(fun _=>rfl),(fun h1=>by rw [ho] at h1;cases h1)⟩,fun h1=>by rw [ho] at h1;cases h1⟩
 ·rename_i ho
  split at hf
  ·rename_i rows h1
   cases hf
   obtain ⟨a,b,c⟩:=Gj F h1
   exact ⟨⟨rfl,rfl,a,(fun h2=>absurd h2 ho),(fun _ i row row' g1 g2=>b i row row' g1 g2)⟩,fun _=>c⟩
  ·cases hf
theorem LC (F:Pn h m kp ids bor): ∀{l:List Nat} {bs:List Blk},tl h m kp l=some bs→l.length=bs.length∧(∀(i b:Nat),l[i]? =some b→ ∃k k0,h b=some k∧bs[i]? =some k0∧VO h ids bor k k0)∧ ∀k∈bs,okB k
 |[],bs,hf=>by
  simp [tl] at hf;subst hf
  exact ⟨rfl,(fun i b h=>by simp at h),fun k hk=>by simp at hk⟩
 |b::r,bs,hf=>by
  simp only [tl] at hf
  split at hf
  ·rename_i k hk
   split at hf
   ·rename_i k' r' h1 h2
    cases hf
    obtain ⟨a1,a2⟩:=a1x F h1
    obtain ⟨b1,b2,b3⟩:=LC F h2
    refine ⟨by simp [b1],fun i b' hb=> ?_,fun k2 hk2=> ?_⟩
    ·cases i with
     |zero=>simp at hb;subst hb;exact ⟨k,k',hk,rfl,a1⟩
     |succ i=>simpa using b2 i b' (by simpa using hb)
    ·rcases List.mem_cons.1 hk2 with rfl|hk2
     ·exact a2
     ·exact b3 k2 hk2
   ·cases hf
  ·cases hf
end
theorem Ue {α:Type}: ∀{m:List (Nat×α)} {b:Nat} {k:α},dv m b=some k→b∈m.map (·.1)
 | (j,u)::r,b,k,h=>by
   simp only [dv] at h
   split at h
   ·rename_i e;subst e;simp
   ·simp only [List.map_cons,List.mem_cons];exact .inr (Ue h)
theorem DY (m:Nat): ∀(r acc:List Nat),acc.Nodup→(∀b∈acc,m≤b)→(zV m acc r).Nodup∧ ∀b∈zV m acc r,m≤b
 |[],acc,h1,h2=>⟨h1,h2⟩
 |x::r,acc,h1,h2=>by
  simp only [zV]
  split
  ·rename_i hx
   refine DY m r _ ?_ (fun b hb=> ?_)
   ·unfold ft
    split
    ·exact h1
    ·rename_i hn
     exact List.nodup_append.2 ⟨h1,by simp,fun a ha b hb e=>by simp at hb;subst hb;subst e;exact hn ha⟩
   ·unfold ft at hb
    split at hb
    ·exact h2 b hb
    ·rcases List.mem_append.1 hb with h|h
     ·exact h2 b h
     ·simp at h;subst h;exact hx
  ·exact DY m r acc h1 h2
section
variable {P:Program} {μ:Mu} {w:World} {a:Act}
def KK (a:Act):ResultVar→Sem Value
 | .tmp t=>pure (a.tmps.getD t undef)
 | .cell b t=>do loadVar t (←asAddr (a.tmps.getD b undef))
theorem T9 [Frame] {st:St} {n:Nat} (I:Inv n st.get st.heap μ a w): ∀{rs:List ResultVar} {as:List GE} {vs:List V},ol P rs=some as→iN st as=some vs→
 ∃xs:List Value,(rs.mapM (KK a)).run P w= .ok xs w∧xs.length=vs.length∧ ∀(i:Nat) (v:V),vs[i]? =some v→aj μ st.heap w v (xs.getD i undef)
 |[],as,vs,hc,hr=>by
  simp [ol] at hc;subst hc
  simp [iN] at hr;subst hr
  exact ⟨[],rfl,rfl,fun i v h=>by simp at h⟩
 |r::rs,as,vs,hc,hr=>by
  have tail: ∀{x:GE} {as':List GE},as=x::as'→ol P rs=some as'→ ∃v vs',vs=v::vs'∧IE st x=some v∧iN st as'=some vs':=by
   intro x as' e _
   subst e
   simp only [iN] at hr
   split at hr
   ·rename_i v vs' h1 h2;cases hr;exact ⟨v,vs',rfl,h1,h2⟩
   ·cases hr
  cases r with
  |tmp t=>
   simp only [ol] at hc
   obtain ⟨as',ha,rfl⟩:=map_some hc
   obtain ⟨v,vs',rfl,h1,h2⟩:=tail rfl ha
   obtain ⟨xs,e1,e2,e3⟩:=T9 I ha h2
   simp only [IE,Option.some.injEq] at h1
   refine ⟨a.tmps.getD t undef::xs, ?_,by simp [e2],fun i u hu=> ?_⟩
   ·rw [List.mapM_cons]
    simp only [KK,Sem.run_bind,Sem.run_pure,Result.andThen_ok,e1]
   ·cases i with
    |zero=>simp at hu;subst hu;rw [←h1];exact I.E t
    |succ i=>exact e3 i u (by simpa using hu)
  |cell b t=>
   simp only [ol] at hc
   split at hc
   ·rename_i g as' hg ha
    cases hc
    obtain ⟨v,vs',rfl,h1,h2⟩:=tail rfl ha
    obtain ⟨xs,e1,e2,e3⟩:=T9 I ha h2
    simp only [IE] at h1
    obtain ⟨c,off,y,hx,hy,hv⟩:=QF (P:=P) (t:=t) I.H (I.E b) hg h1
    refine ⟨y::xs, ?_,by simp [e2],fun i u hu=> ?_⟩
    ·have e0:(KK a (.cell b t)).run P w= .ok y w:=by
      simp only [KK,Sem.run_bind,hx,asAddr,Sem.run_pure,Result.andThen_ok,hy]
     rw [List.mapM_cons]
     simp only [Sem.run_bind,e0,Sem.run_pure,Result.andThen_ok,e1]
    ·cases i with
     |zero=>simp at hu;subst hu;exact hv
     |succ i=>exact e3 i u (by simpa using hu)
   ·cases hc
theorem WE [Frame] {fn:Func} {st:St} {n:Nat} (I:Inv n st.get st.heap μ a w) {as:List GE} {vs:List V} (hc:ol P fn.results.toList=some as) (hr:iN st as=some vs):
 ∃xs:List Value,(results fn a.tmps).run P w= .ok (match xs with
  |[x]=>x
  |xs=> .tuple xs.toArray) w∧xs.length=vs.length∧ ∀(i:Nat) (v:V),vs[i]? =some v→aj μ st.heap w v (xs.getD i undef):=by
 obtain ⟨xs,h1,h2,h3⟩:=T9 I hc hr
 refine ⟨xs, ?_,h2,h3⟩
 have hf:results fn a.tmps=(do
  let vs ←fn.results.mapM (KK a)
  pure (if h:vs.size=1 then vs[0] else .tuple vs)):=by
  unfold results
  congr 2
 rw [hf,Array.mapM_eq_mapM_toList]
 simp only [Sem.run_bind,Sem.run_map,h1,Result.andThen_ok]
 simp only [Sem.run_pure,List.size_toArray]
 match xs with
 |[]=>rfl
 |[x]=>rfl
 |x::y::r=>rfl
end
section
variable {P:Program} {T:Tab} {ow:dl}
structure Qj (P:Program) (T:Tab):Prop where
 code: ∀f af,T f=some (.code af)→ ∃fn hn,P.funcs[f]? =some fn∧(fn.name== "runtime.NumGoroutine")=false∧sJ P fn hn=some af
 ext: ∀f g,T f=some (.ext g)→ ∀args blks r blks',g args blks=some (r,blks')→ ∀(F:Frame) (μ:Mu) (w:World) (xs:Array Value), @aE F μ (bf blks) w→xs.size=args.length→
  (∀(i:Nat) (v:V),args[i]? =some v→ @aj F μ (bf blks) w v (xs.getD i undef))→Reach P f xs w (ja F μ (bf blks) w r blks')
theorem zM {α:Type}: ∀(l:List α) (n i:Nat),dv (nh n l) i=if n≤i then l[i-n]? else none
 |[],n,i=>by simp [nh,dv]
 |x::r,n,i=>by
  simp only [nh,dv]
  by_cases e:n=i
  ·subst e;simp
  ·rw [if_neg e,zM r (n+1) i]
   by_cases h1:n≤i
   ·rw [if_pos h1,if_pos (by omega)]
    have:i-n=(i-(n+1))+1:=by omega
    rw [this];simp
   ·rw [if_neg h1,if_neg (by omega)]
theorem SZ {F:Frame} {μ0:Mu} {w0:World} {blks:List Blk} {n:Nat} {af:ag} {st:St} {μ:Mu} {a:Act} {w:World} {r:V} {blks':List Blk} {fn:Func} (I: @Inv F n st.get st.heap μ a w) (S: @jB F μ0 (bf blks) w0 μ st.heap w)
 (hc:ol P fn.results.toList=some af.results) {e:ah} (he:e= .normal∨e= .ret) (hf:jN af blks.length (some (e,st))=some (r,blks')):
 ∃v,(results fn a.tmps).run P w= .ok v w∧ja F μ0 (bf blks) w0 r blks' v w:=by
 have hf':(match iN st af.results with
  |none=>none
  |some vs=>match ug st.heap blks.length (if af.keep then ip af.raw st.heap blks.length vs else []) vs,tl st.heap blks.length (if af.keep then ip af.raw st.heap blks.length vs else []) (List.range blks.length++(if af.keep then ip af.raw st.heap blks.length vs else [])) with
   |some vs',some bs=>if blks.length≤1000 then some (Zi vs',bs) else none
   |_,_=>none)=some (r,blks'):=by
  rcases he with rfl|rfl<;>exact hf
 clear hf
 split at hf'
 ·cases hf'
 ·rename_i vs hvs
  generalize hkp:(if af.keep then ip af.raw st.heap blks.length vs else [])=kp at hf'
  split at hf'
  ·rename_i vs' bs h1 h2
   split at hf'
   ·rename_i hm
    cases hf'
    have hks:kp.Nodup∧ ∀b∈kp,blks.length≤b:=by
     rw [←hkp]
     split
     ·exact DY _ _ [] List.nodup_nil (fun b hb=>by cases hb)
     ·exact ⟨List.nodup_nil,fun b hb=>by cases hb⟩
    have hkge:=hks.2
    let ids:=List.range blks.length++kp
    let bor:=(st.m.map (·.1)).filter (fun b=>decide (b∉ids))
    have hmem: ∀b,b∈ids↔b<blks.length∨b∈kp:=by
     intro b
     simp only [ids,List.mem_append,List.mem_range]
    have FI:Pn st.heap blks.length kp ids bor:=by
     refine ⟨fun b hb=> ?_,fun b hb=> ?_,fun b k hk h3 h4=> ?_⟩
     ·simp only [ids]
      rw [List.getElem?_append_left (by simpa using hb),List.getElem?_range hb]
     ·simp only [ids]
      rw [List.getElem?_append_right (by simp),List.length_range,Nat.add_sub_cancel_left]
      exact lL hb
     ·simp only [bor,List.mem_filter,decide_eq_true_eq]
      refine ⟨Ue hk,fun h5=> ?_⟩
      rcases (hmem b).1 h5 with h6|h6
      ·exact h3 h6
      ·exact h4 h6
    obtain ⟨a1,a2,a3⟩:=Nc FI h1
    obtain ⟨b1,b2,b3⟩:=LC FI h2
    have W:Way st.heap ids bor blks':=by
     refine ⟨?_,b1,b2,fun b hb h3=> ?_,fun b hb=> ?_⟩
     ·simp only [ids]
      rw [List.nodup_append]
      refine ⟨List.nodup_range,hks.1,fun x hx y hy=> ?_⟩
      rw [List.mem_range] at hx
      have:=hkge y hy
      omega
     ·simp only [bor,List.mem_filter,decide_eq_true_eq] at hb
      exact hb.2 h3
     ·simp only [bor,List.mem_filter] at hb
      have: ∀(m:List (Nat×Blk)),b∈m.map (·.1)→ ∃k,dv m b=some k:=by
       intro m
       induction m with
       |nil=>intro h;simp at h
       |cons x t ih=>
        intro h
        obtain ⟨j,k⟩:=x
        simp only [dv]
        by_cases e:j=b
        ·exact ⟨k,by rw [if_pos e]⟩
        ·rw [if_neg e]
         refine ih ?_
         simp only [List.map_cons,List.mem_cons] at h
         exact h.resolve_left (fun e'=>e e'.symm)
      exact this st.m hb.1
    have hfr: ∀c,F.fr c→(jC F μ ids bor).fr c:=fun c hc=> .inl hc
    have IH: @aE F μ st.heap w:= @Inv.H F _ _ _ _ _ _ I
    have H1:=(TE W IH).weak hfr
    obtain ⟨xs,hrun,hxl,hxv⟩:= @WE P μ w a F fn st n I af.results vs hc hvs
    have hrel: ∀(i:Nat) (v:V),vs'[i]? =some v→ @aj F (jW μ ids) (bf blks') w v (xs.getD i undef):=by
     intro i v hi
     obtain ⟨v0,h0⟩:=cH (l:=vs) (i:=i) (by rw [←a1];exact cu hi)
     exact (QO W IH (a2 i v0 v h0 hi) (hxv i v0 h0)).weak hfr
    have SC: @Chg F μ0 (bf blks) w0 μ st.heap w:= @jB.C F _ _ _ _ _ _ S
    have hsub: ∀i c,jW μ ids i=some c→ ∃b,μ b=some c:=fun i c hi=>by
     obtain ⟨b,_,hb⟩:=wX hi;exact ⟨b,hb⟩
    have hev: @jc F μ w (jW μ ids) w:= @jc.mk F _ _ _ _ rfl rfl rfl (Nat.le_refl _) (fun c _ hs=>⟨rfl,fun i hi=>by
     obtain ⟨b,hb⟩:=hsub i c hi;exact hs.1 b hb,hs.2⟩) (fun _ _=>rfl)
    refine ⟨_,hrun,jW μ ids,H1, @Chg.mk F _ _ _ _ _ _ (@jc.trans F _ _ _ _ _ _ (LK SC) hev) (fun b k hk=> ?_), ?_, ?_,b3⟩
    ·have hb:b<blks.length:=cu hk
     obtain ⟨k1,hk1,hr1⟩:=a5r SC b k hk
     obtain ⟨k2,k0,g1,g2,L⟩:=b2 b b (FI.flo b hb)
     rw [hk1] at g1;cases g1
     refine ⟨k0,g2, ?_⟩
     have:jW μ ids b=μ b:=by simp [jW,FI.flo b hb]
     rw [L.esz,L.len,this]
     exact hr1
    ·have hl2:xs.length=vs'.length:=by rw [hxl,a1]
     match vs',xs,hl2,hrel with
     |[],[],_,_=>exact @aj.tup F _ _ _ [] #[] rfl (fun i v h=>by simp at h)
     |[v],[x],_,hr2=>exact hr2 0 v rfl
     |v::v2::t,x::x2::t2,hl3,hr2=>
      exact @aj.tup F _ _ _ (v::v2::t) (x::x2::t2).toArray (by simpa using hl3) (fun i u hu=>by
       have:=hr2 i u hu
       rw [List.getD_eq_getElem?_getD] at this
       rw [Array.getD_eq_getD_getElem?,List.getElem?_toArray]
       exact this)
    ·match vs',a3 with
     |[],_=>rfl
     |[v],h3=>
      have:okA v=true:=by simpa using h3
      show okR v=true
      cases v<;>first|exact this| (simp [okA,okC] at this)
     |v::v2::t,h3=>exact h3
   ·cases hf'
  ·cases hf'
theorem KA (hT:Qj P T) {n:Nat} (hn0:gA P (cJ T ow n)) {f:FuncId} {af:ag} (haf:T f=some (.code af)) {F:Frame} {μ:Mu} {w:World} {xs:Array Value} {args:List V} {blks:List Blk} {r:V} {blks':List Blk}
 (h:jN af blks.length (bA (cJ T ow n) ow n af.body (start args blks))=some (r,blks')) (H: @aE F μ (bf blks) w) (hl:xs.size=args.length)
 (hv: ∀(i:Nat) (v:V),args[i]? =some v→ @aj F μ (bf blks) w v (xs.getD i undef)):Reach P f xs w (ja F μ (bf blks) w r blks'):=by
 obtain ⟨fn,hn,hfn,hname,hcomp⟩:=hT.code f af haf
 unfold sJ at hcomp
 split at hcomp
 ·cases hcomp
 ·rename_i c hb
  split at hcomp
  ·rename_i ac rs hcc hcr
   split at hcomp
   ·rename_i hfol
    cases hcomp
    right
    refine ⟨?_,calls_of_wp hfn hb ?_⟩
    ·have hname': ¬fn.name= "runtime.NumGoroutine" :=by simpa using hname
     have hp:(program).run P w= .ok P w:=rfl
     simp [callFunc,Sem.run_bind,hp,hfn,hname',hb]
    ·cases he:bA (cJ T ow n) ow n ac (start args blks) with
     |none=>rw [he] at h;simp [jN] at h
     |some p=>
      obtain ⟨e,st⟩:=p
      rw [he] at h
      have hex:e= .normal∨e= .ret:=by
       cases e with
       |normal=>exact .inl rfl
       |ret=>exact .inr rfl
       |exit id=>simp [jN] at h
      have hm:blks.length≤1000:=by
       revert h
       rcases hex with rfl|rfl<;>
       ·simp only [jN]
        intro h
        split at h
        ·cases h
        ·split at h
         ·split at h
          ·assumption
          ·cases h
         ·cases h
      have hheap:(start args blks).heap=bf blks:=by
       funext i
       show dv (nh 0 blks) i=blks[i]?
       rw [zM];simp
      have hget: ∀t,(start args blks).get t=(args[t]?).getD .undef:=by
       intro t
       show (dv (nh 0 args) t).getD .undef=_
       rw [zM];simp
      refine @YO P (cJ T ow n) ow fn.ntmps hn F hn0 hfol μ (bf blks) w n c ac (start args blks) st e μ _ w _ hcc he ?_ ?_ (fun μ' a' w' I' S'=> ?_)
      ·refine @Inv.mk F _ _ _ _ _ _ (by rw [hheap];exact H) (fun t=> ?_) (by simp;omega) rfl
       rw [hget,hheap]
       cases ht:args[t]? with
       |none=>exact @aj.unk F _ _ _ _
       |some v=>
        have:=hv t v ht
        have hlt:=cu ht
        rw [Array.getD_eq_getD_getElem?,Array.getElem?_append_left (by omega), ←Array.getD_eq_getD_getElem?]
        exact this
      ·rw [hheap]
       exact @jB.mk F _ _ _ _ _ _ (@Chg.refl F _ _ _) (fun b k hk=>by have:=cu hk;omega)
      ·obtain ⟨v,h1,h2⟩:=SZ I' S' hcr hex h
       have hdf:a'.defers=[]:= @Inv.df F _ _ _ _ _ _ I'
       rcases hex with rfl|rfl<;>exact ⟨hdf,v,h1,h2⟩
   ·cases hcomp
  ·cases hcomp
theorem AP (hT:Qj P T): ∀n,gA P (cJ T ow n)
 |0=>fun f args blks r blks' h=>by simp [cJ] at h
 |n+1=>fun f args blks r blks' h F μ w xs H hl hv=>by
  simp only [cJ] at h
  split at h
  ·cases h
  ·rename_i af haf
   have core: ∀(args:List V) (blks:List Blk) (r:V) (blks':List Blk),jN af blks.length (bA (cJ T ow n) ow n af.body (start args blks))=some (r,blks')→
    @aE F μ (bf blks) w→xs.size=args.length→(∀(i:Nat) (v:V),args[i]? =some v→ @aj F μ (bf blks) w v (xs.getD i undef))→Reach P f xs w (ja F μ (bf blks) w r blks'):=by
    clear h H hl hv r blks' args blks
    intro args blks r blks' h H hl hv
    exact KA hT (AP hT n) haf h H hl hv
   cases hfin:jN af blks.length (bA (cJ T ow n) ow n af.body (start args blks)) with
   |none=>rw [hfin] at h;cases h
   |some p=>
    obtain ⟨r0,bs0⟩:=p
    rw [hfin] at h
    simp only [UP,Option.some.injEq,Prod.mk.injEq] at h
    obtain ⟨rfl,rfl⟩:=h
    have hp:=core args blks r0 bs0 hfin H hl hv
    cases hraw:af.raw with
    |true=>exact hp.mono (fun x w' hp=>hp.czR)
    |false=>exact hp.mono (fun x w' hp=>hp.czR.czB)
  ·rename_i g hg
   exact hT.ext f g hg args blks r blks' h F μ w xs H hl hv
theorem Km (hT:Qj P T):gA P (Call T ow):=fun f args blks r blks' h=>by
 obtain ⟨n,hn⟩:=JV h
 exact AP hT n f args blks r blks' hn
end
end Go.AI
