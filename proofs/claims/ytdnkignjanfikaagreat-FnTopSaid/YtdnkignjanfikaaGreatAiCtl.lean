/- Part. -/
import Derived.Test.YtdnkignjanfikaaGreatAiDraw
import Derived.Test.YtdnkignjanfikaaGreatAiLim
set_option linter.unusedVariables false
set_option linter.unusedSimpArgs false
namespace Go.AI
section
def dd.real:dd->Exit
 | .normal=> .normal
 | .exit id=> .exit id
 | .ret=> .ret
theorem Mq {P:Program} {Q:Exit->Act->World->Prop} {c:Code} (T:Nat->Act->World->Prop) (i: ∀a w, ¬T 0 a w)
 (round: ∀k a w,T (k+1) a w->c.wp P (Exit.then (fun a' w'=>T k a' w') Q) a w) {k:Nat} {a:Act} {w:World} (h0:T k a w):(Code.loop c).wp P Q a w:=by
 intro b kk cs
 have key: ∀n a w,T n a w-> ∃e a' w',Q e a' w'/\Arrives P (lone (b.at a (.code c:: .inLoop c::kk)) cs w) b kk cs e a' w':=by
  intro n
  induction n with
  |zero=>exact fun a w h=>absurd h (i a w)
  |succ n ih=>
   intro a w j
   obtain ⟨e,a₁,w₁,f,d⟩:=round n a w j b (.inLoop c::kk) cs
   cases e with
   |normal=>
    obtain ⟨e₂,a₂,w₂,hq₂,harr₂⟩:=ih a₁ w₁ f
    exact ⟨e₂,a₂,w₂,hq₂,.of_steps (Steps.trans d (.one step_inLoop)) harr₂⟩
   |exit id=>exact ⟨_,a₁,w₁,f,.pass (x:= .inLoop c) rfl (fun _ _=> .inl sm) d⟩
   |goto l=>exact ⟨_,a₁,w₁,f,.pass (x:= .inLoop c) rfl (fun _ _=> .inl sm) d⟩
   |ret=>exact ⟨_,a₁,w₁,f,.pass (x:= .inLoop c) rfl (fun _ _=> .inl sm) d⟩
   |panic ch=>exact ⟨_,a₁,w₁,f,.pass (x:= .inLoop c) rfl (fun _ _=> .inl sm) d⟩
   |outgrown=>exact ⟨_,a₁,w₁,f,.pass (x:= .inLoop c) rfl (fun _ _=> .inl sm) d⟩
 obtain ⟨e,a',w',f,d⟩:=key k a w h0
 exact ⟨e,a',w',f,.of_steps (.one step_loop) d⟩
section
variable {P:Program} {C:cr} {ow:ff} {n:Nat} {hn:Jt}
theorem vC [Frame] {μ0:Mu} {h0:ba} {w0:World} {id:Nat} {ac:aU} {a:Act} {w:World} {r:dd×St}: ∀(gs:List (Nat×dX)) (k:Nat) (st:St) (μ:Mu),dE C ow k (AK gs id ac) st=some r->Inv n st.get st.heap μ a w->nX μ0 h0 w0 μ st.heap w->
 ∃k' st1 μ1,k'<=k/\dE C ow k' ac st1=some r/\Inv n st1.get st1.heap μ1 a w/\nX μ0 h0 w0 μ1 st1.heap w
 |[],k,st,μ,h,I,S=>⟨k,st,μ,am _,h,I,S⟩
 | (i,g)::gs,k,st,μ,h,I,S=>by
   simp only [AK,List.foldr_cons] at h
   split at h
   ·cases k with
    |zero=>simp [dE] at h
    |succ k=>
     simp only [dE] at h
     split at h
     ·rename_i st' b
      obtain ⟨μ',I',S'⟩:=ON b I S
      obtain ⟨k',st1,μ1,d,c,I1,S1⟩:=vC gs k st' μ' h I' S'
      exact ⟨k',st1,μ1,by omega,c,I1,S1⟩
     ·cases h
   ·exact vC gs k st μ h I S
theorem RG [Frame] (u:ny P C) (z:P.follows .mixedOrders=true) {μ0:Mu} {h0:ba} {w0:World}: ∀(k:Nat) (c:Code) (ac:aU) (st st':St) (e:dd) (μ:Mu) (a:Act) (w:World) (Q:Exit->Act->World->Prop),
 ge P n hn c=some ac->dE C ow k ac st=some (e,st')->Inv n st.get st.heap μ a w->nX μ0 h0 w0 μ st.heap w->
 (∀μ' a' w',Inv n st'.get st'.heap μ' a' w'->nX μ0 h0 w0 μ' st'.heap w'->Q e.real a' w')->c.wp P Q a w:=by
 intro k
 induction k using Nat.strongRecOn with
 |_ k ih=>
  intro c ac st st' e μ a w Q hc b I S K
  cases c with
  |skip=>
   simp only [ge,Option.some.injEq] at hc
   subst hc
   cases k with
   |zero=>simp [dE] at b
   |succ k=>simp only [dE,Option.some.injEq,Prod.mk.injEq] at b;obtain ⟨rfl,rfl⟩:=b;exact wp_skip (K μ a w I S)
  |exit id=>
   simp only [ge,Option.some.injEq] at hc
   subst hc
   cases k with
   |zero=>simp [dE] at b
   |succ k=>simp only [dE,Option.some.injEq,Prod.mk.injEq] at b;obtain ⟨rfl,rfl⟩:=b;exact wp_exit (K μ a w I S)
  |ret=>
   simp only [ge,Option.some.injEq] at hc
   subst hc
   obtain ⟨k',st1,μ1,v,f,I1,S1⟩:=vC _ k st μ b I S
   cases k' with
   |zero=>simp [dE] at f
   |succ k'=>simp only [dE,Option.some.injEq,Prod.mk.injEq] at f;obtain ⟨rfl,rfl⟩:=f;exact wp_ret (K μ1 a w I1 S1)
  |region id ops draw=>
   simp only [ge] at hc
   split at hc
   ·cases hc
   ·rename_i steps q
    cases draw with
    |true=>
     simp only [if_true] at hc
     split at hc
     ·rename_i hd
      cases hc
      obtain ⟨k',st1,μ1,v,f,I1,S1⟩:=vC _ k st μ b I S
      cases k' with
      |zero=>simp [dE] at f
      |succ k'=>
       simp only [dE] at f
       have h:e= .normal:=by
        unfold Cb at f
        split at f
        ·split at f
         ·cases f;rfl
         ·cases f
        ·cases f
       subst h
       exact (a0C u z q hd f I1 S1 K).2
     ·cases hc
    |false=>
     simp only [bC,if_false,Option.some.injEq] at hc
     subst hc
     obtain ⟨k',st1,μ1,v,f,I1,S1⟩:=vC _ k st μ b I S
     cases k' with
     |zero=>simp [dE] at f
     |succ k'=>
      simp only [dE] at f
      have h:e= .normal:=by
       unfold vI at f
       split at f
       ·cases f;rfl
       ·cases f
      subst h
      exact (Yf u q f I1 S1 K).2
  |seq x y=>
   simp only [ge] at hc
   split at hc
   ·rename_i ax ay i r
    cases hc
    cases k with
    |zero=>simp [dE] at b
    |succ k=>
     simp only [dE] at b
     refine wp_seq ?_
     cases d:dE C ow k ax st with
     |none=>rw [d] at b;cases b
     |some p=>
      obtain ⟨e1,st1⟩:=p
      rw [d] at b
      cases e1 with
      |normal=>exact ih k om x ax st st1 .normal μ a w _ i d I S (fun μ' a' w' I' S'=>ih k om y ay st1 st' e μ' a' w' Q r b I' S' K)
      |exit id=>cases b;exact ih k om x ax st st' (.exit id) μ a w _ i d I S (fun μ' a' w' I' S'=>K μ' a' w' I' S')
      |ret=>cases b;exact ih k om x ax st st' .ret μ a w _ i d I S (fun μ' a' w' I' S'=>K μ' a' w' I' S')
   ·cases hc
  |cond cd x y=>
   simp only [ge] at hc
   split at hc
   ·rename_i acd ax ay s i r
    cases hc
    cases k with
    |zero=>simp [dE] at b
    |succ k=>
     simp only [dE] at b
     have o:=bX I.E s
     split at b
     ·rename_i l
      rw [show Opd.ev st.get acd=_ from l] at o
      generalize t:a.eval cd=X at o
      cases o
      exact wp_cond_true t (ih k om x ax st st' e μ a w Q i b I S K)
     ·rename_i l
      rw [show Opd.ev st.get acd=_ from l] at o
      generalize t:a.eval cd=X at o
      cases o
      exact wp_cond_false t (ih k om y ay st st' e μ a w Q r b I S K)
     ·cases b
   ·cases hc
  |block id x=>
   simp only [ge] at hc
   obtain ⟨ax,i,rfl⟩:=vo hc
   cases k with
   |zero=>simp [dE] at b
   |succ k=>
    simp only [dE] at b
    refine wp_block ?_
    cases d:dE C ow k ax st with
    |none=>rw [d] at b;cases b
    |some p=>
     obtain ⟨e1,st1⟩:=p
     rw [d] at b
     cases e1 with
     |normal=>cases b;exact ih k om x ax st st' .normal μ a w _ i d I S (fun μ' a' w' I' S'=>K μ' a' w' I' S')
     |exit id'=>
      simp only at b
      refine ih k om x ax st st1 (.exit id') μ a w _ i d I S (fun μ' a' w' I' S'=> ?_)
      show (if id'=id then Q .normal a' w' else Q (.exit id') a' w')
      split at b
      ·rename_i m;cases b;rw [aa m];exact K μ' a' w' I' S'
      ·rename_i m;cases b;rw [a7 m];exact K μ' a' w' I' S'
     |ret=>cases b;exact ih k om x ax st st' .ret μ a w _ i d I S (fun μ' a' w' I' S'=>K μ' a' w' I' S')
  |loop x=>
   simp only [ge] at hc
   obtain ⟨ax,i,rfl⟩:=vo hc
   refine Mq (k:=k) (fun j a w=>j<=k/\ ∃st1 μ1,dE C ow j (.loop ax) st1=some (e,st')/\Inv n st1.get st1.heap μ1 a w/\nX μ0 h0 w0 μ1 st1.heap w) (fun a w=> ?_) (fun j a w hT=> ?_) ⟨am _,st,μ,b,I,S⟩
   ·rintro ⟨_,st1,μ1,f,_⟩;simp [dE] at f
   ·obtain ⟨hj,st1,μ1,f,I1,S1⟩:=hT
    simp only [dE] at f
    cases d:dE C ow j ax st1 with
    |none=>rw [d] at f;cases f
    |some p=>
     obtain ⟨e1,st2⟩:=p
     rw [d] at f
     cases e1 with
     |normal=>exact ih j om x ax st1 st2 .normal μ1 a w _ i d I1 S1 (fun μ' a' w' I' S'=>⟨by omega,st2,μ',f,I',S'⟩)
     |exit id=>cases f;exact ih j om x ax st1 st' (.exit id) μ1 a w _ i d I1 S1 (fun μ' a' w' I' S'=>K μ' a' w' I' S')
     |ret=>cases f;exact ih j om x ax st1 st' .ret μ1 a w _ i d I1 S1 (fun μ' a' w' I' S'=>K μ' a' w' I' S')
  |_=>simp [ge] at hc
end
end
section
theorem b7.weak {F F':Frame} (z: ∀c,F.fr c->F'.fr c) {μ:Mu} {h:ba} {w:World} {v:V} {x:Value} (t: @b7 F' μ h w v x): @b7 F μ h w v x:=by
 have st: ∀c, @sX F' μ c-> @sX F μ c:=fun c l=>⟨l.1,fun h1=>l.2 (z c h1)⟩
 induction t with
 |lit v=>exact @b7.lit F μ h w v
 |agg cs xs m d hc ih=>exact @b7.agg F μ h w cs xs m d ih
 |tup vs xs m hc ih=>exact @b7.tup F μ h w vs xs m ih
 |ptr b i o n x k p hn q u hd=>exact @b7.ptr F μ h w b i o n x k p hn q u hd
 |mp b x k p q hm=>exact @b7.mp F μ h w b x k p q hm
 |sl b s n x k p hn q u=>exact @b7.sl F μ h w b s n x k p hn q u
 |emp a=>exact @b7.emp F μ h w a
 |imm0 e a cap y=>exact @b7.imm0 F μ h w e a cap y
 |imm e rows c off cap ys y hr r hc l j d t ih=>exact @b7.imm F μ h w e rows c off cap ys y hr r hc (st c l) j d ih
 |iptr row o c off ys hc l j d t ih=>exact @b7.iptr F μ h w row o c off ys hc (st c l) j d ih
 |fn f caps xs m hc ih=>exact @b7.fn F μ h w f caps xs m ih
 |unk x=>exact @b7.unk F μ h w x
theorem bG.weak {F F':Frame} (d: ∀c,F.fr c->F'.fr c) {μ:Mu} {h:ba} {w:World} (H: @bG F' μ h w): @bG F μ h w:=by
 refine @bG.mk F μ h w (c34 H) (c3Z H) (fun b k f=> ?_) (a5Y H) (fun b c a e=>Yu H b c a (d c e)) (fun c hc=>c0y H c (d c hc))
 rcases b5M H b k f with a|⟨l,c,arr,t,lo,hi,gm,gh,gf,gl,gv⟩|a
 ·exact .inl a
 ·exact .inr (.inl ⟨l,c,arr,t,lo,hi,gm,gh,gf,gl,fun i row j v a e=>(gv i row j v a e).weak d⟩)
 ·exact .inr (.inr a)
structure Uu (h:ba) (m:Nat) (kp:List Nat) (ids bor:List Nat):Prop where
 flo: ∀b,b<m->ids[b]? =some b
 fkp: ∀b,b∈kp->ids[m+n3 b kp]? =some b
 fbor: ∀b k,h b=some k-> ¬b<m->b∉kp->b∈bor
section
variable {h:ba} {m:Nat} {kp ids bor:List Nat}
theorem MG (F:Uu h m kp ids bor) {v v':V} (c:vE h m kp v=some v'):B6 h ids bor v v'/\okC v'=true:=by
 cases v with
 |sl b s n=>
  simp only [vE] at c
  split at c
  ·rename_i d;cases c;exact ⟨.sl b s n b (F.flo b d),rfl⟩
  ·rename_i d
   split at c
   ·rename_i j;cases c;exact ⟨.sl b s n _ (F.fkp b j),rfl⟩
   ·rename_i j
    split at c
    ·rename_i v1 bs l
     cases c
     simp only [uO] at l
     split at l
     ·rename_i k p
      split at l
      ·rename_i hc
       cases l
       exact ⟨.bor b s n k (F.fbor b k p d j) p hc.1 hc.2.1 hc.2.2,rfl⟩
      ·cases l
     ·cases l
    ·cases c
 |ptr b i o n=>
  simp only [vE] at c
  split at c
  ·rename_i d;cases c;exact ⟨.ptr b i o n b (F.flo b d),rfl⟩
  ·rename_i d
   split at c
   ·rename_i j;cases c;exact ⟨.ptr b i o n _ (F.fkp b j),rfl⟩
   ·cases c
 |mp b=>
  simp only [vE] at c
  split at c
  ·rename_i d;cases c;exact ⟨.mp b b (F.flo b d),rfl⟩
  ·rename_i d
   split at c
   ·rename_i j;cases c;exact ⟨.mp b _ (F.fkp b j),rfl⟩
   ·cases c
 |fn f cs=>
  cases cs with
  |nil=>simp only [vE] at c;cases c;exact ⟨.fn f,rfl⟩
  |cons a b=>simp [vE] at c
 |lit y=>simp only [vE] at c;cases c;exact ⟨.lit y,rfl⟩
 |imm e r=>simp only [vE] at c;cases c;exact ⟨.imm e r,rfl⟩
 |iptr r o=>simp only [vE] at c;cases c;exact ⟨.iptr r o,rfl⟩
 |undef=>simp only [vE] at c;cases c;exact ⟨.undef,rfl⟩
 |agg cs=>simp [vE] at c
 |tup cs=>simp [vE] at c
theorem JW (F:Uu h m kp ids bor): ∀{cs cs':List V},yZ h m kp cs=some cs'->cs'.length=cs.length/\(∀(i:Nat) (v v':V),cs[i]? =some v->cs'[i]? =some v'->B6 h ids bor v v')/\cs'.all okC=true
 |[],cs',hf=>by
  simp [yZ] at hf;subst hf
  exact ⟨rfl,(fun i v v' h=>by simp at h),rfl⟩
 |v::r,cs',hf=>by
  simp only [yZ] at hf
  split at hf
  ·rename_i v1 r1 h1 h2
   cases hf
   obtain ⟨a1,a2⟩:=MG F h1
   obtain ⟨b1,b2,b3⟩:=JW F h2
   refine ⟨by simp [b1],fun i u u' hu hu'=> ?_,by simp [a2];simpa using b3⟩
   cases i with
   |zero=>simp at hu hu';subst hu;subst hu';exact a1
   |succ i=>exact b2 i u u' (by simpa using hu) (by simpa using hu')
  ·cases hf
theorem a6z (F:Uu h m kp ids bor) {v v':V} (d:Ll h m kp v=some v'):AY h ids bor v v'/\okA v'=true:=by
 have other:vE h m kp v=some v'->AY h ids bor v v'/\okA v'=true:=fun j=>by
  obtain ⟨a,b⟩:=MG F j
  refine ⟨.cell _ _ a, ?_⟩
  cases v'<;>first|exact b| (simp [okC] at b)
 cases v with
 |agg cs=>
  simp only [Ll] at d
  split at d
  ·rename_i cs' j
   cases d
   obtain ⟨a,b,c⟩:=JW F j
   exact ⟨.agg _ _ a b,c⟩
  ·cases d
 |tup cs=>simp [Ll] at d
 |lit y=>exact other d
 |ptr b i o n=>exact other d
 |sl b s n=>exact other d
 |imm e r=>exact other d
 |iptr r o=>exact other d
 |fn f cs=>exact other d
 |undef=>exact other d
 |mp b=>exact other d
theorem Re (F:Uu h m kp ids bor): ∀{cs cs':List V},z6 h m kp cs=some cs'->cs'.length=cs.length/\(∀(i:Nat) (v v':V),cs[i]? =some v->cs'[i]? =some v'->AY h ids bor v v')/\cs'.all okA=true
 |[],cs',hf=>by
  simp [z6] at hf;subst hf
  exact ⟨rfl,(fun i v v' h=>by simp at h),rfl⟩
 |v::r,cs',hf=>by
  simp only [z6] at hf
  split at hf
  ·rename_i v1 r1 h1 h2
   cases hf
   obtain ⟨a1,a2⟩:=a6z F h1
   obtain ⟨b1,b2,b3⟩:=Re F h2
   refine ⟨by simp [b1],fun i u u' hu hu'=> ?_,by simp [a2];simpa using b3⟩
   cases i with
   |zero=>simp at hu hu';subst hu;subst hu';exact a1
   |succ i=>exact b2 i u u' (by simpa using hu) (by simpa using hu')
  ·cases hf
theorem a9l (F:Uu h m kp ids bor) {v v':V} (e:NW h m kp v=some v'):AY h ids bor v v'/\okD v'=true:=by
 have other:vE h m kp v=some v'->AY h ids bor v v'/\okD v'=true:=fun i=>by
  obtain ⟨a,b⟩:=MG F i
  refine ⟨.cell _ _ a, ?_⟩
  cases v' with
  |fn f cs=>
   cases cs with
   |nil=>rfl
   |cons c d=>simp [okC] at b
  |_=>exact b
 cases v with
 |fn f cs=>
  cases cs with
  |nil=>exact other e
  |cons c cs=>
   simp only [NW] at e
   split at e
   ·rename_i cs' i
    cases e
    obtain ⟨a,b,c⟩:=JW F i
    exact ⟨.fn f _ _ a b,c⟩
   ·cases e
 |_=>exact other e
theorem Qg (F:Uu h m kp ids bor): ∀{cs cs':List V},BR h m kp cs=some cs'->cs'.length=cs.length/\(∀(i:Nat) (v v':V),cs[i]? =some v->cs'[i]? =some v'->AY h ids bor v v')/\cs'.all okD=true
 |[],cs',hf=>by
  simp [BR] at hf;subst hf
  exact ⟨rfl,(fun i v v' h=>by simp at h),rfl⟩
 |v::r,cs',hf=>by
  simp only [BR] at hf
  split at hf
  ·rename_i v1 r1 h1 h2
   cases hf
   obtain ⟨a1,a2⟩:=a9l F h1
   obtain ⟨b1,b2,b3⟩:=Qg F h2
   refine ⟨by simp [b1],fun i u u' hu hu'=> ?_,by simp [a2];simpa using b3⟩
   cases i with
   |zero=>simp at hu hu';subst hu;subst hu';exact a1
   |succ i=>exact b2 i u u' (by simpa using hu) (by simpa using hu')
  ·cases hf
theorem KP (F:Uu h m kp ids bor): ∀{rs rs':List (List V)},xG h m kp rs=some rs'->rs'.length=rs.length/\(∀(i:Nat) (row row':List V),rs[i]? =some row->rs'[i]? =some row'->row'.length=row.length/\ ∀(j:Nat) (v v':V),row[j]? =some v->row'[j]? =some v'->AY h ids bor v v')/\
 ∀row∈rs', ∀v∈row,okD v=true
 |[],rs',hf=>by
  simp [xG] at hf;subst hf
  exact ⟨rfl,(fun i v v' h=>by simp at h),fun row hr=>by simp at hr⟩
 |v::r,rs',hf=>by
  simp only [xG] at hf
  split at hf
  ·rename_i v1 r1 h1 h2
   cases hf
   obtain ⟨a1,a2,a3⟩:=Qg F h1
   obtain ⟨b1,b2,b3⟩:=KP F h2
   refine ⟨by simp [b1],fun i u u' hu hu'=> ?_,fun row hr=> ?_⟩
   ·cases i with
    |zero=>simp at hu hu';subst hu;subst hu';exact ⟨a1,a2⟩
    |succ i=>exact b2 i u u' (by simpa using hu) (by simpa using hu')
   ·rcases aW.1 hr with rfl|hr
    ·exact fun v hv=>an.1 a3 v hv
    ·exact b3 row hr
  ·cases hf
theorem a6J (F:Uu h m kp ids bor) {k j:Blk} (e:RI h m kp k=some j):YU h ids bor k j/\okB j:=by
 unfold RI at e
 split at e
 ·rename_i f
  cases e
  exact ⟨⟨rfl,rfl,rfl,(fun _=>rfl),(fun d=>by rw [f] at d;cases d)⟩,fun d=>by rw [f] at d;cases d⟩
 ·rename_i f
  split at e
  ·rename_i rows d
   cases e
   obtain ⟨a,b,c⟩:=KP F d
   exact ⟨⟨rfl,rfl,a,(fun l=>absurd l f),(fun _ i row row' n o=>b i row row' n o)⟩,fun _=>c⟩
  ·cases e
theorem Rd (F:Uu h m kp ids bor): ∀{l:List Nat} {bs:List Blk},xV h m kp l=some bs->l.length=bs.length/\(∀(i b:Nat),l[i]? =some b-> ∃k k0,h b=some k/\bs[i]? =some k0/\YU h ids bor k k0)/\ ∀k∈bs,okB k
 |[],bs,hf=>by
  simp [xV] at hf;subst hf
  exact ⟨rfl,(fun i b h=>by simp at h),fun k hk=>by simp at hk⟩
 |b::r,bs,hf=>by
  simp only [xV] at hf
  split at hf
  ·rename_i k hk
   split at hf
   ·rename_i k' r' h1 h2
    cases hf
    obtain ⟨a1,a2⟩:=a6J F h1
    obtain ⟨b1,b2,b3⟩:=Rd F h2
    refine ⟨by simp [b1],fun i b' hb=> ?_,fun k2 hk2=> ?_⟩
    ·cases i with
     |zero=>simp at hb;subst hb;exact ⟨k,k',hk,rfl,a1⟩
     |succ i=>simpa using b2 i b' (by simpa using hb)
    ·rcases aW.1 hk2 with rfl|hk2
     ·exact a2
     ·exact b3 k2 hk2
   ·cases hf
  ·cases hf
end
theorem Zm {α:Type}: ∀{m:List (Nat×α)} {b:Nat} {k:α},eH m b=some k->b∈m.map (·.1)
 | (j,u)::r,b,k,h=>by
   simp only [eH] at h
   split at h
   ·rename_i e;subst e;simp
   ·simp only [aM,aW];exact .inr (Zm h)
theorem K1 (m:Nat): ∀(r acc:List Nat),acc.Nodup->(∀b∈acc,m<=b)->(Fh m acc r).Nodup/\ ∀b∈Fh m acc r,m<=b
 |[],acc,h1,h2=>⟨h1,h2⟩
 |x::r,acc,h1,h2=>by
  simp only [Fh]
  split
  ·rename_i hx
   refine K1 m r _ ?_ (fun b hb=> ?_)
   ·unfold iA
    split
    ·exact h1
    ·rename_i hn
     exact lN.2 ⟨h1,by simp,fun a ha b hb e=>by simp at hb;subst hb;subst e;exact hn ha⟩
   ·unfold iA at hb
    split at hb
    ·exact h2 b hb
    ·rcases aJ.1 hb with h|h
     ·exact h2 b h
     ·simp at h;subst h;exact hx
  ·exact K1 m r acc h1 h2
section
variable {P:Program} {μ:Mu} {w:World} {a:Act}
def Q5 (a:Act):ResultVar->Sem Value
 | .tmp t=>pure (a.tmps.getD t undef)
 | .cell b t=>do loadVar t (<-asAddr (a.tmps.getD b undef))
theorem Y2 [Frame] {st:St} {n:Nat} (I:Inv n st.get st.heap μ a w): ∀{rs:List ResultVar} {as:List HZ} {vs:List V},uZ P rs=some as->o9 st as=some vs->
 ∃xs:List Value,(rs.mapM (Q5 a)).run P w= .ok xs w/\xs.length=vs.length/\ ∀(i:Nat) (v:V),vs[i]? =some v->b7 μ st.heap w v (xs.getD i undef)
 |[],as,vs,hc,hr=>by
  simp [uZ] at hc;subst hc
  simp [o9] at hr;subst hr
  exact ⟨[],rfl,rfl,fun i v h=>by simp at h⟩
 |r::rs,as,vs,hc,hr=>by
  have tail: ∀{x:HZ} {as':List HZ},as=x::as'->uZ P rs=some as'-> ∃v vs',vs=v::vs'/\IP st x=some v/\o9 st as'=some vs':=by
   intro x as' e _
   subst e
   simp only [o9] at hr
   split at hr
   ·rename_i v vs' h1 h2;cases hr;exact ⟨v,vs',rfl,h1,h2⟩
   ·cases hr
  cases r with
  |tmp t=>
   simp only [uZ] at hc
   obtain ⟨as',ha,rfl⟩:=vo hc
   obtain ⟨v,vs',rfl,h1,h2⟩:=tail rfl ha
   obtain ⟨xs,e1,e2,e3⟩:=Y2 I ha h2
   simp only [IP,Option.some.injEq] at h1
   refine ⟨a.tmps.getD t undef::xs, ?_,by simp [e2],fun i u hu=> ?_⟩
   ·rw [List.mapM_cons]
    simp only [Q5,Sem.run_bind,Sem.run_pure,Result.andThen_ok,e1]
   ·cases i with
    |zero=>simp at hu;subst hu;rw [<-h1];exact I.E t
    |succ i=>exact e3 i u (by simpa using hu)
  |cell b t=>
   simp only [uZ] at hc
   split at hc
   ·rename_i g as' hg ha
    cases hc
    obtain ⟨v,vs',rfl,h1,h2⟩:=tail rfl ha
    obtain ⟨xs,e1,e2,e3⟩:=Y2 I ha h2
    simp only [IP] at h1
    obtain ⟨c,off,y,hx,hy,hv⟩:=UI (P:=P) (t:=t) I.H (I.E b) hg h1
    refine ⟨y::xs, ?_,by simp [e2],fun i u hu=> ?_⟩
    ·have e0:(Q5 a (.cell b t)).run P w= .ok y w:=by
      simp only [Q5,Sem.run_bind,hx,asAddr,Sem.run_pure,Result.andThen_ok,hy]
     rw [List.mapM_cons]
     simp only [Sem.run_bind,e0,Sem.run_pure,Result.andThen_ok,e1]
    ·cases i with
     |zero=>simp at hu;subst hu;exact hv
     |succ i=>exact e3 i u (by simpa using hu)
   ·cases hc
theorem Zt [Frame] {fn:Func} {st:St} {n:Nat} (I:Inv n st.get st.heap μ a w) {as:List HZ} {vs:List V} (hc:uZ P fn.results.toList=some as) (b:o9 st as=some vs):
 ∃xs:List Value,(results fn a.tmps).run P w= .ok (match xs with
  |[x]=>x
  |xs=> .tuple xs.toArray) w/\xs.length=vs.length/\ ∀(i:Nat) (v:V),vs[i]? =some v->b7 μ st.heap w v (xs.getD i undef):=by
 obtain ⟨xs,c,d,e⟩:=Y2 I hc b
 refine ⟨xs, ?_,d,e⟩
 have f:results fn a.tmps=(do
  let vs <-fn.results.mapM (Q5 a)
  pure (if h:vs.size=1 then vs[0] else .tuple vs)):=by
  unfold results
  congr 2
 rw [f,Array.mapM_eq_mapM_toList]
 simp only [Sem.run_bind,Sem.run_map,c,Result.andThen_ok]
 simp only [Sem.run_pure,List.size_toArray]
 match xs with
 |[]=>rfl
 |[x]=>rfl
 |x::y::r=>rfl
end
section
variable {P:Program} {T:Tab} {ow:ff}
structure Bn (P:Program) (T:Tab):Prop where
 code: ∀f af,T f=some (.code af)-> ∃fn hn,P.funcs[f]? =some fn/\(fn.name== "runtime.NumGoroutine")=false/\uV P fn hn=some af
 ext: ∀f g,T f=some (.ext g)-> ∀args blks r blks',g args blks=some (r,blks')-> ∀(F:Frame) (μ:Mu) (w:World) (xs:Array Value), @bG F μ (bT blks) w->xs.size=args.length->
  (∀(i:Nat) (v:V),args[i]? =some v-> @b7 F μ (bT blks) w v (xs.getD i undef))->Reach P f xs w (pJ F μ (bT blks) w r blks')
theorem yi {α:Type}: ∀(l:List α) (n i:Nat),eH (u9 n l) i=if n<=i then l[i-n]? else none
 |[],n,i=>by simp [u9,eH]
 |x::r,n,i=>by
  simp only [u9,eH]
  by_cases e:n=i
  ·subst e;simp
  ·rw [a7 e,yi r (n+1) i]
   by_cases a:n<=i
   ·rw [aa a,aa om]
    have:i-n=(i-(n+1))+1:=by omega
    rw [this];simp
   ·rw [a7 a,a7 om]
theorem LQ {F:Frame} {μ0:Mu} {w0:World} {blks:List Blk} {n:Nat} {af:j4} {st:St} {μ:Mu} {a:Act} {w:World} {r:V} {blks':List Blk} {fn:Func} (I: @Inv F n st.get st.heap μ a w) (S: @nX F μ0 (bT blks) w0 μ st.heap w)
 (hc:uZ P fn.results.toList=some af.results) {e:dd} (he:e= .normal\/e= .ret) (hf:mP af blks.length (some (e,st))=some (r,blks')):
 ∃v,(results fn a.tmps).run P w= .ok v w/\pJ F μ0 (bT blks) w0 r blks' v w:=by
 have f:(match o9 st af.results with
  |none=>none
  |some vs=>match z6 st.heap blks.length (if af.keep then oj af.raw st.heap blks.length vs else []) vs,xV st.heap blks.length (if af.keep then oj af.raw st.heap blks.length vs else []) (List.range blks.length++(if af.keep then oj af.raw st.heap blks.length vs else [])) with
   |some vs',some bs=>if blks.length<=1000 then some (WA vs',bs) else none
   |_,_=>none)=some (r,blks'):=by
  rcases he with rfl|rfl<;>exact hf
 clear hf
 split at f
 ·cases f
 ·rename_i vs hvs
  generalize hkp:(if af.keep then oj af.raw st.heap blks.length vs else [])=kp at f
  split at f
  ·rename_i vs' bs h1 h2
   split at f
   ·rename_i hm
    cases f
    have q:kp.Nodup/\ ∀b∈kp,blks.length<=b:=by
     rw [<-hkp]
     split
     ·exact K1 _ _ [] lr (fun b d=>by cases d)
     ·exact ⟨lr,fun b d=>by cases d⟩
    have s:=q.2
    let ids:=List.range blks.length++kp
    let bor:=(st.m.map (·.1)).filter (fun b=>decide (b∉ids))
    have z: ∀b,b∈ids↔b<blks.length\/b∈kp:=by
     intro b
     simp only [ids,aJ,bS]
    have FI:Uu st.heap blks.length kp ids bor:=by
     refine ⟨fun b d=> ?_,fun b d=> ?_,fun b k hk o h4=> ?_⟩
     ·simp only [ids]
      rw [bc (by simpa using d),List.getElem?_range d]
     ·simp only [ids]
      rw [bt sm,dV,Nat.add_sub_cancel_left]
      exact vK d
     ·simp only [bor,k8,aA]
      refine ⟨Zm hk,fun h5=> ?_⟩
      rcases (z b).1 h5 with h6|h6
      ·exact o h6
      ·exact h4 h6
    obtain ⟨a1,a2,a3⟩:=Re FI h1
    obtain ⟨b1,b2,b3⟩:=Rd FI h2
    have W:Way st.heap ids bor blks':=by
     refine ⟨?_,b1,b2,fun b d o=> ?_,fun b d=> ?_⟩
     ·simp only [ids]
      rw [lN]
      refine ⟨List.nodup_range,q.1,fun x hx y hy=> ?_⟩
      rw [bS] at hx
      have:=s y hy
      omega
     ·simp only [bor,k8,aA] at d
      exact d.2 o
     ·simp only [bor,k8] at d
      have: ∀(m:List (Nat×Blk)),b∈m.map (·.1)-> ∃k,eH m b=some k:=by
       intro m
       induction m with
       |nil=>intro h;simp at h
       |cons x t ih=>
        intro h
        obtain ⟨j,k⟩:=x
        simp only [eH]
        by_cases e:j=b
        ·exact ⟨k,by rw [aa e]⟩
        ·rw [a7 e]
         refine ih ?_
         simp only [aM,aW] at h
         exact h.resolve_left (fun e'=>e e'.symm)
      exact this st.m d.1
    have hfr: ∀c,F.fr c->(sj F μ ids bor).fr c:=fun c hc=> .inl hc
    have IH: @bG F μ st.heap w:= @Inv.H F _ _ _ _ _ _ I
    have H1:=(Y4 W IH).weak hfr
    obtain ⟨xs,hrun,hxl,hxv⟩:= @Zt P μ w a F fn st n I af.results vs hc hvs
    have hrel: ∀(i:Nat) (v:V),vs'[i]? =some v-> @b7 F (qU μ ids) (bT blks') w v (xs.getD i undef):=by
     intro i v hi
     obtain ⟨v0,h0⟩:=fC (l:=vs) (i:=i) (by rw [<-a1];exact dS hi)
     exact (VS W IH (a2 i v0 v h0 hi) (hxv i v0 h0)).weak hfr
    have SC: @Chg F μ0 (bT blks) w0 μ st.heap w:= @nX.C F _ _ _ _ _ _ S
    have hsub: ∀i c,qU μ ids i=some c-> ∃b,μ b=some c:=fun i c hi=>by
     obtain ⟨b,_,d⟩:=D4 hi;exact ⟨b,d⟩
    have hev: @pI F μ w (qU μ ids) w:= @pI.mk F _ _ _ _ rfl rfl rfl (am _) (am _) (fun c _ hs=>⟨rfl,fun i hi=>by
     obtain ⟨b,d⟩:=hsub i c hi;exact hs.1 b d,hs.2⟩) (fun _ _=>rfl)
    refine ⟨_,hrun,qU μ ids,H1, @Chg.mk F _ _ _ _ _ _ (@pI.trans F _ _ _ _ _ _ (NS SC) hev) (fun b k hk=> ?_), ?_, ?_,b3⟩
    ·have d:b<blks.length:=dS hk
     obtain ⟨k1,hk1,hr1⟩:=b5b SC b k hk
     obtain ⟨k2,k0,g1,g2,L⟩:=b2 b b (FI.flo b d)
     rw [hk1] at g1;cases g1
     refine ⟨k0,g2, ?_⟩
     have:qU μ ids b=μ b:=by simp [qU,FI.flo b d]
     rw [L.esz,L.len,L.op,this]
     exact hr1
    ·have hl2:xs.length=vs'.length:=by rw [hxl,a1]
     match vs',xs,hl2,hrel with
     |[],[],_,_=>exact @b7.tup F _ _ _ [] #[] rfl (fun i v h=>by simp at h)
     |[v],[x],_,p=>exact p 0 v rfl
     |v::v2::t,x::x2::t2,hl3,p=>
      exact @b7.tup F _ _ _ (v::v2::t) (x::x2::t2).toArray (by simpa using hl3) (fun i u hu=>by
       have:=p i u hu
       rw [List.getD_eq_getElem?_getD] at this
       rw [Array.getD_eq_getD_getElem?,sC]
       exact this)
    ·match vs',a3 with
     |[],_=>rfl
     |[v],o=>
      have:okA v=true:=by simpa using o
      show okR v=true
      cases v<;>first|exact this| (simp [okA,okC] at this)
     |v::v2::t,o=>exact o
   ·cases f
  ·cases f
theorem Sd (hT:Bn P T) {n:Nat} (u:ny P (gj T ow n)) {f:FuncId} {af:j4} (x:T f=some (.code af)) {F:Frame} {μ:Mu} {w:World} {xs:Array Value} {args:List V} {blks:List Blk} {r:V} {blks':List Blk}
 (h:mP af blks.length (dE (gj T ow n) ow n af.body (start args blks))=some (r,blks')) (H: @bG F μ (bT blks) w) (hl:xs.size=args.length)
 (hv: ∀(i:Nat) (v:V),args[i]? =some v-> @b7 F μ (bT blks) w v (xs.getD i undef)):Reach P f xs w (pJ F μ (bT blks) w r blks'):=by
 obtain ⟨fn,hn,o,l,a⟩:=hT.code f af x
 unfold uV at a
 split at a
 ·cases a
 ·rename_i c hb
  split at a
  ·rename_i ac rs y z
   split at a
   ·rename_i q
    cases a
    right
    refine ⟨?_,calls_of_wp o hb ?_⟩
    ·have j: ¬fn.name= "runtime.NumGoroutine" :=by simpa using l
     have hp:(program).run P w= .ok P w:=rfl
     simp [callFunc,Sem.run_bind,hp,o,j,hb]
    ·cases he:dE (gj T ow n) ow n ac (start args blks) with
     |none=>rw [he] at h;simp [mP] at h
     |some p=>
      obtain ⟨e,st⟩:=p
      rw [he] at h
      have m:e= .normal\/e= .ret:=by
       cases e with
       |normal=>exact .inl rfl
       |ret=>exact .inr rfl
       |exit id=>simp [mP] at h
      have hm:blks.length<=1000:=by
       revert h
       rcases m with rfl|rfl<;>
       ·simp only [mP]
        intro h
        split at h
        ·cases h
        ·split at h
         ·split at h
          ·assumption
          ·cases h
         ·cases h
      have d:(start args blks).heap=bT blks:=by
       funext i
       show eH (u9 0 blks) i=blks[i]?
       rw [yi];simp
      have s: ∀t,(start args blks).get t=(args[t]?).getD .undef:=by
       intro t
       show (eH (u9 0 args) t).getD .undef=_
       rw [yi];simp
      refine @RG P (gj T ow n) ow fn.ntmps hn F u q μ (bT blks) w n c ac (start args blks) st e μ _ w _ y he ?_ ?_ (fun μ' a' w' I' S'=> ?_)
      ·refine @Inv.mk F _ _ _ _ _ _ (by rw [d];exact H) (fun t=> ?_) (by simp;omega) rfl
       rw [s,d]
       cases ht:args[t]? with
       |none=>exact @b7.unk F _ _ _ _
       |some v=>
        have:=hv t v ht
        have hlt:=dS ht
        rw [Array.getD_eq_getD_getElem?,fU om, <-Array.getD_eq_getD_getElem?]
        exact this
      ·rw [d]
       exact @nX.mk F _ _ _ _ _ _ (@Chg.refl F _ _ _) (fun b k hk=>by have:=dS hk;omega)
      ·obtain ⟨v,h1,h2⟩:=LQ I' S' z m h
       have hdf:a'.defers=[]:= @Inv.df F _ _ _ _ _ _ I'
       rcases m with rfl|rfl<;>exact ⟨hdf,v,h1,h2⟩
   ·cases a
  ·cases a
theorem C0 (e:Bn P T): ∀n,ny P (gj T ow n)
 |0=>fun f args blks r blks' h=>by simp [gj] at h
 |n+1=>fun f args blks r blks' h F μ w xs H c d=>by
  simp only [gj] at h
  split at h
  ·cases h
  ·rename_i af j
   have core: ∀(args:List V) (blks:List Blk) (r:V) (blks':List Blk),mP af blks.length (dE (gj T ow n) ow n af.body (start args blks))=some (r,blks')->
    @bG F μ (bT blks) w->xs.size=args.length->(∀(i:Nat) (v:V),args[i]? =some v-> @b7 F μ (bT blks) w v (xs.getD i undef))->Reach P f xs w (pJ F μ (bT blks) w r blks'):=by
    clear h H c d r blks' args blks
    intro args blks r blks' h H c d
    exact Sd e (C0 e n) j h H c d
   cases a:mP af blks.length (dE (gj T ow n) ow n af.body (start args blks)) with
   |none=>rw [a] at h;cases h
   |some p=>
    obtain ⟨l,bs0⟩:=p
    rw [a] at h
    simp only [Zk,Option.some.injEq,Prod.mk.injEq] at h
    obtain ⟨rfl,rfl⟩:=h
    have b:=core args blks l bs0 a H c d
    cases k:af.raw with
    |true=>exact b.mono (fun x w' b=>b.czR)
    |false=>exact b.mono (fun x w' b=>b.czR.czB)
  ·rename_i g m
   exact e.ext f g m args blks r blks' h F μ w xs H c d
theorem DQ (a:Bn P T):ny P (Call T ow):=fun f args blks r blks' h=>by
 obtain ⟨n,hn⟩:=PG h
 exact C0 a n f args blks r blks' hn
end
end
end Go.AI
