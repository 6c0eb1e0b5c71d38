/- Part. -/
import Derived.Test.YtdnkignjanfikaaGreatAiDraw
import Derived.Test.YtdnkignjanfikaaGreatAiLim
set_option linter.unusedVariables false
set_option linter.unusedSimpArgs false
namespace Go.AI
section
def bR.real:bR->Exit
 | .normal=> .normal
 | .exit id=> .exit id
 | .ret=> .ret
theorem La {P:Program} {Q:Exit->Act->World->Prop} {c:Code} (T:Nat->Act->World->Prop) (i: ∀a w, ¬T 0 a w)
 (round: ∀k a w,T (k+1) a w->c.wp P (Exit.then (fun a' w'=>T k a' w') Q) a w) {k:Nat} {a:Act} {w:World} (h0:T k a w):(Code.loop c).wp P Q a w:=by
 intro b kk cs
 have key: ∀n a w,T n a w-> ∃e a' w',Q e a' w'/\Arrives P (lone (b.at a (.code c:: .inLoop c::kk)) cs w) b kk cs e a' w':=by
  intro n
  induction n with
  |zero=>exact fun a w h=>absurd h (i a w)
  |succ n ih=>
   intro a w j
   obtain ⟨e,a₁,w₁,f,d⟩:=round n a w j b (.inLoop c::kk) cs
   cases e with
   |normal=>
    obtain ⟨e₂,a₂,w₂,hq₂,harr₂⟩:=ih a₁ w₁ f
    exact ⟨e₂,a₂,w₂,hq₂,.of_steps (Steps.trans d (.one step_inLoop)) harr₂⟩
   |exit id=>exact ⟨_,a₁,w₁,f,.pass (x:= .inLoop c) rfl (fun _ _=> .inl (by simp)) d⟩
   |goto l=>exact ⟨_,a₁,w₁,f,.pass (x:= .inLoop c) rfl (fun _ _=> .inl (by simp)) d⟩
   |ret=>exact ⟨_,a₁,w₁,f,.pass (x:= .inLoop c) rfl (fun _ _=> .inl (by simp)) d⟩
   |panic ch=>exact ⟨_,a₁,w₁,f,.pass (x:= .inLoop c) rfl (fun _ _=> .inl (by simp)) d⟩
   |outgrown=>exact ⟨_,a₁,w₁,f,.pass (x:= .inLoop c) rfl (fun _ _=> .inl (by simp)) d⟩
 obtain ⟨e,a',w',f,d⟩:=key k a w h0
 exact ⟨e,a',w',f,.of_steps (.one step_loop) d⟩
section
variable {P:Program} {C:ce} {ow:ec} {n:Nat} {hn:If}
theorem rM [Frame] {μ0:Mu} {h0:b8} {w0:World} {id:Nat} {ac:aQ} {a:Act} {w:World} {r:bR×St}: ∀(gs:List (Nat×eU)) (k:Nat) (st:St) (μ:Mu),dh C ow k (ye gs id ac) st=some r->Inv n st.get st.heap μ a w->lk μ0 h0 w0 μ st.heap w->
 ∃k' st1 μ1,k'<=k/\dh C ow k' ac st1=some r/\Inv n st1.get st1.heap μ1 a w/\lk μ0 h0 w0 μ1 st1.heap w
 |[],k,st,μ,h,I,S=>⟨k,st,μ,aw _,h,I,S⟩
 | (i,g)::gs,k,st,μ,h,I,S=>by
   simp only [ye,List.foldr_cons] at h
   split at h
   ·cases k with
    |zero=>simp [dh] at h
    |succ k=>
     simp only [dh] at h
     split at h
     ·rename_i st' b
      obtain ⟨μ',I',S'⟩:=N4 b I S
      obtain ⟨k',st1,μ1,d,c,I1,S1⟩:=rM gs k st' μ' h I' S'
      exact ⟨k',st1,μ1,by omega,c,I1,S1⟩
     ·cases h
   ·exact rM gs k st μ h I S
theorem Qv [Frame] (u:lH P C) (z:P.follows .mixedOrders=true) {μ0:Mu} {h0:b8} {w0:World}: ∀(k:Nat) (c:Code) (ac:aQ) (st st':St) (e:bR) (μ:Mu) (a:Act) (w:World) (Q:Exit->Act->World->Prop),
 fj P n hn c=some ac->dh C ow k ac st=some (e,st')->Inv n st.get st.heap μ a w->lk μ0 h0 w0 μ st.heap w->
 (∀μ' a' w',Inv n st'.get st'.heap μ' a' w'->lk μ0 h0 w0 μ' st'.heap w'->Q e.real a' w')->c.wp P Q a w:=by
 intro k
 induction k using Nat.strongRecOn with
 |_ k ih=>
  intro c ac st st' e μ a w Q hc b I S K
  cases c with
  |skip=>
   simp only [fj,Option.some.injEq] at hc
   subst hc
   cases k with
   |zero=>simp [dh] at b
   |succ k=>simp only [dh,Option.some.injEq,Prod.mk.injEq] at b;obtain ⟨rfl,rfl⟩:=b;exact wp_skip (K μ a w I S)
  |exit id=>
   simp only [fj,Option.some.injEq] at hc
   subst hc
   cases k with
   |zero=>simp [dh] at b
   |succ k=>simp only [dh,Option.some.injEq,Prod.mk.injEq] at b;obtain ⟨rfl,rfl⟩:=b;exact wp_exit (K μ a w I S)
  |ret=>
   simp only [fj,Option.some.injEq] at hc
   subst hc
   obtain ⟨k',st1,μ1,v,f,I1,S1⟩:=rM _ k st μ b I S
   cases k' with
   |zero=>simp [dh] at f
   |succ k'=>simp only [dh,Option.some.injEq,Prod.mk.injEq] at f;obtain ⟨rfl,rfl⟩:=f;exact wp_ret (K μ1 a w I1 S1)
  |region id ops draw=>
   simp only [fj] at hc
   split at hc
   ·cases hc
   ·rename_i steps q
    cases draw with
    |true=>
     simp only [if_true] at hc
     split at hc
     ·rename_i hd
      cases hc
      obtain ⟨k',st1,μ1,v,f,I1,S1⟩:=rM _ k st μ b I S
      cases k' with
      |zero=>simp [dh] at f
      |succ k'=>
       simp only [dh] at f
       have h:e= .normal:=by
        unfold Az at f
        split at f
        ·split at f
         ·cases f;rfl
         ·cases f
        ·cases f
       subst h
       exact (a0i u z q hd f I1 S1 K).2
     ·cases hc
    |false=>
     simp only [bx,if_false,Option.some.injEq] at hc
     subst hc
     obtain ⟨k',st1,μ1,v,f,I1,S1⟩:=rM _ k st μ b I S
     cases k' with
     |zero=>simp [dh] at f
     |succ k'=>
      simp only [dh] at f
      have h:e= .normal:=by
       unfold s5 at f
       split at f
       ·cases f;rfl
       ·cases f
      subst h
      exact (Y5 u q f I1 S1 K).2
  |seq x y=>
   simp only [fj] at hc
   split at hc
   ·rename_i ax ay i r
    cases hc
    cases k with
    |zero=>simp [dh] at b
    |succ k=>
     simp only [dh] at b
     refine wp_seq ?_
     cases d:dh C ow k ax st with
     |none=>rw [d] at b;cases b
     |some p=>
      obtain ⟨e1,st1⟩:=p
      rw [d] at b
      cases e1 with
      |normal=>exact ih k (by omega) x ax st st1 .normal μ a w _ i d I S (fun μ' a' w' I' S'=>ih k (by omega) y ay st1 st' e μ' a' w' Q r b I' S' K)
      |exit id=>cases b;exact ih k (by omega) x ax st st' (.exit id) μ a w _ i d I S (fun μ' a' w' I' S'=>K μ' a' w' I' S')
      |ret=>cases b;exact ih k (by omega) x ax st st' .ret μ a w _ i d I S (fun μ' a' w' I' S'=>K μ' a' w' I' S')
   ·cases hc
  |cond cd x y=>
   simp only [fj] at hc
   split at hc
   ·rename_i acd ax ay s i r
    cases hc
    cases k with
    |zero=>simp [dh] at b
    |succ k=>
     simp only [dh] at b
     have o:=bM I.E s
     split at b
     ·rename_i l
      rw [show Opd.ev st.get acd=_ from l] at o
      generalize t:a.eval cd=X at o
      cases o
      exact wp_cond_true t (ih k (by omega) x ax st st' e μ a w Q i b I S K)
     ·rename_i l
      rw [show Opd.ev st.get acd=_ from l] at o
      generalize t:a.eval cd=X at o
      cases o
      exact wp_cond_false t (ih k (by omega) y ay st st' e μ a w Q r b I S K)
     ·cases b
   ·cases hc
  |block id x=>
   simp only [fj] at hc
   obtain ⟨ax,i,rfl⟩:=rQ hc
   cases k with
   |zero=>simp [dh] at b
   |succ k=>
    simp only [dh] at b
    refine wp_block ?_
    cases d:dh C ow k ax st with
    |none=>rw [d] at b;cases b
    |some p=>
     obtain ⟨e1,st1⟩:=p
     rw [d] at b
     cases e1 with
     |normal=>cases b;exact ih k (by omega) x ax st st' .normal μ a w _ i d I S (fun μ' a' w' I' S'=>K μ' a' w' I' S')
     |exit id'=>
      simp only at b
      refine ih k (by omega) x ax st st1 (.exit id') μ a w _ i d I S (fun μ' a' w' I' S'=> ?_)
      show (if id'=id then Q .normal a' w' else Q (.exit id') a' w')
      split at b
      ·rename_i m;cases b;rw [ae m];exact K μ' a' w' I' S'
      ·rename_i m;cases b;rw [aa m];exact K μ' a' w' I' S'
     |ret=>cases b;exact ih k (by omega) x ax st st' .ret μ a w _ i d I S (fun μ' a' w' I' S'=>K μ' a' w' I' S')
  |loop x=>
   simp only [fj] at hc
   obtain ⟨ax,i,rfl⟩:=rQ hc
   refine La (k:=k) (fun j a w=>j<=k/\ ∃st1 μ1,dh C ow j (.loop ax) st1=some (e,st')/\Inv n st1.get st1.heap μ1 a w/\lk μ0 h0 w0 μ1 st1.heap w) (fun a w=> ?_) (fun j a w hT=> ?_) ⟨aw _,st,μ,b,I,S⟩
   ·rintro ⟨_,st1,μ1,f,_⟩;simp [dh] at f
   ·obtain ⟨hj,st1,μ1,f,I1,S1⟩:=hT
    simp only [dh] at f
    cases d:dh C ow j ax st1 with
    |none=>rw [d] at f;cases f
    |some p=>
     obtain ⟨e1,st2⟩:=p
     rw [d] at f
     cases e1 with
     |normal=>exact ih j (by omega) x ax st1 st2 .normal μ1 a w _ i d I1 S1 (fun μ' a' w' I' S'=>⟨by omega,st2,μ',f,I',S'⟩)
     |exit id=>cases f;exact ih j (by omega) x ax st1 st' (.exit id) μ1 a w _ i d I1 S1 (fun μ' a' w' I' S'=>K μ' a' w' I' S')
     |ret=>cases f;exact ih j (by omega) x ax st1 st' .ret μ1 a w _ i d I1 S1 (fun μ' a' w' I' S'=>K μ' a' w' I' S')
  |_=>simp [fj] at hc
end
end
section
theorem aY.weak {F F':Frame} (z: ∀c,F.fr c->F'.fr c) {μ:Mu} {h:b8} {w:World} {v:V} {x:Value} (t: @aY F' μ h w v x): @aY F μ h w v x:=by
 have st: ∀c, @pd F' μ c-> @pd F μ c:=fun c l=>⟨l.1,fun h1=>l.2 (z c h1)⟩
 induction t with
 |lit v=>exact @aY.lit F μ h w v
 |agg cs xs m d hc ih=>exact @aY.agg F μ h w cs xs m d ih
 |tup vs xs m hc ih=>exact @aY.tup F μ h w vs xs m ih
 |ptr b i o n x k p hn q u hd=>exact @aY.ptr F μ h w b i o n x k p hn q u hd
 |mp b x k p q hm=>exact @aY.mp F μ h w b x k p q hm
 |sl b s n x k p hn q u=>exact @aY.sl F μ h w b s n x k p hn q u
 |emp a=>exact @aY.emp F μ h w a
 |imm0 e a cap y=>exact @aY.imm0 F μ h w e a cap y
 |imm e rows c off cap ys y hr r hc l j d t ih=>exact @aY.imm F μ h w e rows c off cap ys y hr r hc (st c l) j d ih
 |iptr row o c off ys hc l j d t ih=>exact @aY.iptr F μ h w row o c off ys hc (st c l) j d ih
 |fn f caps xs m hc ih=>exact @aY.fn F μ h w f caps xs m ih
 |unk x=>exact @aY.unk F μ h w x
theorem bB.weak {F F':Frame} (d: ∀c,F.fr c->F'.fr c) {μ:Mu} {h:b8} {w:World} (H: @bB F' μ h w): @bB F μ h w:=by
 refine @bB.mk F μ h w (c3S H) (c5S H) (fun b k f=> ?_) (a78 H) (fun b c a e=>WS H b c a (d c e)) (fun c hc=>c2e H c (d c hc))
 rcases b8x H b k f with a|⟨l,c,arr,t,lo,hi,gm,gh,gf,gl,gv⟩|a
 ·exact .inl a
 ·exact .inr (.inl ⟨l,c,arr,t,lo,hi,gm,gh,gf,gl,fun i row j v a e=>(gv i row j v a e).weak d⟩)
 ·exact .inr (.inr a)
structure Ud (h:b8) (m:Nat) (kp:List Nat) (ids bor:List Nat):Prop where
 flo: ∀b,b<m->ids[b]? =some b
 fkp: ∀b,b∈kp->ids[m+kL b kp]? =some b
 fbor: ∀b k,h b=some k-> ¬b<m->b∉kp->b∈bor
section
variable {h:b8} {m:Nat} {kp ids bor:List Nat}
theorem MX (F:Ud h m kp ids bor) {v v':V} (c:pK h m kp v=some v'):zh h ids bor v v'/\okC v'=true:=by
 cases v with
 |sl b s n=>
  simp only [pK] at c
  split at c
  ·rename_i d;cases c;exact ⟨.sl b s n b (F.flo b d),rfl⟩
  ·rename_i d
   split at c
   ·rename_i j;cases c;exact ⟨.sl b s n _ (F.fkp b j),rfl⟩
   ·rename_i j
    split at c
    ·rename_i v1 bs l
     cases c
     simp only [pi] at l
     split at l
     ·rename_i k p
      split at l
      ·rename_i hc
       cases l
       exact ⟨.bor b s n k (F.fbor b k p d j) p hc.1 hc.2.1 hc.2.2,rfl⟩
      ·cases l
     ·cases l
    ·cases c
 |ptr b i o n=>
  simp only [pK] at c
  split at c
  ·rename_i d;cases c;exact ⟨.ptr b i o n b (F.flo b d),rfl⟩
  ·rename_i d
   split at c
   ·rename_i j;cases c;exact ⟨.ptr b i o n _ (F.fkp b j),rfl⟩
   ·cases c
 |mp b=>
  simp only [pK] at c
  split at c
  ·rename_i d;cases c;exact ⟨.mp b b (F.flo b d),rfl⟩
  ·rename_i d
   split at c
   ·rename_i j;cases c;exact ⟨.mp b _ (F.fkp b j),rfl⟩
   ·cases c
 |fn f cs=>
  cases cs with
  |nil=>simp only [pK] at c;cases c;exact ⟨.fn f,rfl⟩
  |cons a b=>simp [pK] at c
 |lit y=>simp only [pK] at c;cases c;exact ⟨.lit y,rfl⟩
 |imm e r=>simp only [pK] at c;cases c;exact ⟨.imm e r,rfl⟩
 |iptr r o=>simp only [pK] at c;cases c;exact ⟨.iptr r o,rfl⟩
 |undef=>simp only [pK] at c;cases c;exact ⟨.undef,rfl⟩
 |agg cs=>simp [pK] at c
 |tup cs=>simp [pK] at c
theorem JZ (F:Ud h m kp ids bor): ∀{cs cs':List V},wF h m kp cs=some cs'->cs'.length=cs.length/\(∀(i:Nat) (v v':V),cs[i]? =some v->cs'[i]? =some v'->zh h ids bor v v')/\cs'.all okC=true
 |[],cs',hf=>by
  simp [wF] at hf;subst hf
  exact ⟨rfl,(fun i v v' h=>by simp at h),rfl⟩
 |v::r,cs',hf=>by
  simp only [wF] at hf
  split at hf
  ·rename_i v1 r1 h1 h2
   cases hf
   obtain ⟨a1,a2⟩:=MX F h1
   obtain ⟨b1,b2,b3⟩:=JZ F h2
   refine ⟨by simp [b1],fun i u u' hu hu'=> ?_,by simp [a2];simpa using b3⟩
   cases i with
   |zero=>simp at hu hu';subst hu;subst hu';exact a1
   |succ i=>exact b2 i u u' (by simpa using hu) (by simpa using hu')
  ·cases hf
theorem b1h (F:Ud h m kp ids bor) {v v':V} (d:ES h m kp v=some v'):ym h ids bor v v'/\okA v'=true:=by
 have other:pK h m kp v=some v'->ym h ids bor v v'/\okA v'=true:=fun j=>by
  obtain ⟨a,b⟩:=MX F j
  refine ⟨.cell _ _ a, ?_⟩
  cases v'<;>first|exact b| (simp [okC] at b)
 cases v with
 |agg cs=>
  simp only [ES] at d
  split at d
  ·rename_i cs' j
   cases d
   obtain ⟨a,b,c⟩:=JZ F j
   exact ⟨.agg _ _ a b,c⟩
  ·cases d
 |tup cs=>simp [ES] at d
 |lit y=>exact other d
 |ptr b i o n=>exact other d
 |sl b s n=>exact other d
 |imm e r=>exact other d
 |iptr r o=>exact other d
 |fn f cs=>exact other d
 |undef=>exact other d
 |mp b=>exact other d
theorem Sy (F:Ud h m kp ids bor): ∀{cs cs':List V},wA h m kp cs=some cs'->cs'.length=cs.length/\(∀(i:Nat) (v v':V),cs[i]? =some v->cs'[i]? =some v'->ym h ids bor v v')/\cs'.all okA=true
 |[],cs',hf=>by
  simp [wA] at hf;subst hf
  exact ⟨rfl,(fun i v v' h=>by simp at h),rfl⟩
 |v::r,cs',hf=>by
  simp only [wA] at hf
  split at hf
  ·rename_i v1 r1 h1 h2
   cases hf
   obtain ⟨a1,a2⟩:=b1h F h1
   obtain ⟨b1,b2,b3⟩:=Sy F h2
   refine ⟨by simp [b1],fun i u u' hu hu'=> ?_,by simp [a2];simpa using b3⟩
   cases i with
   |zero=>simp at hu hu';subst hu;subst hu';exact a1
   |succ i=>exact b2 i u u' (by simpa using hu) (by simpa using hu')
  ·cases hf
theorem a9b (F:Ud h m kp ids bor) {v v':V} (e:Hw h m kp v=some v'):ym h ids bor v v'/\okD v'=true:=by
 have other:pK h m kp v=some v'->ym h ids bor v v'/\okD v'=true:=fun i=>by
  obtain ⟨a,b⟩:=MX F i
  refine ⟨.cell _ _ a, ?_⟩
  cases v' with
  |fn f cs=>
   cases cs with
   |nil=>rfl
   |cons c d=>simp [okC] at b
  |_=>exact b
 cases v with
 |fn f cs=>
  cases cs with
  |nil=>exact other e
  |cons c cs=>
   simp only [Hw] at e
   split at e
   ·rename_i cs' i
    cases e
    obtain ⟨a,b,c⟩:=JZ F i
    exact ⟨.fn f _ _ a b,c⟩
   ·cases e
 |_=>exact other e
theorem Qu (F:Ud h m kp ids bor): ∀{cs cs':List V},zl h m kp cs=some cs'->cs'.length=cs.length/\(∀(i:Nat) (v v':V),cs[i]? =some v->cs'[i]? =some v'->ym h ids bor v v')/\cs'.all okD=true
 |[],cs',hf=>by
  simp [zl] at hf;subst hf
  exact ⟨rfl,(fun i v v' h=>by simp at h),rfl⟩
 |v::r,cs',hf=>by
  simp only [zl] at hf
  split at hf
  ·rename_i v1 r1 h1 h2
   cases hf
   obtain ⟨a1,a2⟩:=a9b F h1
   obtain ⟨b1,b2,b3⟩:=Qu F h2
   refine ⟨by simp [b1],fun i u u' hu hu'=> ?_,by simp [a2];simpa using b3⟩
   cases i with
   |zero=>simp at hu hu';subst hu;subst hu';exact a1
   |succ i=>exact b2 i u u' (by simpa using hu) (by simpa using hu')
  ·cases hf
theorem Ki (F:Ud h m kp ids bor): ∀{rs rs':List (List V)},uj h m kp rs=some rs'->rs'.length=rs.length/\(∀(i:Nat) (row row':List V),rs[i]? =some row->rs'[i]? =some row'->row'.length=row.length/\ ∀(j:Nat) (v v':V),row[j]? =some v->row'[j]? =some v'->ym h ids bor v v')/\
 ∀row∈rs', ∀v∈row,okD v=true
 |[],rs',hf=>by
  simp [uj] at hf;subst hf
  exact ⟨rfl,(fun i v v' h=>by simp at h),fun row hr=>by simp at hr⟩
 |v::r,rs',hf=>by
  simp only [uj] at hf
  split at hf
  ·rename_i v1 r1 h1 h2
   cases hf
   obtain ⟨a1,a2,a3⟩:=Qu F h1
   obtain ⟨b1,b2,b3⟩:=Ki F h2
   refine ⟨by simp [b1],fun i u u' hu hu'=> ?_,fun row hr=> ?_⟩
   ·cases i with
    |zero=>simp at hu hu';subst hu;subst hu';exact ⟨a1,a2⟩
    |succ i=>exact b2 i u u' (by simpa using hu) (by simpa using hu')
   ·rcases b9.1 hr with rfl|hr
    ·exact fun v hv=>aB.1 a3 v hv
    ·exact b3 row hr
  ·cases hf
theorem b08 (F:Ud h m kp ids bor) {k j:Blk} (e:SP h m kp k=some j):a00 h ids bor k j/\okB j:=by
 unfold SP at e
 split at e
 ·rename_i f
  cases e
  exact ⟨⟨rfl,rfl,rfl,(fun _=>rfl),(fun d=>by rw [f] at d;cases d)⟩,fun d=>by rw [f] at d;cases d⟩
 ·rename_i f
  split at e
  ·rename_i rows d
   cases e
   obtain ⟨a,b,c⟩:=Ki F d
   exact ⟨⟨rfl,rfl,a,(fun l=>absurd l f),(fun _ i row row' n o=>b i row row' n o)⟩,fun _=>c⟩
  ·cases e
theorem Sr (F:Ud h m kp ids bor): ∀{l:List Nat} {bs:List Blk},vC h m kp l=some bs->l.length=bs.length/\(∀(i b:Nat),l[i]? =some b-> ∃k k0,h b=some k/\bs[i]? =some k0/\a00 h ids bor k k0)/\ ∀k∈bs,okB k
 |[],bs,hf=>by
  simp [vC] at hf;subst hf
  exact ⟨rfl,(fun i b h=>by simp at h),fun k hk=>by simp at hk⟩
 |b::r,bs,hf=>by
  simp only [vC] at hf
  split at hf
  ·rename_i k hk
   split at hf
   ·rename_i k' r' h1 h2
    cases hf
    obtain ⟨a1,a2⟩:=b08 F h1
    obtain ⟨b1,b2,b3⟩:=Sr F h2
    refine ⟨by simp [b1],fun i b' hb=> ?_,fun k2 hk2=> ?_⟩
    ·cases i with
     |zero=>simp at hb;subst hb;exact ⟨k,k',hk,rfl,a1⟩
     |succ i=>simpa using b2 i b' (by simpa using hb)
    ·rcases b9.1 hk2 with rfl|hk2
     ·exact a2
     ·exact b3 k2 hk2
   ·cases hf
  ·cases hf
end
theorem a1I {α:Type}: ∀{m:List (Nat×α)} {b:Nat} {k:α},dP m b=some k->b∈m.map (·.1)
 | (j,u)::r,b,k,h=>by
   simp only [dP] at h
   split at h
   ·rename_i e;subst e;simp
   ·simp only [aP,b9];exact .inr (a1I h)
theorem Je (m:Nat): ∀(r acc:List Nat),acc.Nodup->(∀b∈acc,m<=b)->(E6 m acc r).Nodup/\ ∀b∈E6 m acc r,m<=b
 |[],acc,h1,h2=>⟨h1,h2⟩
 |x::r,acc,h1,h2=>by
  simp only [E6]
  split
  ·rename_i hx
   refine Je m r _ ?_ (fun b hb=> ?_)
   ·unfold gi
    split
    ·exact h1
    ·rename_i hn
     exact jL.2 ⟨h1,by simp,fun a ha b hb e=>by simp at hb;subst hb;subst e;exact hn ha⟩
   ·unfold gi at hb
    split at hb
    ·exact h2 b hb
    ·rcases aX.1 hb with h|h
     ·exact h2 b h
     ·simp at h;subst h;exact hx
  ·exact Je m r acc h1 h2
section
variable {P:Program} {μ:Mu} {w:World} {a:Act}
def Qn (a:Act):ResultVar->Sem Value
 | .tmp t=>pure (a.tmps.getD t undef)
 | .cell b t=>do loadVar t (<-asAddr (a.tmps.getD b undef))
theorem XS [Frame] {st:St} {n:Nat} (I:Inv n st.get st.heap μ a w): ∀{rs:List ResultVar} {as:List LI} {vs:List V},rW P rs=some as->m8 st as=some vs->
 ∃xs:List Value,(rs.mapM (Qn a)).run P w= .ok xs w/\xs.length=vs.length/\ ∀(i:Nat) (v:V),vs[i]? =some v->aY μ st.heap w v (xs.getD i undef)
 |[],as,vs,hc,hr=>by
  simp [rW] at hc;subst hc
  simp [m8] at hr;subst hr
  exact ⟨[],rfl,rfl,fun i v h=>by simp at h⟩
 |r::rs,as,vs,hc,hr=>by
  have tail: ∀{x:LI} {as':List LI},as=x::as'->rW P rs=some as'-> ∃v vs',vs=v::vs'/\IS st x=some v/\m8 st as'=some vs':=by
   intro x as' e _
   subst e
   simp only [m8] at hr
   split at hr
   ·rename_i v vs' h1 h2;cases hr;exact ⟨v,vs',rfl,h1,h2⟩
   ·cases hr
  cases r with
  |tmp t=>
   simp only [rW] at hc
   obtain ⟨as',ha,rfl⟩:=rQ hc
   obtain ⟨v,vs',rfl,h1,h2⟩:=tail rfl ha
   obtain ⟨xs,e1,e2,e3⟩:=XS I ha h2
   simp only [IS,Option.some.injEq] at h1
   refine ⟨a.tmps.getD t undef::xs, ?_,by simp [e2],fun i u hu=> ?_⟩
   ·rw [List.mapM_cons]
    simp only [Qn,Sem.run_bind,Sem.run_pure,Result.andThen_ok,e1]
   ·cases i with
    |zero=>simp at hu;subst hu;rw [<-h1];exact I.E t
    |succ i=>exact e3 i u (by simpa using hu)
  |cell b t=>
   simp only [rW] at hc
   split at hc
   ·rename_i g as' hg ha
    cases hc
    obtain ⟨v,vs',rfl,h1,h2⟩:=tail rfl ha
    obtain ⟨xs,e1,e2,e3⟩:=XS I ha h2
    simp only [IS] at h1
    obtain ⟨c,off,y,hx,hy,hv⟩:=W5 (P:=P) (t:=t) I.H (I.E b) hg h1
    refine ⟨y::xs, ?_,by simp [e2],fun i u hu=> ?_⟩
    ·have e0:(Qn a (.cell b t)).run P w= .ok y w:=by
      simp only [Qn,Sem.run_bind,hx,asAddr,Sem.run_pure,Result.andThen_ok,hy]
     rw [List.mapM_cons]
     simp only [Sem.run_bind,e0,Sem.run_pure,Result.andThen_ok,e1]
    ·cases i with
     |zero=>simp at hu;subst hu;exact hv
     |succ i=>exact e3 i u (by simpa using hu)
   ·cases hc
theorem a0z [Frame] {fn:Func} {st:St} {n:Nat} (I:Inv n st.get st.heap μ a w) {as:List LI} {vs:List V} (hc:rW P fn.results.toList=some as) (b:m8 st as=some vs):
 ∃xs:List Value,(results fn a.tmps).run P w= .ok (match xs with
  |[x]=>x
  |xs=> .tuple xs.toArray) w/\xs.length=vs.length/\ ∀(i:Nat) (v:V),vs[i]? =some v->aY μ st.heap w v (xs.getD i undef):=by
 obtain ⟨xs,c,d,e⟩:=XS I hc b
 refine ⟨xs, ?_,d,e⟩
 have f:results fn a.tmps=(do
  let vs <-fn.results.mapM (Qn a)
  pure (if h:vs.size=1 then vs[0] else .tuple vs)):=by
  unfold results
  congr 2
 rw [f,Array.mapM_eq_mapM_toList]
 simp only [Sem.run_bind,Sem.run_map,c,Result.andThen_ok]
 simp only [Sem.run_pure,List.size_toArray]
 match xs with
 |[]=>rfl
 |[x]=>rfl
 |x::y::r=>rfl
end
section
variable {P:Program} {T:Tab} {ow:ec}
structure zY (P:Program) (T:Tab):Prop where
 code: ∀f af,T f=some (.code af)-> ∃fn hn,P.funcs[f]? =some fn/\(fn.name== "runtime.NumGoroutine")=false/\sd P fn hn=some af
 ext: ∀f g,T f=some (.ext g)-> ∀args blks r blks',g args blks=some (r,blks')-> ∀(F:Frame) (μ:Mu) (w:World) (xs:Array Value), @bB F μ (bJ blks) w->xs.size=args.length->
  (∀(i:Nat) (v:V),args[i]? =some v-> @aY F μ (bJ blks) w v (xs.getD i undef))->Reach P f xs w (n7 F μ (bJ blks) w r blks')
theorem vN {α:Type}: ∀(l:List α) (n i:Nat),dP (qM n l) i=if n<=i then l[i-n]? else none
 |[],n,i=>by simp [qM,dP]
 |x::r,n,i=>by
  simp only [qM,dP]
  by_cases e:n=i
  ·subst e;simp
  ·rw [aa e,vN r (n+1) i]
   by_cases h1:n<=i
   ·rw [ae h1,ae (by omega)]
    have:i-n=(i-(n+1))+1:=by omega
    rw [this];simp
   ·rw [aa h1,aa (by omega)]
theorem LM {F:Frame} {μ0:Mu} {w0:World} {blks:List Blk} {n:Nat} {af:aJ} {st:St} {μ:Mu} {a:Act} {w:World} {r:V} {blks':List Blk} {fn:Func} (I: @Inv F n st.get st.heap μ a w) (S: @lk F μ0 (bJ blks) w0 μ st.heap w)
 (hc:rW P fn.results.toList=some af.results) {e:bR} (he:e= .normal\/e= .ret) (hf:kK af blks.length (some (e,st))=some (r,blks')):
 ∃v,(results fn a.tmps).run P w= .ok v w/\n7 F μ0 (bJ blks) w0 r blks' v w:=by
 have f:(match m8 st af.results with
  |none=>none
  |some vs=>match wA st.heap blks.length (if af.keep then ml af.raw st.heap blks.length vs else []) vs,vC st.heap blks.length (if af.keep then ml af.raw st.heap blks.length vs else []) (List.range blks.length++(if af.keep then ml af.raw st.heap blks.length vs else [])) with
   |some vs',some bs=>if blks.length<=1000 then some (YE vs',bs) else none
   |_,_=>none)=some (r,blks'):=by
  rcases he with rfl|rfl<;>exact hf
 clear hf
 split at f
 ·cases f
 ·rename_i vs hvs
  generalize hkp:(if af.keep then ml af.raw st.heap blks.length vs else [])=kp at f
  split at f
  ·rename_i vs' bs h1 h2
   split at f
   ·rename_i hm
    cases f
    have q:kp.Nodup/\ ∀b∈kp,blks.length<=b:=by
     rw [<-hkp]
     split
     ·exact Je _ _ [] jy (fun b d=>by cases d)
     ·exact ⟨jy,fun b d=>by cases d⟩
    have s:=q.2
    let ids:=List.range blks.length++kp
    let bor:=(st.m.map (·.1)).filter (fun b=>decide (b∉ids))
    have z: ∀b,b∈ids↔b<blks.length\/b∈kp:=by
     intro b
     simp only [ids,aX,bV]
    have FI:Ud st.heap blks.length kp ids bor:=by
     refine ⟨fun b d=> ?_,fun b d=> ?_,fun b k hk o h4=> ?_⟩
     ·simp only [ids]
      rw [bG (by simpa using d),List.getElem?_range d]
     ·simp only [ids]
      rw [bQ (by simp),List.length_range,Nat.add_sub_cancel_left]
      exact so d
     ·simp only [bor,iY,aC]
      refine ⟨a1I hk,fun h5=> ?_⟩
      rcases (z b).1 h5 with h6|h6
      ·exact o h6
      ·exact h4 h6
    obtain ⟨a1,a2,a3⟩:=Sy FI h1
    obtain ⟨b1,b2,b3⟩:=Sr FI h2
    have W:Way st.heap ids bor blks':=by
     refine ⟨?_,b1,b2,fun b d o=> ?_,fun b d=> ?_⟩
     ·simp only [ids]
      rw [jL]
      refine ⟨List.nodup_range,q.1,fun x hx y hy=> ?_⟩
      rw [bV] at hx
      have:=s y hy
      omega
     ·simp only [bor,iY,aC] at d
      exact d.2 o
     ·simp only [bor,iY] at d
      have: ∀(m:List (Nat×Blk)),b∈m.map (·.1)-> ∃k,dP m b=some k:=by
       intro m
       induction m with
       |nil=>intro h;simp at h
       |cons x t ih=>
        intro h
        obtain ⟨j,k⟩:=x
        simp only [dP]
        by_cases e:j=b
        ·exact ⟨k,by rw [ae e]⟩
        ·rw [aa e]
         refine ih ?_
         simp only [aP,b9] at h
         exact h.resolve_left (fun e'=>e e'.symm)
      exact this st.m d.1
    have hfr: ∀c,F.fr c->(oq F μ ids bor).fr c:=fun c hc=> .inl hc
    have IH: @bB F μ st.heap w:= @Inv.H F _ _ _ _ _ _ I
    have H1:=(Yd W IH).weak hfr
    obtain ⟨xs,hrun,hxl,hxv⟩:= @a0z P μ w a F fn st n I af.results vs hc hvs
    have hrel: ∀(i:Nat) (v:V),vs'[i]? =some v-> @aY F (o9 μ ids) (bJ blks') w v (xs.getD i undef):=by
     intro i v hi
     obtain ⟨v0,h0⟩:=eu (l:=vs) (i:=i) (by rw [<-a1];exact dw hi)
     exact (Yg W IH (a2 i v0 v h0 hi) (hxv i v0 h0)).weak hfr
    have SC: @Chg F μ0 (bJ blks) w0 μ st.heap w:= @lk.C F _ _ _ _ _ _ S
    have hsub: ∀i c,o9 μ ids i=some c-> ∃b,μ b=some c:=fun i c hi=>by
     obtain ⟨b,_,d⟩:=Cf hi;exact ⟨b,d⟩
    have hev: @n4 F μ w (o9 μ ids) w:= @n4.mk F _ _ _ _ rfl rfl rfl (aw _) (aw _) (fun c _ hs=>⟨rfl,fun i hi=>by
     obtain ⟨b,d⟩:=hsub i c hi;exact hs.1 b d,hs.2⟩) (fun _ _=>rfl)
    refine ⟨_,hrun,o9 μ ids,H1, @Chg.mk F _ _ _ _ _ _ (@n4.trans F _ _ _ _ _ _ (MI SC) hev) (fun b k hk=> ?_), ?_, ?_,b3⟩
    ·have d:b<blks.length:=dw hk
     obtain ⟨k1,hk1,hr1⟩:=b6G SC b k hk
     obtain ⟨k2,k0,g1,g2,L⟩:=b2 b b (FI.flo b d)
     rw [hk1] at g1;cases g1
     refine ⟨k0,g2, ?_⟩
     have:o9 μ ids b=μ b:=by simp [o9,FI.flo b d]
     rw [L.esz,L.len,L.op,this]
     exact hr1
    ·have hl2:xs.length=vs'.length:=by rw [hxl,a1]
     match vs',xs,hl2,hrel with
     |[],[],_,_=>exact @aY.tup F _ _ _ [] #[] rfl (fun i v h=>by simp at h)
     |[v],[x],_,p=>exact p 0 v rfl
     |v::v2::t,x::x2::t2,hl3,p=>
      exact @aY.tup F _ _ _ (v::v2::t) (x::x2::t2).toArray (by simpa using hl3) (fun i u hu=>by
       have:=p i u hu
       rw [bo] at this
       rw [Array.getD_eq_getD_getElem?,oY]
       exact this)
    ·match vs',a3 with
     |[],_=>rfl
     |[v],o=>
      have:okA v=true:=by simpa using o
      show okR v=true
      cases v<;>first|exact this| (simp [okA,okC] at this)
     |v::v2::t,o=>exact o
   ·cases f
  ·cases f
theorem Sl (hT:zY P T) {n:Nat} (u:lH P (fg T ow n)) {f:FuncId} {af:aJ} (x:T f=some (.code af)) {F:Frame} {μ:Mu} {w:World} {xs:Array Value} {args:List V} {blks:List Blk} {r:V} {blks':List Blk}
 (h:kK af blks.length (dh (fg T ow n) ow n af.body (start args blks))=some (r,blks')) (H: @bB F μ (bJ blks) w) (hl:xs.size=args.length)
 (hv: ∀(i:Nat) (v:V),args[i]? =some v-> @aY F μ (bJ blks) w v (xs.getD i undef)):Reach P f xs w (n7 F μ (bJ blks) w r blks'):=by
 obtain ⟨fn,hn,o,l,a⟩:=hT.code f af x
 unfold sd at a
 split at a
 ·cases a
 ·rename_i c hb
  split at a
  ·rename_i ac rs y z
   split at a
   ·rename_i q
    cases a
    right
    refine ⟨?_,calls_of_wp o hb ?_⟩
    ·have j: ¬fn.name= "runtime.NumGoroutine" :=by simpa using l
     have hp:(program).run P w= .ok P w:=rfl
     simp [callFunc,Sem.run_bind,hp,o,j,hb]
    ·cases he:dh (fg T ow n) ow n ac (start args blks) with
     |none=>rw [he] at h;simp [kK] at h
     |some p=>
      obtain ⟨e,st⟩:=p
      rw [he] at h
      have m:e= .normal\/e= .ret:=by
       cases e with
       |normal=>exact .inl rfl
       |ret=>exact .inr rfl
       |exit id=>simp [kK] at h
      have hm:blks.length<=1000:=by
       revert h
       rcases m with rfl|rfl<;>
       ·simp only [kK]
        intro h
        split at h
        ·cases h
        ·split at h
         ·split at h
          ·assumption
          ·cases h
         ·cases h
      have d:(start args blks).heap=bJ blks:=by
       funext i
       show dP (qM 0 blks) i=blks[i]?
       rw [vN];simp
      have s: ∀t,(start args blks).get t=(args[t]?).getD .undef:=by
       intro t
       show (dP (qM 0 args) t).getD .undef=_
       rw [vN];simp
      refine @Qv P (fg T ow n) ow fn.ntmps hn F u q μ (bJ blks) w n c ac (start args blks) st e μ _ w _ y he ?_ ?_ (fun μ' a' w' I' S'=> ?_)
      ·refine @Inv.mk F _ _ _ _ _ _ (by rw [d];exact H) (fun t=> ?_) (by simp;omega) rfl
       rw [s,d]
       cases ht:args[t]? with
       |none=>exact @aY.unk F _ _ _ _
       |some v=>
        have:=hv t v ht
        have hlt:=dw ht
        rw [Array.getD_eq_getD_getElem?,ff (by omega), <-Array.getD_eq_getD_getElem?]
        exact this
      ·rw [d]
       exact @lk.mk F _ _ _ _ _ _ (@Chg.refl F _ _ _) (fun b k hk=>by have:=dw hk;omega)
      ·obtain ⟨v,h1,h2⟩:=LM I' S' z m h
       have hdf:a'.defers=[]:= @Inv.df F _ _ _ _ _ _ I'
       rcases m with rfl|rfl<;>exact ⟨hdf,v,h1,h2⟩
   ·cases a
  ·cases a
theorem zj (e:zY P T): ∀n,lH P (fg T ow n)
 |0=>fun f args blks r blks' h=>by simp [fg] at h
 |n+1=>fun f args blks r blks' h F μ w xs H c d=>by
  simp only [fg] at h
  split at h
  ·cases h
  ·rename_i af j
   have core: ∀(args:List V) (blks:List Blk) (r:V) (blks':List Blk),kK af blks.length (dh (fg T ow n) ow n af.body (start args blks))=some (r,blks')->
    @bB F μ (bJ blks) w->xs.size=args.length->(∀(i:Nat) (v:V),args[i]? =some v-> @aY F μ (bJ blks) w v (xs.getD i undef))->Reach P f xs w (n7 F μ (bJ blks) w r blks'):=by
    clear h H c d r blks' args blks
    intro args blks r blks' h H c d
    exact Sl e (zj e n) j h H c d
   cases a:kK af blks.length (dh (fg T ow n) ow n af.body (start args blks)) with
   |none=>rw [a] at h;cases h
   |some p=>
    obtain ⟨l,bs0⟩:=p
    rw [a] at h
    simp only [a1v,Option.some.injEq,Prod.mk.injEq] at h
    obtain ⟨rfl,rfl⟩:=h
    have b:=core args blks l bs0 a H c d
    cases k:af.raw with
    |true=>exact b.mono (fun x w' b=>b.czR)
    |false=>exact b.mono (fun x w' b=>b.czR.czB)
  ·rename_i g m
   exact e.ext f g m args blks r blks' h F μ w xs H c d
theorem CP (a:zY P T):lH P (Call T ow):=fun f args blks r blks' h=>by
 obtain ⟨n,hn⟩:=Pr h
 exact zj a n f args blks r blks' hn
end
end
end Go.AI
