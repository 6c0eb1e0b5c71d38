/- Part. -/
import Derived.Test.YtdnkignjanfikaaGreatAiDraw
import Derived.Test.YtdnkignjanfikaaGreatAiLim
set_option linter.unusedVariables false
set_option linter.unusedSimpArgs false
namespace Go.AI
section
def bR.real:bR->Exit
 | .normal=> .normal
 | .exit id=> .exit id
 | .ret=> .ret
theorem Ld {P:Program} {Q:Exit->Act->World->Prop} {c:Code} (T:Nat->Act->World->Prop) (j: ∀a w, ¬T 0 a w)
 (round: ∀k a w,T (k+1) a w->c.wp P (Exit.then (fun a' w'=>T k a' w') Q) a w) {k:Nat} {a:Act} {w:World} (h0:T k a w):(Code.loop c).wp P Q a w:=by
 intro b kk cs
 i key: ∀n a w,T n a w-> ∃e a' w',Q e a' w'/\Arrives P (lone (b.at a (.code c:: .inLoop c::kk)) cs w) b kk cs e a' w':=by
   intro n
   induction n with
   |zero=>exact fun a w h=>absurd h (j a w)
   |succ n ih=>
    intro a w m
    obtain ⟨e,a₁,w₁,f,d⟩:=round n a w m b (.inLoop c::kk) cs
    cases e with
    |normal=>
     obtain ⟨e₂,a₂,w₂,hq₂,harr₂⟩:=ih a₁ w₁ f
     exact ⟨e₂,a₂,w₂,hq₂,.of_steps (Steps.trans d (.one step_inLoop)) harr₂⟩
    |exit id=>exact ⟨_,a₁,w₁,f,.pass (x:= .inLoop c) rfl (fun _ _=> .inl (by simp)) d⟩
    |goto l=>exact ⟨_,a₁,w₁,f,.pass (x:= .inLoop c) rfl (fun _ _=> .inl (by simp)) d⟩
    |ret=>exact ⟨_,a₁,w₁,f,.pass (x:= .inLoop c) rfl (fun _ _=> .inl (by simp)) d⟩
    |panic ch=>exact ⟨_,a₁,w₁,f,.pass (x:= .inLoop c) rfl (fun _ _=> .inl (by simp)) d⟩
    |outgrown=>exact ⟨_,a₁,w₁,f,.pass (x:= .inLoop c) rfl (fun _ _=> .inl (by simp)) d⟩
 obtain ⟨e,a',w',f,d⟩:=key k a w h0
 exact ⟨e,a',w',f,.of_steps (.one step_loop) d⟩
section
variable {P:Program} {C:ce} {ow:ec} {n:Nat} {hn:Im}
theorem rH [Frame] {μ0:Mu} {h0:b8} {w0:World} {id:Nat} {ac:aQ} {a:Act} {w:World} {r:bR×St}: ∀(gs:List (Nat×eU)) (k:Nat) (st:St) (μ:Mu),dh C ow k (yF gs id ac) st=some r->Inv n st.get st.heap μ a w->l8 μ0 h0 w0 μ st.heap w->
 ∃k' st1 μ1,k'<=k/\dh C ow k' ac st1=some r/\Inv n st1.get st1.heap μ1 a w/\l8 μ0 h0 w0 μ1 st1.heap w
 |[],k,st,μ,h,I,S=>⟨k,st,μ,aw _,h,I,S⟩
 | (i,g)::gs,k,st,μ,h,I,S=>by
   simp only [yF,List.foldr_cons] at h
   split at h
   ·cases k with
    |zero=>simp [dh] at h
    |succ k=>
     simp only [dh] at h
     split at h
     ·rename_i st' b
      obtain ⟨μ',I',S'⟩:=Nf b I S
      obtain ⟨k',st1,μ1,d,c,I1,S1⟩:=rH gs k st' μ' h I' S'
      exact ⟨k',st1,μ1,by omega,c,I1,S1⟩
     ·cases h
   ·exact rH gs k st μ h I S
theorem SF [Frame] (z:lN P C) (hm:P.follows .mixedOrders=true) {μ0:Mu} {h0:b8} {w0:World}: ∀(k:Nat) (c:Code) (ac:aQ) (st st':St) (e:bR) (μ:Mu) (a:Act) (w:World) (Q:Exit->Act->World->Prop),
 fk P n hn c=some ac->dh C ow k ac st=some (e,st')->Inv n st.get st.heap μ a w->l8 μ0 h0 w0 μ st.heap w->
 (∀μ' a' w',Inv n st'.get st'.heap μ' a' w'->l8 μ0 h0 w0 μ' st'.heap w'->Q e.real a' w')->c.wp P Q a w:=by
 intro k
 induction k using Nat.strongRecOn with
 |_ k ih=>
  intro c ac st st' e μ a w Q h b I S K
  cases c with
  |skip=>
   simp only [fk,Option.some.injEq] at h
   subst h
   cases k with
   |zero=>simp [dh] at b
   |succ k=>simp only [dh,Option.some.injEq,Prod.mk.injEq] at b;obtain ⟨rfl,rfl⟩:=b;exact wp_skip (K μ a w I S)
  |exit id=>
   simp only [fk,Option.some.injEq] at h
   subst h
   cases k with
   |zero=>simp [dh] at b
   |succ k=>simp only [dh,Option.some.injEq,Prod.mk.injEq] at b;obtain ⟨rfl,rfl⟩:=b;exact wp_exit (K μ a w I S)
  |ret=>
   simp only [fk,Option.some.injEq] at h
   subst h
   obtain ⟨k',st1,μ1,hk,f,I1,S1⟩:=rH _ k st μ b I S
   cases k' with
   |zero=>simp [dh] at f
   |succ k'=>simp only [dh,Option.some.injEq,Prod.mk.injEq] at f;obtain ⟨rfl,rfl⟩:=f;exact wp_ret (K μ1 a w I1 S1)
  |region id ops draw=>
   simp only [fk] at h
   split at h
   ·cases h
   ·rename_i steps s
    cases draw with
    |true=>
     simp only [if_true] at h
     split at h
     ·rename_i hd
      cases h
      obtain ⟨k',st1,μ1,hk,f,I1,S1⟩:=rH _ k st μ b I S
      cases k' with
      |zero=>simp [dh] at f
      |succ k'=>
       simp only [dh] at f
       m i:e= .normal:=by
         unfold B8 at f
         split at f
         ·split at f
          ·cases f;rfl
          ·cases f
         ·cases f
       subst i
       exact (a0o z hm s hd f I1 S1 K).2
     ·cases h
    |false=>
     simp only [bx,if_false,Option.some.injEq] at h
     subst h
     obtain ⟨k',st1,μ1,hk,f,I1,S1⟩:=rH _ k st μ b I S
     cases k' with
     |zero=>simp [dh] at f
     |succ k'=>
      simp only [dh] at f
      m i:e= .normal:=by
        unfold sE at f
        split at f
        ·cases f;rfl
        ·cases f
      subst i
      exact (WT z s f I1 S1 K).2
  |seq x y=>
   simp only [fk] at h
   split at h
   ·rename_i ax ay l t
    cases h
    cases k with
    |zero=>simp [dh] at b
    |succ k=>
     simp only [dh] at b
     refine wp_seq ?_
     cases d:dh C ow k ax st with
     |none=>rw [d] at b;cases b
     |some p=>
      obtain ⟨e1,st1⟩:=p
      rw [d] at b
      cases e1 with
      |normal=>exact ih k (by omega) x ax st st1 .normal μ a w _ l d I S (fun μ' a' w' I' S'=>ih k (by omega) y ay st1 st' e μ' a' w' Q t b I' S' K)
      |exit id=>cases b;exact ih k (by omega) x ax st st' (.exit id) μ a w _ l d I S (fun μ' a' w' I' S'=>K μ' a' w' I' S')
      |ret=>cases b;exact ih k (by omega) x ax st st' .ret μ a w _ l d I S (fun μ' a' w' I' S'=>K μ' a' w' I' S')
   ·cases h
  |cond cd x y=>
   simp only [fk] at h
   split at h
   ·rename_i acd ax ay u l t
    cases h
    cases k with
    |zero=>simp [dh] at b
    |succ k=>
     simp only [dh] at b
     m r:=bM I.E u
     split at b
     ·rename_i o
      rw [show Opd.ev st.get acd=_ from o] at r
      generalize v:a.eval cd=X at r
      cases r
      exact wp_cond_true v (ih k (by omega) x ax st st' e μ a w Q l b I S K)
     ·rename_i o
      rw [show Opd.ev st.get acd=_ from o] at r
      generalize v:a.eval cd=X at r
      cases r
      exact wp_cond_false v (ih k (by omega) y ay st st' e μ a w Q t b I S K)
     ·cases b
   ·cases h
  |block id x=>
   simp only [fk] at h
   obtain ⟨ax,l,rfl⟩:=sG h
   cases k with
   |zero=>simp [dh] at b
   |succ k=>
    simp only [dh] at b
    refine wp_block ?_
    cases d:dh C ow k ax st with
    |none=>rw [d] at b;cases b
    |some p=>
     obtain ⟨e1,st1⟩:=p
     rw [d] at b
     cases e1 with
     |normal=>cases b;exact ih k (by omega) x ax st st' .normal μ a w _ l d I S (fun μ' a' w' I' S'=>K μ' a' w' I' S')
     |exit id'=>
      simp only at b
      refine ih k (by omega) x ax st st1 (.exit id') μ a w _ l d I S (fun μ' a' w' I' S'=> ?_)
      show (if id'=id then Q .normal a' w' else Q (.exit id') a' w')
      split at b
      ·rename_i q;cases b;rw [ae q];exact K μ' a' w' I' S'
      ·rename_i q;cases b;rw [aa q];exact K μ' a' w' I' S'
     |ret=>cases b;exact ih k (by omega) x ax st st' .ret μ a w _ l d I S (fun μ' a' w' I' S'=>K μ' a' w' I' S')
  |loop x=>
   simp only [fk] at h
   obtain ⟨ax,l,rfl⟩:=sG h
   refine Ld (k:=k) (fun j a w=>j<=k/\ ∃st1 μ1,dh C ow j (.loop ax) st1=some (e,st')/\Inv n st1.get st1.heap μ1 a w/\l8 μ0 h0 w0 μ1 st1.heap w) (fun a w=> ?_) (fun j a w hT=> ?_) ⟨aw _,st,μ,b,I,S⟩
   ·rintro ⟨_,st1,μ1,f,_⟩;simp [dh] at f
   ·obtain ⟨hj,st1,μ1,f,I1,S1⟩:=hT
    simp only [dh] at f
    cases d:dh C ow j ax st1 with
    |none=>rw [d] at f;cases f
    |some p=>
     obtain ⟨e1,st2⟩:=p
     rw [d] at f
     cases e1 with
     |normal=>exact ih j (by omega) x ax st1 st2 .normal μ1 a w _ l d I1 S1 (fun μ' a' w' I' S'=>⟨by omega,st2,μ',f,I',S'⟩)
     |exit id=>cases f;exact ih j (by omega) x ax st1 st' (.exit id) μ1 a w _ l d I1 S1 (fun μ' a' w' I' S'=>K μ' a' w' I' S')
     |ret=>cases f;exact ih j (by omega) x ax st1 st' .ret μ1 a w _ l d I1 S1 (fun μ' a' w' I' S'=>K μ' a' w' I' S')
  |_=>simp [fk] at h
end
end
section
theorem aY.weak {F F':Frame} (hf: ∀c,F.fr c->F'.fr c) {μ:Mu} {h:b8} {w:World} {v:V} {x:Value} (u: @aY F' μ h w v x): @aY F μ h w v x:=by
 have st: ∀c, @pd F' μ c-> @pd F μ c:=fun c l=>⟨l.1,fun h1=>l.2 (hf c h1)⟩
 induction u with
 |lit v=>exact @aY.lit F μ h w v
 |agg cs xs p d m ih=>exact @aY.agg F μ h w cs xs p d ih
 |tup vs xs p m ih=>exact @aY.tup F μ h w vs xs p ih
 |ptr b i o n x k q y r z hd=>exact @aY.ptr F μ h w b i o n x k q y r z hd
 |mp b x k q r hm=>exact @aY.mp F μ h w b x k q r hm
 |sl b s n x k q y r z=>exact @aY.sl F μ h w b s n x k q y r z
 |emp a=>exact @aY.emp F μ h w a
 |imm0 e a cap he=>exact @aY.imm0 F μ h w e a cap he
 |imm e rows c off cap ys he hr t m l j d u ih=>exact @aY.imm F μ h w e rows c off cap ys he hr t m (st c l) j d ih
 |iptr row o c off ys m l j d u ih=>exact @aY.iptr F μ h w row o c off ys m (st c l) j d ih
 |fn f caps xs p m ih=>exact @aY.fn F μ h w f caps xs p ih
 |unk x=>exact @aY.unk F μ h w x
theorem bB.weak {F F':Frame} (d: ∀c,F.fr c->F'.fr c) {μ:Mu} {h:b8} {w:World} (H: @bB F' μ h w): @bB F μ h w:=by
 refine @bB.mk F μ h w (c6f H) (c2K H) (fun b k f=> ?_) (a6G H) (fun b c a e=>WL H b c a (d c e)) (fun c l=>c1S H c (d c l))
 rcases b99 H b k f with a|⟨m,c,arr,t,lo,hi,gm,gh,gf,gl,gv⟩|a
 ·exact .inl a
 ·exact .inr (.inl ⟨m,c,arr,t,lo,hi,gm,gh,gf,gl,fun i row j v a e=>(gv i row j v a e).weak d⟩)
 ·exact .inr (.inr a)
structure TC (h:b8) (m:Nat) (kp:List Nat) (ids bor:List Nat):Prop where
 flo: ∀b,b<m->ids[b]? =some b
 fkp: ∀b,b∈kp->ids[m+kK b kp]? =some b
 fbor: ∀b k,h b=some k-> ¬b<m->b∉kp->b∈bor
section
variable {h:b8} {m:Nat} {kp ids bor:List Nat}
theorem MK (F:TC h m kp ids bor) {v v':V} (c:pK h m kp v=some v'):zi h ids bor v v'/\okC v'=true:=by
 cases v with
 |sl b s n=>
  simp only [pK] at c
  split at c
  ·rename_i d;cases c;exact ⟨.sl b s n b (F.flo b d),rfl⟩
  ·rename_i d
   split at c
   ·rename_i j;cases c;exact ⟨.sl b s n _ (F.fkp b j),rfl⟩
   ·rename_i j
    split at c
    ·rename_i v1 bs l
     cases c
     simp only [pu] at l
     split at l
     ·rename_i k p
      split at l
      ·rename_i q
       cases l
       exact ⟨.bor b s n k (F.fbor b k p d j) p q.1 q.2.1 q.2.2,rfl⟩
      ·cases l
     ·cases l
    ·cases c
 |ptr b i o n=>
  simp only [pK] at c
  split at c
  ·rename_i d;cases c;exact ⟨.ptr b i o n b (F.flo b d),rfl⟩
  ·rename_i d
   split at c
   ·rename_i j;cases c;exact ⟨.ptr b i o n _ (F.fkp b j),rfl⟩
   ·cases c
 |mp b=>
  simp only [pK] at c
  split at c
  ·rename_i d;cases c;exact ⟨.mp b b (F.flo b d),rfl⟩
  ·rename_i d
   split at c
   ·rename_i j;cases c;exact ⟨.mp b _ (F.fkp b j),rfl⟩
   ·cases c
 |fn f cs=>
  cases cs with
  |nil=>simp only [pK] at c;cases c;exact ⟨.fn f,rfl⟩
  |cons a b=>simp [pK] at c
 |lit y=>simp only [pK] at c;cases c;exact ⟨.lit y,rfl⟩
 |imm e r=>simp only [pK] at c;cases c;exact ⟨.imm e r,rfl⟩
 |iptr r o=>simp only [pK] at c;cases c;exact ⟨.iptr r o,rfl⟩
 |undef=>simp only [pK] at c;cases c;exact ⟨.undef,rfl⟩
 |agg cs=>simp [pK] at c
 |tup cs=>simp [pK] at c
theorem Jo (F:TC h m kp ids bor): ∀{cs cs':List V},wz h m kp cs=some cs'->cs'.length=cs.length/\(∀(i:Nat) (v v':V),cs[i]? =some v->cs'[i]? =some v'->zi h ids bor v v')/\cs'.all okC=true
 |[],cs',a=>by
  simp [wz] at a;subst a
  exact ⟨rfl,(fun i v v' h=>by simp at h),rfl⟩
 |v::r,cs',a=>by
  simp only [wz] at a
  split at a
  ·rename_i v1 n d e
   cases a
   obtain ⟨f,a2⟩:=MK F d
   obtain ⟨j,k,l⟩:=Jo F e
   refine ⟨by simp [j],fun i u u' c b=> ?_,by simp [a2];simpa using l⟩
   cases i with
   |zero=>simp at c b;subst c;subst b;exact f
   |succ i=>exact k i u u' (by simpa using c) (by simpa using b)
  ·cases a
theorem b0b (F:TC h m kp ids bor) {v v':V} (d:ET h m kp v=some v'):yz h ids bor v v'/\okA v'=true:=by
 k other:pK h m kp v=some v'->yz h ids bor v v'/\okA v'=true:=fun j=>by
   obtain ⟨a,b⟩:=MK F j
   refine ⟨.cell _ _ a, ?_⟩
   cases v'<;>first|exact b| (simp [okC] at b)
 cases v with
 |agg cs=>
  simp only [ET] at d
  split at d
  ·rename_i cs' j
   cases d
   obtain ⟨a,b,c⟩:=Jo F j
   exact ⟨.agg _ _ a b,c⟩
  ·cases d
 |tup cs=>simp [ET] at d
 |lit y=>exact other d
 |ptr b i o n=>exact other d
 |sl b s n=>exact other d
 |imm e r=>exact other d
 |iptr r o=>exact other d
 |fn f cs=>exact other d
 |undef=>exact other d
 |mp b=>exact other d
theorem RK (F:TC h m kp ids bor): ∀{cs cs':List V},wx h m kp cs=some cs'->cs'.length=cs.length/\(∀(i:Nat) (v v':V),cs[i]? =some v->cs'[i]? =some v'->yz h ids bor v v')/\cs'.all okA=true
 |[],cs',a=>by
  simp [wx] at a;subst a
  exact ⟨rfl,(fun i v v' h=>by simp at h),rfl⟩
 |v::r,cs',a=>by
  simp only [wx] at a
  split at a
  ·rename_i v1 n d e
   cases a
   obtain ⟨f,a2⟩:=b0b F d
   obtain ⟨j,k,l⟩:=RK F e
   refine ⟨by simp [j],fun i u u' c b=> ?_,by simp [a2];simpa using l⟩
   cases i with
   |zero=>simp at c b;subst c;subst b;exact f
   |succ i=>exact k i u u' (by simpa using c) (by simpa using b)
  ·cases a
theorem a8B (F:TC h m kp ids bor) {v v':V} (e:Hx h m kp v=some v'):yz h ids bor v v'/\okD v'=true:=by
 j other:pK h m kp v=some v'->yz h ids bor v v'/\okD v'=true:=fun i=>by
   obtain ⟨a,b⟩:=MK F i
   refine ⟨.cell _ _ a, ?_⟩
   cases v' with
   |fn f cs=>
    cases cs with
    |nil=>rfl
    |cons c d=>simp [okC] at b
   |_=>exact b
 cases v with
 |fn f cs=>
  cases cs with
  |nil=>exact other e
  |cons c cs=>
   simp only [Hx] at e
   split at e
   ·rename_i cs' i
    cases e
    obtain ⟨a,b,c⟩:=Jo F i
    exact ⟨.fn f _ _ a b,c⟩
   ·cases e
 |_=>exact other e
theorem PU (F:TC h m kp ids bor): ∀{cs cs':List V},Ak h m kp cs=some cs'->cs'.length=cs.length/\(∀(i:Nat) (v v':V),cs[i]? =some v->cs'[i]? =some v'->yz h ids bor v v')/\cs'.all okD=true
 |[],cs',a=>by
  simp [Ak] at a;subst a
  exact ⟨rfl,(fun i v v' h=>by simp at h),rfl⟩
 |v::r,cs',a=>by
  simp only [Ak] at a
  split at a
  ·rename_i v1 n d e
   cases a
   obtain ⟨f,a2⟩:=a8B F d
   obtain ⟨j,k,l⟩:=PU F e
   refine ⟨by simp [j],fun i u u' c b=> ?_,by simp [a2];simpa using l⟩
   cases i with
   |zero=>simp at c b;subst c;subst b;exact f
   |succ i=>exact k i u u' (by simpa using c) (by simpa using b)
  ·cases a
theorem Li (F:TC h m kp ids bor): ∀{rs rs':List (List V)},uq h m kp rs=some rs'->rs'.length=rs.length/\(∀(i:Nat) (row row':List V),rs[i]? =some row->rs'[i]? =some row'->row'.length=row.length/\ ∀(j:Nat) (v v':V),row[j]? =some v->row'[j]? =some v'->yz h ids bor v v')/\
 ∀row∈rs', ∀v∈row,okD v=true
 |[],rs',a=>by
  simp [uq] at a;subst a
  exact ⟨rfl,(fun i v v' h=>by simp at h),fun row c=>by simp at c⟩
 |v::r,rs',a=>by
  simp only [uq] at a
  split at a
  ·rename_i v1 q e f
   cases a
   obtain ⟨k,a2,a3⟩:=PU F e
   obtain ⟨l,n,o⟩:=Li F f
   refine ⟨by simp [l],fun i u u' d b=> ?_,fun row c=> ?_⟩
   ·cases i with
    |zero=>simp at d b;subst d;subst b;exact ⟨k,a2⟩
    |succ i=>exact n i u u' (by simpa using d) (by simpa using b)
   ·rcases b9.1 c with rfl|c
    ·exact fun v p=>aB.1 a3 v p
    ·exact o row c
  ·cases a
theorem a9m (F:TC h m kp ids bor) {k j:Blk} (e:SJ h m kp k=some j):a0N h ids bor k j/\okB j:=by
 unfold SJ at e
 split at e
 ·rename_i f
  cases e
  exact ⟨⟨rfl,rfl,rfl,(fun _=>rfl),(fun d=>by rw [f] at d;cases d)⟩,fun d=>by rw [f] at d;cases d⟩
 ·rename_i f
  split at e
  ·rename_i rows d
   cases e
   obtain ⟨a,b,c⟩:=Li F d
   exact ⟨⟨rfl,rfl,a,(fun l=>absurd l f),(fun _ i row row' n o=>b i row row' n o)⟩,fun _=>c⟩
  ·cases e
theorem SL (F:TC h m kp ids bor): ∀{l:List Nat} {bs:List Blk},vk h m kp l=some bs->l.length=bs.length/\(∀(i b:Nat),l[i]? =some b-> ∃k f,h b=some k/\bs[i]? =some f/\a0N h ids bor k f)/\ ∀k∈bs,okB k
 |[],bs,a=>by
  simp [vk] at a;subst a
  exact ⟨rfl,(fun i b h=>by simp at h),fun k d=>by simp at d⟩
 |b::r,bs,a=>by
  simp only [vk] at a
  split at a
  ·rename_i k d
   split at a
   ·rename_i k' r' j n
    cases a
    obtain ⟨o,a2⟩:=a9m F j
    obtain ⟨p,q,s⟩:=SL F n
    refine ⟨by simp [p],fun i b' e=> ?_,fun t c=> ?_⟩
    ·cases i with
     |zero=>simp at e;subst e;exact ⟨k,k',d,rfl,o⟩
     |succ i=>simpa using q i b' (by simpa using e)
    ·rcases b9.1 c with rfl|c
     ·exact a2
     ·exact s t c
   ·cases a
  ·cases a
end
theorem a1O {α:Type}: ∀{m:List (Nat×α)} {b:Nat} {k:α},dP m b=some k->b∈m.map (·.1)
 | (j,u)::r,b,k,h=>by
   simp only [dP] at h
   split at h
   ·rename_i e;subst e;simp
   ·simp only [aP,b9];exact .inr (a1O h)
theorem JI (m:Nat): ∀(r acc:List Nat),acc.Nodup->(∀b∈acc,m<=b)->(DW m acc r).Nodup/\ ∀b∈DW m acc r,m<=b
 |[],acc,d,f=>⟨d,f⟩
 |x::r,acc,d,f=>by
  simp only [DW]
  split
  ·rename_i i
   refine JI m r _ ?_ (fun b c=> ?_)
   ·unfold gj
    split
    ·exact d
    ·rename_i j
     exact jP.2 ⟨d,by simp,fun a k b c e=>by simp at c;subst c;subst e;exact j k⟩
   ·unfold gj at c
    split at c
    ·exact f b c
    ·rcases aX.1 c with h|h
     ·exact f b h
     ·simp at h;subst h;exact i
  ·exact JI m r acc d f
section
variable {P:Program} {μ:Mu} {w:World} {a:Act}
def S7 (a:Act):ResultVar->Sem Value
 | .tmp t=>pure (a.tmps.getD t undef)
 | .cell b t=>do loadVar t (<-asAddr (a.tmps.getD b undef))
theorem ZQ [Frame] {st:St} {n:Nat} (I:Inv n st.get st.heap μ a w): ∀{rs:List ResultVar} {as:List Kv} {vs:List V},s7 P rs=some as->m2 st as=some vs->
 ∃xs:List Value,(rs.mapM (S7 a)).run P w= .ok xs w/\xs.length=vs.length/\ ∀(i:Nat) (v:V),vs[i]? =some v->aY μ st.heap w v (xs.getD i undef)
 |[],as,vs,d,f=>by
  simp [s7] at d;subst d
  simp [m2] at f;subst f
  exact ⟨[],rfl,rfl,fun i v h=>by simp at h⟩
 |r::rs,as,vs,d,f=>by
  l tail: ∀{x:Kv} {as':List Kv},as=x::as'->s7 P rs=some as'-> ∃v vs',vs=v::vs'/\HM st x=some v/\m2 st as'=some vs':=by
    intro x as' e _
    subst e
    simp only [m2] at f
    split at f
    ·rename_i v vs' j m;cases f;exact ⟨v,vs',rfl,j,m⟩
    ·cases f
  cases r with
  |tmp t=>
   simp only [s7] at d
   obtain ⟨as',o,rfl⟩:=sG d
   obtain ⟨v,vs',rfl,j,m⟩:=tail rfl o
   obtain ⟨xs,e1,e2,p⟩:=ZQ I o m
   simp only [HM,Option.some.injEq] at j
   refine ⟨a.tmps.getD t undef::xs, ?_,by simp [e2],fun i u k=> ?_⟩
   ·rw [List.mapM_cons]
    simp only [S7,Sem.run_bind,Sem.run_pure,Result.andThen_ok,e1]
   ·cases i with
    |zero=>simp at k;subst k;rw [<-j];exact I.E t
    |succ i=>exact p i u (by simpa using k)
  |cell b t=>
   simp only [s7] at d
   split at d
   ·rename_i g as' q o
    cases d
    obtain ⟨v,vs',rfl,j,m⟩:=tail rfl o
    obtain ⟨xs,e1,e2,p⟩:=ZQ I o m
    simp only [HM] at j
    obtain ⟨c,off,y,s,z,hv⟩:=VG (P:=P) (t:=t) I.H (I.E b) q j
    refine ⟨y::xs, ?_,by simp [e2],fun i u k=> ?_⟩
    ·l e0:(S7 a (.cell b t)).run P w= .ok y w:=by
       simp only [S7,Sem.run_bind,s,asAddr,Sem.run_pure,Result.andThen_ok,z]
     rw [List.mapM_cons]
     simp only [Sem.run_bind,e0,Sem.run_pure,Result.andThen_ok,e1]
    ·cases i with
     |zero=>simp at k;subst k;exact hv
     |succ i=>exact p i u (by simpa using k)
   ·cases d
theorem a26 [Frame] {fn:Func} {st:St} {n:Nat} (I:Inv n st.get st.heap μ a w) {as:List Kv} {vs:List V} (c:s7 P fn.results.toList=some as) (d:m2 st as=some vs):
 ∃xs:List Value,(results fn a.tmps).run P w= .ok (match xs with
  |[x]=>x
  |xs=> .tuple xs.toArray) w/\xs.length=vs.length/\ ∀(i:Nat) (v:V),vs[i]? =some v->aY μ st.heap w v (xs.getD i undef):=by
 obtain ⟨xs,e,f,j⟩:=ZQ I c d
 refine ⟨xs, ?_,f,j⟩
 b k:results fn a.tmps=(do
    let vs <-fn.results.mapM (S7 a)
    pure (if h:vs.size=1 then vs[0] else .tuple vs)):=by
   unfold results
   congr 2
 rw [k,Array.mapM_eq_mapM_toList]
 simp only [Sem.run_bind,Sem.run_map,e,Result.andThen_ok]
 simp only [Sem.run_pure,List.size_toArray]
 match xs with
 |[]=>rfl
 |[x]=>rfl
 |x::y::r=>rfl
end
section
variable {P:Program} {T:Tab} {ow:ec}
structure Ad (P:Program) (T:Tab):Prop where
 code: ∀f af,T f=some (.code af)-> ∃fn hn,P.funcs[f]? =some fn/\(fn.name== "runtime.NumGoroutine")=false/\rE P fn hn=some af
 ext: ∀f g,T f=some (.ext g)-> ∀args blks r blks',g args blks=some (r,blks')-> ∀(F:Frame) (μ:Mu) (w:World) (xs:Array Value), @bB F μ (bJ blks) w->xs.size=args.length->
  (∀(i:Nat) (v:V),args[i]? =some v-> @aY F μ (bJ blks) w v (xs.getD i undef))->Reach P f xs w (n4 F μ (bJ blks) w r blks')
theorem vP {α:Type}: ∀(l:List α) (n i:Nat),dP (qK n l) i=if n<=i then l[i-n]? else none
 |[],n,i=>by simp [qK,dP]
 |x::r,n,i=>by
  simp only [qK,dP]
  by_cases e:n=i
  ·subst e;simp
  ·rw [aa e,vP r (n+1) i]
   by_cases a:n<=i
   ·rw [ae a,ae (by omega)]
    b:i-n=(i-(n+1))+1:=by omega
    rw [this];simp
   ·rw [aa a,aa (by omega)]
theorem LO {F:Frame} {μ0:Mu} {w0:World} {blks:List Blk} {n:Nat} {af:aJ} {st:St} {μ:Mu} {a:Act} {w:World} {r:V} {blks':List Blk} {fn:Func} (I: @Inv F n st.get st.heap μ a w) (S: @l8 F μ0 (bJ blks) w0 μ st.heap w)
 (hc:s7 P fn.results.toList=some af.results) {e:bR} (he:e= .normal\/e= .ret) (hf:kG af blks.length (some (e,st))=some (r,blks')):
 ∃v,(results fn a.tmps).run P w= .ok v w/\n4 F μ0 (bJ blks) w0 r blks' v w:=by
 d o:(match m2 st af.results with
    |none=>none
    |some vs=>match wx st.heap blks.length (if af.keep then lZ af.raw st.heap blks.length vs else []) vs,vk st.heap blks.length (if af.keep then lZ af.raw st.heap blks.length vs else []) (List.range blks.length++(if af.keep then lZ af.raw st.heap blks.length vs else [])) with
     |some vs',some bs=>if blks.length<=1000 then some (Xk vs',bs) else none
     |_,_=>none)=some (r,blks'):=by
   rcases he with rfl|rfl<;>exact hf
 clear hf
 split at o
 ·cases o
 ·rename_i vs hvs
  generalize hkp:(if af.keep then lZ af.raw st.heap blks.length vs else [])=kp at o
  split at o
  ·rename_i vs' bs h1 h2
   split at o
   ·rename_i hm
    cases o
    d s:kp.Nodup/\ ∀b∈kp,blks.length<=b:=by
      rw [<-hkp]
      split
      ·exact JI _ _ [] jC (fun b f=>by cases f)
      ·exact ⟨jC,fun b f=>by cases f⟩
    d z:=s.2
    let ids:=List.range blks.length++kp
    let bor:=(st.m.map (·.1)).filter (fun b=>decide (b∉ids))
    d hmem: ∀b,b∈ids↔b<blks.length\/b∈kp:=by
      intro b
      simp only [ids,aX,bU]
    d FI:TC st.heap blks.length kp ids bor:=by
      refine ⟨fun b f=> ?_,fun b f=> ?_,fun b k hk p h4=> ?_⟩
      ·simp only [ids]
       rw [bG (by simpa using f),List.getElem?_range f]
      ·simp only [ids]
       rw [bQ (by simp),List.length_range,Nat.add_sub_cancel_left]
       exact s8 f
      ·simp only [bor,iW,aC]
       refine ⟨a1O hk,fun h5=> ?_⟩
       rcases (hmem b).1 h5 with h6|h6
       ·exact p h6
       ·exact h4 h6
    obtain ⟨a1,a2,a3⟩:=RK FI h1
    obtain ⟨b1,b2,b3⟩:=SL FI h2
    d W:Way st.heap ids bor blks':=by
      refine ⟨?_,b1,b2,fun b f p=> ?_,fun b f=> ?_⟩
      ·simp only [ids]
       rw [jP]
       refine ⟨List.nodup_range,s.1,fun x hx y hy=> ?_⟩
       rw [bU] at hx
       d:=z y hy
       omega
      ·simp only [bor,iW,aC] at f
       exact f.2 p
      ·simp only [bor,iW] at f
       d: ∀(m:List (Nat×Blk)),b∈m.map (·.1)-> ∃k,dP m b=some k:=by
        intro m
        induction m with
        |nil=>intro h;simp at h
        |cons x t ih=>
         intro h
         obtain ⟨j,k⟩:=x
         simp only [dP]
         by_cases e:j=b
         ·exact ⟨k,by rw [ae e]⟩
         ·rw [aa e]
          refine ih ?_
          simp only [aP,b9] at h
          exact h.resolve_left (fun e'=>e e'.symm)
       exact this st.m f.1
    d hfr: ∀c,F.fr c->(oD F μ ids bor).fr c:=fun c hc=> .inl hc
    d IH: @bB F μ st.heap w:= @Inv.H F _ _ _ _ _ _ I
    d H1:=(ZI W IH).weak hfr
    obtain ⟨xs,hrun,hxl,hxv⟩:= @a26 P μ w a F fn st n I af.results vs hc hvs
    d hrel: ∀(i:Nat) (v:V),vs'[i]? =some v-> @aY F (nM μ ids) (bJ blks') w v (xs.getD i undef):=by
      intro i v hi
      obtain ⟨v0,h0⟩:=ep (l:=vs) (i:=i) (by rw [<-a1];exact dv hi)
      exact (XI W IH (a2 i v0 v h0 hi) (hxv i v0 h0)).weak hfr
    d SC: @Chg F μ0 (bJ blks) w0 μ st.heap w:= @l8.C F _ _ _ _ _ _ S
    d hsub: ∀i c,nM μ ids i=some c-> ∃b,μ b=some c:=fun i c hi=>by
      obtain ⟨b,_,f⟩:=BN hi;exact ⟨b,f⟩
    d hev: @n0 F μ w (nM μ ids) w:= @n0.mk F _ _ _ _ rfl rfl rfl (aw _) (aw _) (fun c _ hs=>⟨rfl,fun i hi=>by
      obtain ⟨b,f⟩:=hsub i c hi;exact hs.1 b f,hs.2⟩) (fun _ _=>rfl)
    refine ⟨_,hrun,nM μ ids,H1, @Chg.mk F _ _ _ _ _ _ (@n0.trans F _ _ _ _ _ _ (Mh SC) hev) (fun b k hk=> ?_), ?_, ?_,b3⟩
    ·d f:b<blks.length:=dv hk
     obtain ⟨k1,hk1,hr1⟩:=b5K SC b k hk
     obtain ⟨k2,k0,g1,g2,L⟩:=b2 b b (FI.flo b f)
     rw [hk1] at g1;cases g1
     refine ⟨k0,g2, ?_⟩
     d:nM μ ids b=μ b:=by simp [nM,FI.flo b f]
     rw [L.esz,L.len,L.op,this]
     exact hr1
    ·d hl2:xs.length=vs'.length:=by rw [hxl,a1]
     match vs',xs,hl2,hrel with
     |[],[],_,_=>exact @aY.tup F _ _ _ [] #[] rfl (fun i v h=>by simp at h)
     |[v],[x],_,q=>exact q 0 v rfl
     |v::v2::t,x::x2::t2,hl3,q=>
      exact @aY.tup F _ _ _ (v::v2::t) (x::x2::t2).toArray (by simpa using hl3) (fun i u hu=>by
       d:=q i u hu
       rw [bo] at this
       rw [Array.getD_eq_getD_getElem?,oW]
       exact this)
    ·match vs',a3 with
     |[],_=>rfl
     |[v],p=>
      d:okA v=true:=by simpa using p
      show okR v=true
      cases v<;>first|exact this| (simp [okA,okC] at this)
     |v::v2::t,p=>exact p
   ·cases o
  ·cases o
theorem QF (hT:Ad P T) {n:Nat} (x:lN P (fh T ow n)) {f:FuncId} {af:aJ} (y:T f=some (.code af)) {F:Frame} {μ:Mu} {w:World} {xs:Array Value} {args:List V} {blks:List Blk} {r:V} {blks':List Blk}
 (h:kG af blks.length (dh (fh T ow n) ow n af.body (start args blks))=some (r,blks')) (H: @bB F μ (bJ blks) w) (hl:xs.size=args.length)
 (hv: ∀(i:Nat) (v:V),args[i]? =some v-> @aY F μ (bJ blks) w v (xs.getD i undef)):Reach P f xs w (n4 F μ (bJ blks) w r blks'):=by
 obtain ⟨fn,hn,q,m,a⟩:=hT.code f af y
 unfold rE at a
 split at a
 ·cases a
 ·rename_i c hb
  split at a
  ·rename_i ac rs z hcr
   split at a
   ·rename_i s
    cases a
    right
    refine ⟨?_,calls_of_wp q hb ?_⟩
    ·d l: ¬fn.name= "runtime.NumGoroutine" :=by simpa using m
     d hp:(program).run P w= .ok P w:=rfl
     simp [callFunc,Sem.run_bind,hp,q,l,hb]
    ·cases he:dh (fh T ow n) ow n ac (start args blks) with
     |none=>rw [he] at h;simp [kG] at h
     |some p=>
      obtain ⟨e,st⟩:=p
      rw [he] at h
      d o:e= .normal\/e= .ret:=by
        cases e with
        |normal=>exact .inl rfl
        |ret=>exact .inr rfl
        |exit id=>simp [kG] at h
      d hm:blks.length<=1000:=by
        revert h
        rcases o with rfl|rfl<;>
        ·simp only [kG]
         intro h
         split at h
         ·cases h
         ·split at h
          ·split at h
           ·assumption
           ·cases h
          ·cases h
      d j:(start args blks).heap=bJ blks:=by
        funext i
        show dP (qK 0 blks) i=blks[i]?
        rw [vP];simp
      d u: ∀t,(start args blks).get t=(args[t]?).getD .undef:=by
        intro t
        show (dP (qK 0 args) t).getD .undef=_
        rw [vP];simp
      refine @SF P (fh T ow n) ow fn.ntmps hn F x s μ (bJ blks) w n c ac (start args blks) st e μ _ w _ z he ?_ ?_ (fun μ' a' w' I' S'=> ?_)
      ·refine @Inv.mk F _ _ _ _ _ _ (by rw [j];exact H) (fun t=> ?_) (by simp;omega) rfl
       rw [u,j]
       cases ht:args[t]? with
       |none=>exact @aY.unk F _ _ _ _
       |some v=>
        d:=hv t v ht
        d hlt:=dv ht
        rw [Array.getD_eq_getD_getElem?,fc (by omega), <-Array.getD_eq_getD_getElem?]
        exact this
      ·rw [j]
       exact @l8.mk F _ _ _ _ _ _ (@Chg.refl F _ _ _) (fun b k hk=>by d:=dv hk;omega)
      ·obtain ⟨v,h1,h2⟩:=LO I' S' hcr o h
       d hdf:a'.defers=[]:= @Inv.df F _ _ _ _ _ _ I'
       rcases o with rfl|rfl<;>exact ⟨hdf,v,h1,h2⟩
   ·cases a
  ·cases a
theorem Ao (j:Ad P T): ∀n,lN P (fh T ow n)
 |0=>fun f args blks r blks' h=>by simp [fh] at h
 |n+1=>fun f args blks r blks' h F μ w xs H c d=>by
  simp only [fh] at h
  split at h
  ·cases h
  ·rename_i af k
   e core: ∀(args:List V) (blks:List Blk) (r:V) (blks':List Blk),kG af blks.length (dh (fh T ow n) ow n af.body (start args blks))=some (r,blks')->
    @bB F μ (bJ blks) w->xs.size=args.length->(∀(i:Nat) (v:V),args[i]? =some v-> @aY F μ (bJ blks) w v (xs.getD i undef))->Reach P f xs w (n4 F μ (bJ blks) w r blks'):=by
     clear h H c d r blks' args blks
     intro args blks r blks' h H c d
     exact QF j (Ao j n) k h H c d
   cases a:kG af blks.length (dh (fh T ow n) ow n af.body (start args blks)) with
   |none=>rw [a] at h;cases h
   |some p=>
    obtain ⟨m,bs0⟩:=p
    rw [a] at h
    simp only [a1L,Option.some.injEq,Prod.mk.injEq] at h
    obtain ⟨rfl,rfl⟩:=h
    e b:=core args blks m bs0 a H c d
    cases l:af.raw with
    |true=>exact b.mono (fun x w' b=>b.czR)
    |false=>exact b.mono (fun x w' b=>b.czR.czB)
  ·rename_i g o
   exact j.ext f g o args blks r blks' h F μ w xs H c d
theorem Db (a:Ad P T):lN P (Call T ow):=fun f args blks r blks' h=>by
 obtain ⟨n,b⟩:=Pi h
 exact Ao a n f args blks r blks' b
end
end
end Go.AI
