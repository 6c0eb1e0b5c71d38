/- Control and functions: a run of the abstract machine's is a run of the model's. -/
import Derived.Test.YtdnkignjanfikaaGreatAiDraw
import Derived.Test.YtdnkignjanfikaaGreatAiLim
set_option linter.unusedVariables false
set_option linter.unusedSimpArgs false
namespace Go.AI
section
def bT.real:bT->Exit
 | .normal=> .normal
 | .exit id=> .exit id
 | .ret=> .ret
theorem M8 {P:Program} {Q:Exit->Act->World->Prop} {c:Code} (T:Nat->Act->World->Prop) (hz: ∀a w, ¬T 0 a w)
 (round: ∀k a w,T (k+1) a w->c.wp P (Exit.then (fun a' w'=>T k a' w') Q) a w) {k:Nat} {a:Act} {w:World} (h0:T k a w):(Code.loop c).wp P Q a w:=by
 intro b kk cs
 have key: ∀n a w,T n a w-> ∃e a' w',Q e a' w'/\Arrives P (lone (b.at a (.code c:: .inLoop c::kk)) cs w) b kk cs e a' w':=by
  intro n
  induction n with
  |zero=>exact fun a w h=>absurd h (hz a w)
  |succ n ih=>
   intro a w hT
   obtain ⟨e,a₁,w₁,hq,harr⟩:=round n a w hT b (.inLoop c::kk) cs
   cases e with
   |normal=>
    obtain ⟨e₂,a₂,w₂,hq₂,harr₂⟩:=ih a₁ w₁ hq
    exact ⟨e₂,a₂,w₂,hq₂,.of_steps (Steps.trans harr (.one step_inLoop)) harr₂⟩
   |exit id=>exact ⟨_,a₁,w₁,hq,.pass (x:= .inLoop c) rfl (fun _ _=> .inl (by simp)) harr⟩
   |goto l=>exact ⟨_,a₁,w₁,hq,.pass (x:= .inLoop c) rfl (fun _ _=> .inl (by simp)) harr⟩
   |ret=>exact ⟨_,a₁,w₁,hq,.pass (x:= .inLoop c) rfl (fun _ _=> .inl (by simp)) harr⟩
   |panic ch=>exact ⟨_,a₁,w₁,hq,.pass (x:= .inLoop c) rfl (fun _ _=> .inl (by simp)) harr⟩
   |outgrown=>exact ⟨_,a₁,w₁,hq,.pass (x:= .inLoop c) rfl (fun _ _=> .inl (by simp)) harr⟩
 obtain ⟨e,a',w',hq,harr⟩:=key k a w h0
 exact ⟨e,a',w',hq,.of_steps (.one step_loop) harr⟩
section
variable {P:Program} {C:cg} {ow:en} {n:Nat} {hn:IW}
theorem sf [Frame] {μ0:Mu} {h0:aZ} {w0:World} {id:Nat} {ac:aP} {a:Act} {w:World} {r:bT×St}: ∀(gs:List (Nat×eZ)) (k:Nat) (st:St) (μ:Mu),di C ow k (yJ gs id ac) st=some r->Inv n st.get st.heap μ a w->lr μ0 h0 w0 μ st.heap w->
 ∃k' st1 μ1,k'<=k/\di C ow k' ac st1=some r/\Inv n st1.get st1.heap μ1 a w/\lr μ0 h0 w0 μ1 st1.heap w
 |[],k,st,μ,h,I,S=>⟨k,st,μ,aw _,h,I,S⟩
 | (i,g)::gs,k,st,μ,h,I,S=>by
   simp only [yJ,List.foldr_cons] at h
   split at h
   ·cases k with
    |zero=>simp [di] at h
    |succ k=>
     simp only [di] at h
     split at h
     ·rename_i st' hg
      obtain ⟨μ',I',S'⟩:=O2 hg I S
      obtain ⟨k',st1,μ1,hk,h1,I1,S1⟩:=sf gs k st' μ' h I' S'
      exact ⟨k',st1,μ1,by omega,h1,I1,S1⟩
     ·cases h
   ·exact sf gs k st μ h I S
theorem Tz [Frame] (hC:ln P C) (hm:P.follows .mixedOrders=true) {μ0:Mu} {h0:aZ} {w0:World}: ∀(k:Nat) (c:Code) (ac:aP) (st st':St) (e:bT) (μ:Mu) (a:Act) (w:World) (Q:Exit->Act->World->Prop),
 fx P n hn c=some ac->di C ow k ac st=some (e,st')->Inv n st.get st.heap μ a w->lr μ0 h0 w0 μ st.heap w->
 (∀μ' a' w',Inv n st'.get st'.heap μ' a' w'->lr μ0 h0 w0 μ' st'.heap w'->Q e.real a' w')->c.wp P Q a w:=by
 intro k
 induction k using Nat.strongRecOn with
 |_ k ih=>
  intro c ac st st' e μ a w Q hc he I S K
  cases c with
  |skip=>
   simp only [fx,Option.some.injEq] at hc
   subst hc
   cases k with
   |zero=>simp [di] at he
   |succ k=>simp only [di,Option.some.injEq,Prod.mk.injEq] at he;obtain ⟨rfl,rfl⟩:=he;exact wp_skip (K μ a w I S)
  |exit id=>
   simp only [fx,Option.some.injEq] at hc
   subst hc
   cases k with
   |zero=>simp [di] at he
   |succ k=>simp only [di,Option.some.injEq,Prod.mk.injEq] at he;obtain ⟨rfl,rfl⟩:=he;exact wp_exit (K μ a w I S)
  |ret=>
   simp only [fx,Option.some.injEq] at hc
   subst hc
   obtain ⟨k',st1,μ1,hk,h1,I1,S1⟩:=sf _ k st μ he I S
   cases k' with
   |zero=>simp [di] at h1
   |succ k'=>simp only [di,Option.some.injEq,Prod.mk.injEq] at h1;obtain ⟨rfl,rfl⟩:=h1;exact wp_ret (K μ1 a w I1 S1)
  |region id ops draw=>
   simp only [fx] at hc
   split at hc
   ·cases hc
   ·rename_i steps hst
    cases draw with
    |true=>
     simp only [if_true] at hc
     split at hc
     ·rename_i hd
      cases hc
      obtain ⟨k',st1,μ1,hk,h1,I1,S1⟩:=sf _ k st μ he I S
      cases k' with
      |zero=>simp [di] at h1
      |succ k'=>
       simp only [di] at h1
       have hreal:e= .normal:=by
        unfold Bi at h1
        split at h1
        ·split at h1
         ·cases h1;rfl
         ·cases h1
        ·cases h1
       subst hreal
       exact (a1P hC hm hst hd h1 I1 S1 K).2
     ·cases hc
    |false=>
     simp only [bA,if_false,Option.some.injEq] at hc
     subst hc
     obtain ⟨k',st1,μ1,hk,h1,I1,S1⟩:=sf _ k st μ he I S
     cases k' with
     |zero=>simp [di] at h1
     |succ k'=>
      simp only [di] at h1
      have hreal:e= .normal:=by
       unfold sh at h1
       split at h1
       ·cases h1;rfl
       ·cases h1
      subst hreal
      exact (a0G hC hst h1 I1 S1 K).2
  |seq x y=>
   simp only [fx] at hc
   split at hc
   ·rename_i ax ay hx hy
    cases hc
    cases k with
    |zero=>simp [di] at he
    |succ k=>
     simp only [di] at he
     refine wp_seq ?_
     cases hxe:di C ow k ax st with
     |none=>rw [hxe] at he;cases he
     |some p=>
      obtain ⟨e1,st1⟩:=p
      rw [hxe] at he
      cases e1 with
      |normal=>exact ih k (by omega) x ax st st1 .normal μ a w _ hx hxe I S (fun μ' a' w' I' S'=>ih k (by omega) y ay st1 st' e μ' a' w' Q hy he I' S' K)
      |exit id=>cases he;exact ih k (by omega) x ax st st' (.exit id) μ a w _ hx hxe I S (fun μ' a' w' I' S'=>K μ' a' w' I' S')
      |ret=>cases he;exact ih k (by omega) x ax st st' .ret μ a w _ hx hxe I S (fun μ' a' w' I' S'=>K μ' a' w' I' S')
   ·cases hc
  |cond cd x y=>
   simp only [fx] at hc
   split at hc
   ·rename_i acd ax ay hcd hx hy
    cases hc
    cases k with
    |zero=>simp [di] at he
    |succ k=>
     simp only [di] at he
     have hv:=bP I.E hcd
     split at he
     ·rename_i hev
      rw [show Opd.ev st.get acd=_ from hev] at hv
      generalize hX:a.eval cd=X at hv
      cases hv
      exact wp_cond_true hX (ih k (by omega) x ax st st' e μ a w Q hx he I S K)
     ·rename_i hev
      rw [show Opd.ev st.get acd=_ from hev] at hv
      generalize hX:a.eval cd=X at hv
      cases hv
      exact wp_cond_false hX (ih k (by omega) y ay st st' e μ a w Q hy he I S K)
     ·cases he
   ·cases hc
  |block id x=>
   simp only [fx] at hc
   obtain ⟨ax,hx,rfl⟩:=sI hc
   cases k with
   |zero=>simp [di] at he
   |succ k=>
    simp only [di] at he
    refine wp_block ?_
    cases hxe:di C ow k ax st with
    |none=>rw [hxe] at he;cases he
    |some p=>
     obtain ⟨e1,st1⟩:=p
     rw [hxe] at he
     cases e1 with
     |normal=>cases he;exact ih k (by omega) x ax st st' .normal μ a w _ hx hxe I S (fun μ' a' w' I' S'=>K μ' a' w' I' S')
     |exit id'=>
      simp only at he
      refine ih k (by omega) x ax st st1 (.exit id') μ a w _ hx hxe I S (fun μ' a' w' I' S'=> ?_)
      show (if id'=id then Q .normal a' w' else Q (.exit id') a' w')
      split at he
      ·rename_i hid;cases he;rw [ae hid];exact K μ' a' w' I' S'
      ·rename_i hid;cases he;rw [aa hid];exact K μ' a' w' I' S'
     |ret=>cases he;exact ih k (by omega) x ax st st' .ret μ a w _ hx hxe I S (fun μ' a' w' I' S'=>K μ' a' w' I' S')
  |loop x=>
   simp only [fx] at hc
   obtain ⟨ax,hx,rfl⟩:=sI hc
   refine M8 (k:=k) (fun j a w=>j<=k/\ ∃st1 μ1,di C ow j (.loop ax) st1=some (e,st')/\Inv n st1.get st1.heap μ1 a w/\lr μ0 h0 w0 μ1 st1.heap w) (fun a w=> ?_) (fun j a w hT=> ?_) ⟨aw _,st,μ,he,I,S⟩
   ·rintro ⟨_,st1,μ1,h1,_⟩;simp [di] at h1
   ·obtain ⟨hj,st1,μ1,h1,I1,S1⟩:=hT
    simp only [di] at h1
    cases hxe:di C ow j ax st1 with
    |none=>rw [hxe] at h1;cases h1
    |some p=>
     obtain ⟨e1,st2⟩:=p
     rw [hxe] at h1
     cases e1 with
     |normal=>exact ih j (by omega) x ax st1 st2 .normal μ1 a w _ hx hxe I1 S1 (fun μ' a' w' I' S'=>⟨by omega,st2,μ',h1,I',S'⟩)
     |exit id=>cases h1;exact ih j (by omega) x ax st1 st' (.exit id) μ1 a w _ hx hxe I1 S1 (fun μ' a' w' I' S'=>K μ' a' w' I' S')
     |ret=>cases h1;exact ih j (by omega) x ax st1 st' .ret μ1 a w _ hx hxe I1 S1 (fun μ' a' w' I' S'=>K μ' a' w' I' S')
  |_=>simp [fx] at hc
end
end
section
theorem aX.weak {F F':Frame} (hf: ∀c,F.fr c->F'.fr c) {μ:Mu} {h:aZ} {w:World} {v:V} {x:Value} (hv: @aX F' μ h w v x): @aX F μ h w v x:=by
 have st: ∀c, @pS F' μ c-> @pS F μ c:=fun c hs=>⟨hs.1,fun h1=>hs.2 (hf c h1)⟩
 induction hv with
 |lit v=>exact @aX.lit F μ h w v
 |agg cs xs hl hcell hc ih=>exact @aX.agg F μ h w cs xs hl hcell ih
 |tup vs xs hl hc ih=>exact @aX.tup F μ h w vs xs hl ih
 |ptr b i o n x k hk hn hx hp hd=>exact @aX.ptr F μ h w b i o n x k hk hn hx hp hd
 |mp b x k hk hx hm=>exact @aX.mp F μ h w b x k hk hx hm
 |sl b s n x k hk hn hx hp=>exact @aX.sl F μ h w b s n x k hk hn hx hp
 |emp a=>exact @aX.emp F μ h w a
 |imm0 e a cap he=>exact @aX.imm0 F μ h w e a cap he
 |imm e rows c off cap ys he hr hcap hc hs hrow hcell hv ih=>exact @aX.imm F μ h w e rows c off cap ys he hr hcap hc (st c hs) hrow hcell ih
 |iptr row o c off ys hc hs hrow hcell hv ih=>exact @aX.iptr F μ h w row o c off ys hc (st c hs) hrow hcell ih
 |fn f caps xs hl hc ih=>exact @aX.fn F μ h w f caps xs hl ih
 |unk x=>exact @aX.unk F μ h w x
theorem bD.weak {F F':Frame} (hf: ∀c,F.fr c->F'.fr c) {μ:Mu} {h:aZ} {w:World} (H: @bD F' μ h w): @bD F μ h w:=by
 refine @bD.mk F μ h w (c1J H) (c1V H) (fun b k hk=> ?_) (a88 H) (fun b c h1 h2=>YW H b c h1 (hf c h2)) (fun c hc=>c0j H c (hf c hc))
 rcases b7I H b k hk with h1|⟨g0,c,arr,t,lo,hi,gm,gh,gf,gl,gv⟩|h1
 ·exact .inl h1
 ·exact .inr (.inl ⟨g0,c,arr,t,lo,hi,gm,gh,gf,gl,fun i row j v h1 h2=>(gv i row j v h1 h2).weak hf⟩)
 ·exact .inr (.inr h1)
structure Vw (h:aZ) (m:Nat) (kp:List Nat) (ids bor:List Nat):Prop where
 flo: ∀b,b<m->ids[b]? =some b
 fkp: ∀b,b∈kp->ids[m+kV b kp]? =some b
 fbor: ∀b k,h b=some k-> ¬b<m->b∉kp->b∈bor
section
variable {h:aZ} {m:Nat} {kp ids bor:List Nat}
theorem N3 (F:Vw h m kp ids bor) {v v':V} (hf:sH h m kp v=some v'):zL h ids bor v v'/\okC v'=true:=by
 cases v with
 |sl b s n=>
  simp only [sH] at hf
  split at hf
  ·rename_i hb;cases hf;exact ⟨.sl b s n b (F.flo b hb),rfl⟩
  ·rename_i hb
   split at hf
   ·rename_i hk;cases hf;exact ⟨.sl b s n _ (F.fkp b hk),rfl⟩
   ·rename_i hk
    split at hf
    ·rename_i v1 bs hs
     cases hf
     simp only [rZ] at hs
     split at hs
     ·rename_i k hkb
      split at hs
      ·rename_i hc
       cases hs
       exact ⟨.bor b s n k (F.fbor b k hkb hb hk) hkb hc.1 hc.2.1 hc.2.2,rfl⟩
      ·cases hs
     ·cases hs
    ·cases hf
 |ptr b i o n=>
  simp only [sH] at hf
  split at hf
  ·rename_i hb;cases hf;exact ⟨.ptr b i o n b (F.flo b hb),rfl⟩
  ·rename_i hb
   split at hf
   ·rename_i hk;cases hf;exact ⟨.ptr b i o n _ (F.fkp b hk),rfl⟩
   ·cases hf
 |mp b=>
  simp only [sH] at hf
  split at hf
  ·rename_i hb;cases hf;exact ⟨.mp b b (F.flo b hb),rfl⟩
  ·rename_i hb
   split at hf
   ·rename_i hk;cases hf;exact ⟨.mp b _ (F.fkp b hk),rfl⟩
   ·cases hf
 |fn f cs=>
  cases cs with
  |nil=>simp only [sH] at hf;cases hf;exact ⟨.fn f,rfl⟩
  |cons a b=>simp [sH] at hf
 |lit y=>simp only [sH] at hf;cases hf;exact ⟨.lit y,rfl⟩
 |imm e r=>simp only [sH] at hf;cases hf;exact ⟨.imm e r,rfl⟩
 |iptr r o=>simp only [sH] at hf;cases hf;exact ⟨.iptr r o,rfl⟩
 |undef=>simp only [sH] at hf;cases hf;exact ⟨.undef,rfl⟩
 |agg cs=>simp [sH] at hf
 |tup cs=>simp [sH] at hf
theorem JC (F:Vw h m kp ids bor): ∀{cs cs':List V},xb h m kp cs=some cs'->cs'.length=cs.length/\(∀(i:Nat) (v v':V),cs[i]? =some v->cs'[i]? =some v'->zL h ids bor v v')/\cs'.all okC=true
 |[],cs',hf=>by
  simp [xb] at hf;subst hf
  exact ⟨rfl,(fun i v v' h=>by simp at h),rfl⟩
 |v::r,cs',hf=>by
  simp only [xb] at hf
  split at hf
  ·rename_i v1 r1 h1 h2
   cases hf
   obtain ⟨a1,a2⟩:=N3 F h1
   obtain ⟨b1,b2,b3⟩:=JC F h2
   refine ⟨by simp [b1],fun i u u' hu hu'=> ?_,by simp [a2];simpa using b3⟩
   cases i with
   |zero=>simp at hu hu';subst hu;subst hu';exact a1
   |succ i=>exact b2 i u u' (by simpa using hu) (by simpa using hu')
  ·cases hf
theorem b05 (F:Vw h m kp ids bor) {v v':V} (hf:K9 h m kp v=some v'):yK h ids bor v v'/\okA v'=true:=by
 have other:sH h m kp v=some v'->yK h ids bor v v'/\okA v'=true:=fun h1=>by
  obtain ⟨a,b⟩:=N3 F h1
  refine ⟨.cell _ _ a, ?_⟩
  cases v'<;>first|exact b| (simp [okC] at b)
 cases v with
 |agg cs=>
  simp only [K9] at hf
  split at hf
  ·rename_i cs' h1
   cases hf
   obtain ⟨a,b,c⟩:=JC F h1
   exact ⟨.agg _ _ a b,c⟩
  ·cases hf
 |tup cs=>simp [K9] at hf
 |lit y=>exact other hf
 |ptr b i o n=>exact other hf
 |sl b s n=>exact other hf
 |imm e r=>exact other hf
 |iptr r o=>exact other hf
 |fn f cs=>exact other hf
 |undef=>exact other hf
 |mp b=>exact other hf
theorem Te (F:Vw h m kp ids bor): ∀{cs cs':List V},xf h m kp cs=some cs'->cs'.length=cs.length/\(∀(i:Nat) (v v':V),cs[i]? =some v->cs'[i]? =some v'->yK h ids bor v v')/\cs'.all okA=true
 |[],cs',hf=>by
  simp [xf] at hf;subst hf
  exact ⟨rfl,(fun i v v' h=>by simp at h),rfl⟩
 |v::r,cs',hf=>by
  simp only [xf] at hf
  split at hf
  ·rename_i v1 r1 h1 h2
   cases hf
   obtain ⟨a1,a2⟩:=b05 F h1
   obtain ⟨b1,b2,b3⟩:=Te F h2
   refine ⟨by simp [b1],fun i u u' hu hu'=> ?_,by simp [a2];simpa using b3⟩
   cases i with
   |zero=>simp at hu hu';subst hu;subst hu';exact a1
   |succ i=>exact b2 i u u' (by simpa using hu) (by simpa using hu')
  ·cases hf
theorem b1J (F:Vw h m kp ids bor) {v v':V} (hf:Nd h m kp v=some v'):yK h ids bor v v'/\okD v'=true:=by
 have other:sH h m kp v=some v'->yK h ids bor v v'/\okD v'=true:=fun h1=>by
  obtain ⟨a,b⟩:=N3 F h1
  refine ⟨.cell _ _ a, ?_⟩
  cases v' with
  |fn f cs=>
   cases cs with
   |nil=>rfl
   |cons c d=>simp [okC] at b
  |_=>exact b
 cases v with
 |fn f cs=>
  cases cs with
  |nil=>exact other hf
  |cons c cs=>
   simp only [Nd] at hf
   split at hf
   ·rename_i cs' h1
    cases hf
    obtain ⟨a,b,c⟩:=JC F h1
    exact ⟨.fn f _ _ a b,c⟩
   ·cases hf
 |_=>exact other hf
theorem T4 (F:Vw h m kp ids bor): ∀{cs cs':List V},Aj h m kp cs=some cs'->cs'.length=cs.length/\(∀(i:Nat) (v v':V),cs[i]? =some v->cs'[i]? =some v'->yK h ids bor v v')/\cs'.all okD=true
 |[],cs',hf=>by
  simp [Aj] at hf;subst hf
  exact ⟨rfl,(fun i v v' h=>by simp at h),rfl⟩
 |v::r,cs',hf=>by
  simp only [Aj] at hf
  split at hf
  ·rename_i v1 r1 h1 h2
   cases hf
   obtain ⟨a1,a2⟩:=b1J F h1
   obtain ⟨b1,b2,b3⟩:=T4 F h2
   refine ⟨by simp [b1],fun i u u' hu hu'=> ?_,by simp [a2];simpa using b3⟩
   cases i with
   |zero=>simp at hu hu';subst hu;subst hu';exact a1
   |succ i=>exact b2 i u u' (by simpa using hu) (by simpa using hu')
  ·cases hf
theorem My (F:Vw h m kp ids bor): ∀{rs rs':List (List V)},uF h m kp rs=some rs'->rs'.length=rs.length/\(∀(i:Nat) (row row':List V),rs[i]? =some row->rs'[i]? =some row'->row'.length=row.length/\ ∀(j:Nat) (v v':V),row[j]? =some v->row'[j]? =some v'->yK h ids bor v v')/\
 ∀row∈rs', ∀v∈row,okD v=true
 |[],rs',hf=>by
  simp [uF] at hf;subst hf
  exact ⟨rfl,(fun i v v' h=>by simp at h),fun row hr=>by simp at hr⟩
 |v::r,rs',hf=>by
  simp only [uF] at hf
  split at hf
  ·rename_i v1 r1 h1 h2
   cases hf
   obtain ⟨a1,a2,a3⟩:=T4 F h1
   obtain ⟨b1,b2,b3⟩:=My F h2
   refine ⟨by simp [b1],fun i u u' hu hu'=> ?_,fun row hr=> ?_⟩
   ·cases i with
    |zero=>simp at hu hu';subst hu;subst hu';exact ⟨a1,a2⟩
    |succ i=>exact b2 i u u' (by simpa using hu) (by simpa using hu')
   ·rcases bc.1 hr with rfl|hr
    ·exact fun v hv=>aB.1 a3 v hv
    ·exact b3 row hr
  ·cases hf
theorem a9E (F:Vw h m kp ids bor) {k k0:Blk} (hf:Tk h m kp k=some k0):a3g h ids bor k k0/\okB k0:=by
 unfold Tk at hf
 split at hf
 ·rename_i ho
  cases hf
  exact ⟨⟨rfl,rfl,rfl,(fun _=>rfl),(fun h1=>by rw [ho] at h1;cases h1)⟩,fun h1=>by rw [ho] at h1;cases h1⟩
 ·rename_i ho
  split at hf
  ·rename_i rows h1
   cases hf
   obtain ⟨a,b,c⟩:=My F h1
   exact ⟨⟨rfl,rfl,a,(fun h2=>absurd h2 ho),(fun _ i row row' g1 g2=>b i row row' g1 g2)⟩,fun _=>c⟩
  ·cases hf
theorem Ts (F:Vw h m kp ids bor): ∀{l:List Nat} {bs:List Blk},vz h m kp l=some bs->l.length=bs.length/\(∀(i b:Nat),l[i]? =some b-> ∃k k0,h b=some k/\bs[i]? =some k0/\a3g h ids bor k k0)/\ ∀k∈bs,okB k
 |[],bs,hf=>by
  simp [vz] at hf;subst hf
  exact ⟨rfl,(fun i b h=>by simp at h),fun k hk=>by simp at hk⟩
 |b::r,bs,hf=>by
  simp only [vz] at hf
  split at hf
  ·rename_i k hk
   split at hf
   ·rename_i k' r' h1 h2
    cases hf
    obtain ⟨a1,a2⟩:=a9E F h1
    obtain ⟨b1,b2,b3⟩:=Ts F h2
    refine ⟨by simp [b1],fun i b' hb=> ?_,fun k2 hk2=> ?_⟩
    ·cases i with
     |zero=>simp at hb;subst hb;exact ⟨k,k',hk,rfl,a1⟩
     |succ i=>simpa using b2 i b' (by simpa using hb)
    ·rcases bc.1 hk2 with rfl|hk2
     ·exact a2
     ·exact b3 k2 hk2
   ·cases hf
  ·cases hf
end
theorem a2B {α:Type}: ∀{m:List (Nat×α)} {b:Nat} {k:α},dO m b=some k->b∈m.map (·.1)
 | (j,u)::r,b,k,h=>by
   simp only [dO] at h
   split at h
   ·rename_i e;subst e;simp
   ·simp only [aS,bc];exact .inr (a2B h)
theorem Ky (m:Nat): ∀(r acc:List Nat),acc.Nodup->(∀b∈acc,m<=b)->(EP m acc r).Nodup/\ ∀b∈EP m acc r,m<=b
 |[],acc,h1,h2=>⟨h1,h2⟩
 |x::r,acc,h1,h2=>by
  simp only [EP]
  split
  ·rename_i hx
   refine Ky m r _ ?_ (fun b hb=> ?_)
   ·unfold gx
    split
    ·exact h1
    ·rename_i hn
     exact jV.2 ⟨h1,by simp,fun a ha b hb e=>by simp at hb;subst hb;subst e;exact hn ha⟩
   ·unfold gx at hb
    split at hb
    ·exact h2 b hb
    ·rcases aW.1 hb with h|h
     ·exact h2 b h
     ·simp at h;subst h;exact hx
  ·exact Ky m r acc h1 h2
section
variable {P:Program} {μ:Mu} {w:World} {a:Act}
def S6 (a:Act):ResultVar->Sem Value
 | .tmp t=>pure (a.tmps.getD t undef)
 | .cell b t=>do loadVar t (<-asAddr (a.tmps.getD b undef))
theorem a0L [Frame] {st:St} {n:Nat} (I:Inv n st.get st.heap μ a w): ∀{rs:List ResultVar} {as:List Me} {vs:List V},tc P rs=some as->mG st as=some vs->
 ∃xs:List Value,(rs.mapM (S6 a)).run P w= .ok xs w/\xs.length=vs.length/\ ∀(i:Nat) (v:V),vs[i]? =some v->aX μ st.heap w v (xs.getD i undef)
 |[],as,vs,hc,hr=>by
  simp [tc] at hc;subst hc
  simp [mG] at hr;subst hr
  exact ⟨[],rfl,rfl,fun i v h=>by simp at h⟩
 |r::rs,as,vs,hc,hr=>by
  have tail: ∀{x:Me} {as':List Me},as=x::as'->tc P rs=some as'-> ∃v vs',vs=v::vs'/\Iw st x=some v/\mG st as'=some vs':=by
   intro x as' e _
   subst e
   simp only [mG] at hr
   split at hr
   ·rename_i v vs' h1 h2;cases hr;exact ⟨v,vs',rfl,h1,h2⟩
   ·cases hr
  cases r with
  |tmp t=>
   simp only [tc] at hc
   obtain ⟨as',ha,rfl⟩:=sI hc
   obtain ⟨v,vs',rfl,h1,h2⟩:=tail rfl ha
   obtain ⟨xs,e1,e2,e3⟩:=a0L I ha h2
   simp only [Iw,Option.some.injEq] at h1
   refine ⟨a.tmps.getD t undef::xs, ?_,by simp [e2],fun i u hu=> ?_⟩
   ·rw [List.mapM_cons]
    simp only [S6,Sem.run_bind,Sem.run_pure,Result.andThen_ok,e1]
   ·cases i with
    |zero=>simp at hu;subst hu;rw [<-h1];exact I.E t
    |succ i=>exact e3 i u (by simpa using hu)
  |cell b t=>
   simp only [tc] at hc
   split at hc
   ·rename_i g as' hg ha
    cases hc
    obtain ⟨v,vs',rfl,h1,h2⟩:=tail rfl ha
    obtain ⟨xs,e1,e2,e3⟩:=a0L I ha h2
    simp only [Iw] at h1
    obtain ⟨c,off,y,hx,hy,hv⟩:=XN (P:=P) (t:=t) I.H (I.E b) hg h1
    refine ⟨y::xs, ?_,by simp [e2],fun i u hu=> ?_⟩
    ·have e0:(S6 a (.cell b t)).run P w= .ok y w:=by
      simp only [S6,Sem.run_bind,hx,asAddr,Sem.run_pure,Result.andThen_ok,hy]
     rw [List.mapM_cons]
     simp only [Sem.run_bind,e0,Sem.run_pure,Result.andThen_ok,e1]
    ·cases i with
     |zero=>simp at hu;subst hu;exact hv
     |succ i=>exact e3 i u (by simpa using hu)
   ·cases hc
theorem a3o [Frame] {fn:Func} {st:St} {n:Nat} (I:Inv n st.get st.heap μ a w) {as:List Me} {vs:List V} (hc:tc P fn.results.toList=some as) (hr:mG st as=some vs):
 ∃xs:List Value,(results fn a.tmps).run P w= .ok (match xs with
  |[x]=>x
  |xs=> .tuple xs.toArray) w/\xs.length=vs.length/\ ∀(i:Nat) (v:V),vs[i]? =some v->aX μ st.heap w v (xs.getD i undef):=by
 obtain ⟨xs,h1,h2,h3⟩:=a0L I hc hr
 refine ⟨xs, ?_,h2,h3⟩
 have hf:results fn a.tmps=(do
  let vs <-fn.results.mapM (S6 a)
  pure (if h:vs.size=1 then vs[0] else .tuple vs)):=by
  unfold results
  congr 2
 rw [hf,Array.mapM_eq_mapM_toList]
 simp only [Sem.run_bind,Sem.run_map,h1,Result.andThen_ok]
 simp only [Sem.run_pure,List.size_toArray]
 match xs with
 |[]=>rfl
 |[x]=>rfl
 |x::y::r=>rfl
end
section
variable {P:Program} {T:Tab} {ow:en}
structure A9 (P:Program) (T:Tab):Prop where
 code: ∀f af,T f=some (.code af)-> ∃fn hn,P.funcs[f]? =some fn/\(fn.name== "runtime.NumGoroutine")=false/\s7 P fn hn=some af
 ext: ∀f g,T f=some (.ext g)-> ∀args blks r blks',g args blks=some (r,blks')-> ∀(F:Frame) (μ:Mu) (w:World) (xs:Array Value), @bD F μ (bL blks) w->xs.size=args.length->
  (∀(i:Nat) (v:V),args[i]? =some v-> @aX F μ (bL blks) w v (xs.getD i undef))->Reach P f xs w (nD F μ (bL blks) w r blks')
theorem wh {α:Type}: ∀(l:List α) (n i:Nat),dO (rC n l) i=if n<=i then l[i-n]? else none
 |[],n,i=>by simp [rC,dO]
 |x::r,n,i=>by
  simp only [rC,dO]
  by_cases e:n=i
  ·subst e;simp
  ·rw [aa e,wh r (n+1) i]
   by_cases h1:n<=i
   ·rw [ae h1,ae (by omega)]
    have:i-n=(i-(n+1))+1:=by omega
    rw [this];simp
   ·rw [aa h1,aa (by omega)]
theorem Ms {F:Frame} {μ0:Mu} {w0:World} {blks:List Blk} {n:Nat} {af:aJ} {st:St} {μ:Mu} {a:Act} {w:World} {r:V} {blks':List Blk} {fn:Func} (I: @Inv F n st.get st.heap μ a w) (S: @lr F μ0 (bL blks) w0 μ st.heap w)
 (hc:tc P fn.results.toList=some af.results) {e:bT} (he:e= .normal\/e= .ret) (hf:kP af blks.length (some (e,st))=some (r,blks')):
 ∃v,(results fn a.tmps).run P w= .ok v w/\nD F μ0 (bL blks) w0 r blks' v w:=by
 have hf':(match mG st af.results with
  |none=>none
  |some vs=>match xf st.heap blks.length (if af.keep then mj af.raw st.heap blks.length vs else []) vs,vz st.heap blks.length (if af.keep then mj af.raw st.heap blks.length vs else []) (List.range blks.length++(if af.keep then mj af.raw st.heap blks.length vs else [])) with
   |some vs',some bs=>if blks.length<=1000 then some (a1m vs',bs) else none
   |_,_=>none)=some (r,blks'):=by
  rcases he with rfl|rfl<;>exact hf
 clear hf
 split at hf'
 ·cases hf'
 ·rename_i vs hvs
  generalize hkp:(if af.keep then mj af.raw st.heap blks.length vs else [])=kp at hf'
  split at hf'
  ·rename_i vs' bs h1 h2
   split at hf'
   ·rename_i hm
    cases hf'
    have hks:kp.Nodup/\ ∀b∈kp,blks.length<=b:=by
     rw [<-hkp]
     split
     ·exact Ky _ _ [] jG (fun b hb=>by cases hb)
     ·exact ⟨jG,fun b hb=>by cases hb⟩
    have hkge:=hks.2
    let ids:=List.range blks.length++kp
    let bor:=(st.m.map (·.1)).filter (fun b=>decide (b∉ids))
    have hmem: ∀b,b∈ids↔b<blks.length\/b∈kp:=by
     intro b
     simp only [ids,aW,bX]
    have FI:Vw st.heap blks.length kp ids bor:=by
     refine ⟨fun b hb=> ?_,fun b hb=> ?_,fun b k hk h3 h4=> ?_⟩
     ·simp only [ids]
      rw [bI (by simpa using hb),List.getElem?_range hb]
     ·simp only [ids]
      rw [bS (by simp),List.length_range,Nat.add_sub_cancel_left]
      exact sE hb
     ·simp only [bor,j4,aG]
      refine ⟨a2B hk,fun h5=> ?_⟩
      rcases (hmem b).1 h5 with h6|h6
      ·exact h3 h6
      ·exact h4 h6
    obtain ⟨a1,a2,a3⟩:=Te FI h1
    obtain ⟨b1,b2,b3⟩:=Ts FI h2
    have W:Way st.heap ids bor blks':=by
     refine ⟨?_,b1,b2,fun b hb h3=> ?_,fun b hb=> ?_⟩
     ·simp only [ids]
      rw [jV]
      refine ⟨List.nodup_range,hks.1,fun x hx y hy=> ?_⟩
      rw [bX] at hx
      have:=hkge y hy
      omega
     ·simp only [bor,j4,aG] at hb
      exact hb.2 h3
     ·simp only [bor,j4] at hb
      have: ∀(m:List (Nat×Blk)),b∈m.map (·.1)-> ∃k,dO m b=some k:=by
       intro m
       induction m with
       |nil=>intro h;simp at h
       |cons x t ih=>
        intro h
        obtain ⟨j,k⟩:=x
        simp only [dO]
        by_cases e:j=b
        ·exact ⟨k,by rw [ae e]⟩
        ·rw [aa e]
         refine ih ?_
         simp only [aS,bc] at h
         exact h.resolve_left (fun e'=>e e'.symm)
      exact this st.m hb.1
    have hfr: ∀c,F.fr c->(ph F μ ids bor).fr c:=fun c hc=> .inl hc
    have IH: @bD F μ st.heap w:= @Inv.H F _ _ _ _ _ _ I
    have H1:=(ZO W IH).weak hfr
    obtain ⟨xs,hrun,hxl,hxv⟩:= @a3o P μ w a F fn st n I af.results vs hc hvs
    have hrel: ∀(i:Nat) (v:V),vs'[i]? =some v-> @aX F (oa μ ids) (bL blks') w v (xs.getD i undef):=by
     intro i v hi
     obtain ⟨v0,h0⟩:=ey (l:=vs) (i:=i) (by rw [<-a1];exact dw hi)
     exact (a1q W IH (a2 i v0 v h0 hi) (hxv i v0 h0)).weak hfr
    have SC: @Chg F μ0 (bL blks) w0 μ st.heap w:= @lr.C F _ _ _ _ _ _ S
    have hsub: ∀i c,oa μ ids i=some c-> ∃b,μ b=some c:=fun i c hi=>by
     obtain ⟨b,_,hb⟩:=Ci hi;exact ⟨b,hb⟩
    have hev: @nv F μ w (oa μ ids) w:= @nv.mk F _ _ _ _ rfl rfl rfl (aw _) (aw _) (fun c _ hs=>⟨rfl,fun i hi=>by
     obtain ⟨b,hb⟩:=hsub i c hi;exact hs.1 b hb,hs.2⟩) (fun _ _=>rfl)
    refine ⟨_,hrun,oa μ ids,H1, @Chg.mk F _ _ _ _ _ _ (@nv.trans F _ _ _ _ _ _ (Nl SC) hev) (fun b k hk=> ?_), ?_, ?_,b3⟩
    ·have hb:b<blks.length:=dw hk
     obtain ⟨k1,hk1,hr1⟩:=b4Y SC b k hk
     obtain ⟨k2,k0,g1,g2,L⟩:=b2 b b (FI.flo b hb)
     rw [hk1] at g1;cases g1
     refine ⟨k0,g2, ?_⟩
     have:oa μ ids b=μ b:=by simp [oa,FI.flo b hb]
     rw [L.esz,L.len,L.op,this]
     exact hr1
    ·have hl2:xs.length=vs'.length:=by rw [hxl,a1]
     match vs',xs,hl2,hrel with
     |[],[],_,_=>exact @aX.tup F _ _ _ [] #[] rfl (fun i v h=>by simp at h)
     |[v],[x],_,hr2=>exact hr2 0 v rfl
     |v::v2::t,x::x2::t2,hl3,hr2=>
      exact @aX.tup F _ _ _ (v::v2::t) (x::x2::t2).toArray (by simpa using hl3) (fun i u hu=>by
       have:=hr2 i u hu
       rw [bp] at this
       rw [Array.getD_eq_getD_getElem?,pr]
       exact this)
    ·match vs',a3 with
     |[],_=>rfl
     |[v],h3=>
      have:okA v=true:=by simpa using h3
      show okR v=true
      cases v<;>first|exact this| (simp [okA,okC] at this)
     |v::v2::t,h3=>exact h3
   ·cases hf'
  ·cases hf'
theorem Ql (hT:A9 P T) {n:Nat} (hn0:ln P (fu T ow n)) {f:FuncId} {af:aJ} (haf:T f=some (.code af)) {F:Frame} {μ:Mu} {w:World} {xs:Array Value} {args:List V} {blks:List Blk} {r:V} {blks':List Blk}
 (h:kP af blks.length (di (fu T ow n) ow n af.body (start args blks))=some (r,blks')) (H: @bD F μ (bL blks) w) (hl:xs.size=args.length)
 (hv: ∀(i:Nat) (v:V),args[i]? =some v-> @aX F μ (bL blks) w v (xs.getD i undef)):Reach P f xs w (nD F μ (bL blks) w r blks'):=by
 obtain ⟨fn,hn,hfn,hname,hcomp⟩:=hT.code f af haf
 unfold s7 at hcomp
 split at hcomp
 ·cases hcomp
 ·rename_i c hb
  split at hcomp
  ·rename_i ac rs hcc hcr
   split at hcomp
   ·rename_i hfol
    cases hcomp
    right
    refine ⟨?_,calls_of_wp hfn hb ?_⟩
    ·have hname': ¬fn.name= "runtime.NumGoroutine" :=by simpa using hname
     have hp:(program).run P w= .ok P w:=rfl
     simp [callFunc,Sem.run_bind,hp,hfn,hname',hb]
    ·cases he:di (fu T ow n) ow n ac (start args blks) with
     |none=>rw [he] at h;simp [kP] at h
     |some p=>
      obtain ⟨e,st⟩:=p
      rw [he] at h
      have hex:e= .normal\/e= .ret:=by
       cases e with
       |normal=>exact .inl rfl
       |ret=>exact .inr rfl
       |exit id=>simp [kP] at h
      have hm:blks.length<=1000:=by
       revert h
       rcases hex with rfl|rfl<;>
       ·simp only [kP]
        intro h
        split at h
        ·cases h
        ·split at h
         ·split at h
          ·assumption
          ·cases h
         ·cases h
      have hheap:(start args blks).heap=bL blks:=by
       funext i
       show dO (rC 0 blks) i=blks[i]?
       rw [wh];simp
      have hget: ∀t,(start args blks).get t=(args[t]?).getD .undef:=by
       intro t
       show (dO (rC 0 args) t).getD .undef=_
       rw [wh];simp
      refine @Tz P (fu T ow n) ow fn.ntmps hn F hn0 hfol μ (bL blks) w n c ac (start args blks) st e μ _ w _ hcc he ?_ ?_ (fun μ' a' w' I' S'=> ?_)
      ·refine @Inv.mk F _ _ _ _ _ _ (by rw [hheap];exact H) (fun t=> ?_) (by simp;omega) rfl
       rw [hget,hheap]
       cases ht:args[t]? with
       |none=>exact @aX.unk F _ _ _ _
       |some v=>
        have:=hv t v ht
        have hlt:=dw ht
        rw [Array.getD_eq_getD_getElem?,fj (by omega), <-Array.getD_eq_getD_getElem?]
        exact this
      ·rw [hheap]
       exact @lr.mk F _ _ _ _ _ _ (@Chg.refl F _ _ _) (fun b k hk=>by have:=dw hk;omega)
      ·obtain ⟨v,h1,h2⟩:=Ms I' S' hcr hex h
       have hdf:a'.defers=[]:= @Inv.df F _ _ _ _ _ _ I'
       rcases hex with rfl|rfl<;>exact ⟨hdf,v,h1,h2⟩
   ·cases hcomp
  ·cases hcomp
theorem AV (hT:A9 P T): ∀n,ln P (fu T ow n)
 |0=>fun f args blks r blks' h=>by simp [fu] at h
 |n+1=>fun f args blks r blks' h F μ w xs H hl hv=>by
  simp only [fu] at h
  split at h
  ·cases h
  ·rename_i af haf
   have core: ∀(args:List V) (blks:List Blk) (r:V) (blks':List Blk),kP af blks.length (di (fu T ow n) ow n af.body (start args blks))=some (r,blks')->
    @bD F μ (bL blks) w->xs.size=args.length->(∀(i:Nat) (v:V),args[i]? =some v-> @aX F μ (bL blks) w v (xs.getD i undef))->Reach P f xs w (nD F μ (bL blks) w r blks'):=by
    clear h H hl hv r blks' args blks
    intro args blks r blks' h H hl hv
    exact Ql hT (AV hT n) haf h H hl hv
   cases hfin:kP af blks.length (di (fu T ow n) ow n af.body (start args blks)) with
   |none=>rw [hfin] at h;cases h
   |some p=>
    obtain ⟨r0,bs0⟩:=p
    rw [hfin] at h
    simp only [a3Q,Option.some.injEq,Prod.mk.injEq] at h
    obtain ⟨rfl,rfl⟩:=h
    have hp:=core args blks r0 bs0 hfin H hl hv
    cases hraw:af.raw with
    |true=>exact hp.mono (fun x w' hp=>hp.czR)
    |false=>exact hp.mono (fun x w' hp=>hp.czR.czB)
  ·rename_i g hg
   exact hT.ext f g hg args blks r blks' h F μ w xs H hl hv
theorem DV (hT:A9 P T):ln P (Call T ow):=fun f args blks r blks' h=>by
 obtain ⟨n,hn⟩:=Q5 h
 exact AV hT n f args blks r blks' hn
end
end
end Go.AI
