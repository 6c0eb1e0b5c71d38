/- Control and functions: a run of the abstract machine's is a run of the model's. -/
import Derived.Test.YtgjlndaebhaciaaAiDraw
import Derived.Test.YtgjlndaebhaciaaAiLim
set_option linter.unusedVariables false
set_option linter.unusedSimpArgs false
namespace Go.AI
def aH.real:aH→Exit
 | .normal=> .normal
 | .exit id=> .exit id
 | .ret=> .ret
theorem vB {P:Program} {Q:Exit→Act→World→Prop} {c:Code} (T:Nat→Act→World→Prop) (hz: ∀a w, ¬T 0 a w)
 (round: ∀k a w,T (k+1) a w→c.wp P (Exit.then (fun a' w'=>T k a' w') Q) a w) {k:Nat} {a:Act} {w:World} (h0:T k a w):(Code.loop c).wp P Q a w:=by
 intro b kk cs
 have key: ∀n a w,T n a w→ ∃e a' w',Q e a' w'∧Arrives P (lone (b.at a (.code c:: .inLoop c::kk)) cs w) b kk cs e a' w':=by
  intro n
  induction n with
  |zero=>exact fun a w h=>absurd h (hz a w)
  |succ n ih=>
   intro a w hT
   obtain ⟨e,a₁,w₁,hq,harr⟩:=round n a w hT b (.inLoop c::kk) cs
   cases e with
   |normal=>
    obtain ⟨e₂,a₂,w₂,hq₂,harr₂⟩:=ih a₁ w₁ hq
    exact ⟨e₂,a₂,w₂,hq₂,.of_steps (Steps.trans harr (.one step_inLoop)) harr₂⟩
   |exit id=>exact ⟨_,a₁,w₁,hq,.pass (x:= .inLoop c) rfl (fun _ _=> .inl (by simp)) harr⟩
   |goto l=>exact ⟨_,a₁,w₁,hq,.pass (x:= .inLoop c) rfl (fun _ _=> .inl (by simp)) harr⟩
   |ret=>exact ⟨_,a₁,w₁,hq,.pass (x:= .inLoop c) rfl (fun _ _=> .inl (by simp)) harr⟩
   |panic ch=>exact ⟨_,a₁,w₁,hq,.pass (x:= .inLoop c) rfl (fun _ _=> .inl (by simp)) harr⟩
   |outgrown=>exact ⟨_,a₁,w₁,hq,.pass (x:= .inLoop c) rfl (fun _ _=> .inl (by simp)) harr⟩
 obtain ⟨e,a',w',hq,harr⟩:=key k a w h0
 exact ⟨e,a',w',hq,.of_steps (.one step_loop) harr⟩
section
variable {P:Program} {C:aM} {ow:bK} {n:Nat} {hn:ub}
theorem jb [Frame] {μ0:Mu} {h0:ak} {w0:World} {id:Nat} {ac:au} {a:Act} {w:World} {r:aH×St}: ∀(gs:List (Nat×ci)) (k:Nat) (st:St) (μ:Mu),bj C ow k (mS gs id ac) st=some r→Inv n st.get st.heap μ a w→fi μ0 h0 w0 μ st.heap w→
 ∃k' st1 μ1,k'≤k∧bj C ow k' ac st1=some r∧Inv n st1.get st1.heap μ1 a w∧fi μ0 h0 w0 μ1 st1.heap w
 |[],k,st,μ,h,I,S=>⟨k,st,μ,Nat.le_refl _,h,I,S⟩
 | (i,g)::gs,k,st,μ,h,I,S=>by
   simp only [mS,List.foldr_cons] at h
   split at h
   ·cases k with
    |zero=>simp [bj] at h
    |succ k=>
     simp only [bj] at h
     split at h
     ·rename_i st' hg
      obtain ⟨μ',I',S'⟩:=xn hg I S
      obtain ⟨k',st1,μ1,hk,h1,I1,S1⟩:=jb gs k st' μ' h I' S'
      exact ⟨k',st1,μ1,by omega,h1,I1,S1⟩
     ·cases h
   ·exact jb gs k st μ h I S
theorem zI [Frame] (hC:eY P C) (hm:P.follows .mixedOrders=true) {μ0:Mu} {h0:ak} {w0:World}: ∀(k:Nat) (c:Code) (ac:au) (st st':St) (e:aH) (μ:Mu) (a:Act) (w:World) (Q:Exit→Act→World→Prop),
 bZ P n hn c=some ac→bj C ow k ac st=some (e,st')→Inv n st.get st.heap μ a w→fi μ0 h0 w0 μ st.heap w→
 (∀μ' a' w',Inv n st'.get st'.heap μ' a' w'→fi μ0 h0 w0 μ' st'.heap w'→Q e.real a' w')→c.wp P Q a w:=by
 intro k
 induction k using Nat.strongRecOn with
 |_ k ih=>
  intro c ac st st' e μ a w Q hc he I S K
  cases c with
  |skip=>
   simp only [bZ,Option.some.injEq] at hc
   subst hc
   cases k with
   |zero=>simp [bj] at he
   |succ k=>simp only [bj,Option.some.injEq,Prod.mk.injEq] at he;obtain ⟨rfl,rfl⟩:=he;exact wp_skip (K μ a w I S)
  |exit id=>
   simp only [bZ,Option.some.injEq] at hc
   subst hc
   cases k with
   |zero=>simp [bj] at he
   |succ k=>simp only [bj,Option.some.injEq,Prod.mk.injEq] at he;obtain ⟨rfl,rfl⟩:=he;exact wp_exit (K μ a w I S)
  |ret=>
   simp only [bZ,Option.some.injEq] at hc
   subst hc
   obtain ⟨k',st1,μ1,hk,h1,I1,S1⟩:=jb _ k st μ he I S
   cases k' with
   |zero=>simp [bj] at h1
   |succ k'=>simp only [bj,Option.some.injEq,Prod.mk.injEq] at h1;obtain ⟨rfl,rfl⟩:=h1;exact wp_ret (K μ1 a w I1 S1)
  |region id ops draw=>
   simp only [bZ] at hc
   split at hc
   ·cases hc
   ·rename_i steps hst
    cases draw with
    |true=>
     simp only [if_true] at hc
     split at hc
     ·rename_i hd
      cases hc
      obtain ⟨k',st1,μ1,hk,h1,I1,S1⟩:=jb _ k st μ he I S
      cases k' with
      |zero=>simp [bj] at h1
      |succ k'=>
       simp only [bj] at h1
       have hreal:e= .normal:=by
        unfold oE at h1
        split at h1
        ·split at h1
         ·cases h1;rfl
         ·cases h1
        ·cases h1
       subst hreal
       exact (G4 hC hm hst hd h1 I1 S1 K).2
     ·cases hc
    |false=>
     simp only [Bool.false_eq_true,if_false,Option.some.injEq] at hc
     subst hc
     obtain ⟨k',st1,μ1,hk,h1,I1,S1⟩:=jb _ k st μ he I S
     cases k' with
     |zero=>simp [bj] at h1
     |succ k'=>
      simp only [bj] at h1
      have hreal:e= .normal:=by
       unfold j7 at h1
       split at h1
       ·cases h1;rfl
       ·cases h1
      subst hreal
      exact (DS hC hst h1 I1 S1 K).2
  |seq x y=>
   simp only [bZ] at hc
   split at hc
   ·rename_i ax ay hx hy
    cases hc
    cases k with
    |zero=>simp [bj] at he
    |succ k=>
     simp only [bj] at he
     refine wp_seq ?_
     cases hxe:bj C ow k ax st with
     |none=>rw [hxe] at he;cases he
     |some p=>
      obtain ⟨e1,st1⟩:=p
      rw [hxe] at he
      cases e1 with
      |normal=>exact ih k (by omega) x ax st st1 .normal μ a w _ hx hxe I S (fun μ' a' w' I' S'=>ih k (by omega) y ay st1 st' e μ' a' w' Q hy he I' S' K)
      |exit id=>cases he;exact ih k (by omega) x ax st st' (.exit id) μ a w _ hx hxe I S (fun μ' a' w' I' S'=>K μ' a' w' I' S')
      |ret=>cases he;exact ih k (by omega) x ax st st' .ret μ a w _ hx hxe I S (fun μ' a' w' I' S'=>K μ' a' w' I' S')
   ·cases hc
  |cond cd x y=>
   simp only [bZ] at hc
   split at hc
   ·rename_i acd ax ay hcd hx hy
    cases hc
    cases k with
    |zero=>simp [bj] at he
    |succ k=>
     simp only [bj] at he
     have hv:=aG I.E hcd
     split at he
     ·rename_i hev
      rw [show Opd.ev st.get acd=_ from hev] at hv
      generalize hX:a.eval cd=X at hv
      cases hv
      exact wp_cond_true hX (ih k (by omega) x ax st st' e μ a w Q hx he I S K)
     ·rename_i hev
      rw [show Opd.ev st.get acd=_ from hev] at hv
      generalize hX:a.eval cd=X at hv
      cases hv
      exact wp_cond_false hX (ih k (by omega) y ay st st' e μ a w Q hy he I S K)
     ·cases he
   ·cases hc
  |block id x=>
   simp only [bZ] at hc
   obtain ⟨ax,hx,rfl⟩:=map_some hc
   cases k with
   |zero=>simp [bj] at he
   |succ k=>
    simp only [bj] at he
    refine wp_block ?_
    cases hxe:bj C ow k ax st with
    |none=>rw [hxe] at he;cases he
    |some p=>
     obtain ⟨e1,st1⟩:=p
     rw [hxe] at he
     cases e1 with
     |normal=>cases he;exact ih k (by omega) x ax st st' .normal μ a w _ hx hxe I S (fun μ' a' w' I' S'=>K μ' a' w' I' S')
     |exit id'=>
      simp only at he
      refine ih k (by omega) x ax st st1 (.exit id') μ a w _ hx hxe I S (fun μ' a' w' I' S'=> ?_)
      show (if id'=id then Q .normal a' w' else Q (.exit id') a' w')
      split at he
      ·rename_i hid;cases he;rw [if_pos hid];exact K μ' a' w' I' S'
      ·rename_i hid;cases he;rw [if_neg hid];exact K μ' a' w' I' S'
     |ret=>cases he;exact ih k (by omega) x ax st st' .ret μ a w _ hx hxe I S (fun μ' a' w' I' S'=>K μ' a' w' I' S')
  |loop x=>
   simp only [bZ] at hc
   obtain ⟨ax,hx,rfl⟩:=map_some hc
   refine vB (k:=k) (fun j a w=>j≤k∧ ∃st1 μ1,bj C ow j (.loop ax) st1=some (e,st')∧Inv n st1.get st1.heap μ1 a w∧fi μ0 h0 w0 μ1 st1.heap w) (fun a w=> ?_) (fun j a w hT=> ?_) ⟨Nat.le_refl _,st,μ,he,I,S⟩
   ·rintro ⟨_,st1,μ1,h1,_⟩;simp [bj] at h1
   ·obtain ⟨hj,st1,μ1,h1,I1,S1⟩:=hT
    simp only [bj] at h1
    cases hxe:bj C ow j ax st1 with
    |none=>rw [hxe] at h1;cases h1
    |some p=>
     obtain ⟨e1,st2⟩:=p
     rw [hxe] at h1
     cases e1 with
     |normal=>exact ih j (by omega) x ax st1 st2 .normal μ1 a w _ hx hxe I1 S1 (fun μ' a' w' I' S'=>⟨by omega,st2,μ',h1,I',S'⟩)
     |exit id=>cases h1;exact ih j (by omega) x ax st1 st' (.exit id) μ1 a w _ hx hxe I1 S1 (fun μ' a' w' I' S'=>K μ' a' w' I' S')
     |ret=>cases h1;exact ih j (by omega) x ax st1 st' .ret μ1 a w _ hx hxe I1 S1 (fun μ' a' w' I' S'=>K μ' a' w' I' S')
  |_=>simp [bZ] at hc
end
end Go.AI
set_option linter.unusedVariables false
set_option linter.unusedSimpArgs false
namespace Go.AI
theorem aj.weak {F F':Frame} (hf: ∀c,F.fr c→F'.fr c) {μ:Mu} {h:ak} {w:World} {v:V} {x:Value} (hv: @aj F' μ h w v x): @aj F μ h w v x:=by
 have st: ∀c, @im F' μ c→ @im F μ c:=fun c hs=>⟨hs.1,fun h1=>hs.2 (hf c h1)⟩
 induction hv with
 |lit v=>exact @aj.lit F μ h w v
 |agg cs xs hl hcell hc ih=>exact @aj.agg F μ h w cs xs hl hcell ih
 |tup vs xs hl hc ih=>exact @aj.tup F μ h w vs xs hl ih
 |ptr b i o n x k hk hn hx hp hd=>exact @aj.ptr F μ h w b i o n x k hk hn hx hp hd
 |mp b x k hk hx hm=>exact @aj.mp F μ h w b x k hk hx hm
 |sl b s n x k hk hn hx hp=>exact @aj.sl F μ h w b s n x k hk hn hx hp
 |emp a=>exact @aj.emp F μ h w a
 |imm0 e a cap he=>exact @aj.imm0 F μ h w e a cap he
 |imm e rows c off cap ys he hr hcap hc hs hrow hcell hv ih=>exact @aj.imm F μ h w e rows c off cap ys he hr hcap hc (st c hs) hrow hcell ih
 |iptr row o c off ys hc hs hrow hcell hv ih=>exact @aj.iptr F μ h w row o c off ys hc (st c hs) hrow hcell ih
 |fn f caps xs hl hc ih=>exact @aj.fn F μ h w f caps xs hl ih
 |unk x=>exact @aj.unk F μ h w x
theorem an.weak {F F':Frame} (hf: ∀c,F.fr c→F'.fr c) {μ:Mu} {h:ak} {w:World} (H: @an F' μ h w): @an F μ h w:=by
 refine @an.mk F μ h w (Yk H) (XR H) (fun b k hk=> ?_) (J8 H) (fun b c h1 h2=>Dk H b c h1 (hf c h2)) (fun c hc=>W4 H c (hf c hc))
 rcases W1 H b k hk with h1|⟨g0,c,arr,t,lo,hi,gm,gh,gf,gl,gv⟩|h1
 ·exact .inl h1
 ·exact .inr (.inl ⟨g0,c,arr,t,lo,hi,gm,gh,gf,gl,fun i row j v h1 h2=>(gv i row j v h1 h2).weak hf⟩)
 ·exact .inr (.inr h1)
structure AF (h:ak) (m:Nat) (kp:List Nat) (ids bor:List Nat):Prop where
 flo: ∀b,b<m→ids[b]? =some b
 fkp: ∀b,b∈kp→ids[m+eD b kp]? =some b
 fbor: ∀b k,h b=some k→ ¬b<m→b∉kp→b∈bor
section
variable {h:ak} {m:Nat} {kp ids bor:List Nat}
theorem wJ (F:AF h m kp ids bor) {v v':V} (hf:iu h m kp v=some v'):nP h ids bor v v'∧okC v'=true:=by
 cases v with
 |sl b s n=>
  simp only [iu] at hf
  split at hf
  ·rename_i hb;cases hf;exact ⟨.sl b s n b (F.flo b hb),rfl⟩
  ·rename_i hb
   split at hf
   ·rename_i hk;cases hf;exact ⟨.sl b s n _ (F.fkp b hk),rfl⟩
   ·rename_i hk
    split at hf
    ·rename_i v1 bs hs
     cases hf
     simp only [ic] at hs
     split at hs
     ·rename_i k hkb
      split at hs
      ·rename_i hc
       cases hs
       exact ⟨.bor b s n k (F.fbor b k hkb hb hk) hkb hc.1 hc.2.1 hc.2.2,rfl⟩
      ·cases hs
     ·cases hs
    ·cases hf
 |ptr b i o n=>
  simp only [iu] at hf
  split at hf
  ·rename_i hb;cases hf;exact ⟨.ptr b i o n b (F.flo b hb),rfl⟩
  ·rename_i hb
   split at hf
   ·rename_i hk;cases hf;exact ⟨.ptr b i o n _ (F.fkp b hk),rfl⟩
   ·cases hf
 |mp b=>
  simp only [iu] at hf
  split at hf
  ·rename_i hb;cases hf;exact ⟨.mp b b (F.flo b hb),rfl⟩
  ·rename_i hb
   split at hf
   ·rename_i hk;cases hf;exact ⟨.mp b _ (F.fkp b hk),rfl⟩
   ·cases hf
 |fn f cs=>
  cases cs with
  |nil=>simp only [iu] at hf;cases hf;exact ⟨.fn f,rfl⟩
  |cons a b=>simp [iu] at hf
 |lit y=>simp only [iu] at hf;cases hf;exact ⟨.lit y,rfl⟩
 |imm e r=>simp only [iu] at hf;cases hf;exact ⟨.imm e r,rfl⟩
 |iptr r o=>simp only [iu] at hf;cases hf;exact ⟨.iptr r o,rfl⟩
 |undef=>simp only [iu] at hf;cases hf;exact ⟨.undef,rfl⟩
 |agg cs=>simp [iu] at hf
 |tup cs=>simp [iu] at hf
theorem uY (F:AF h m kp ids bor): ∀{cs cs':List V},lX h m kp cs=some cs'→cs'.length=cs.length∧(∀(i:Nat) (v v':V),cs[i]? =some v→cs'[i]? =some v'→nP h ids bor v v')∧cs'.all okC=true
 |[],cs',hf=>by
  simp [lX] at hf;subst hf
  exact ⟨rfl,(fun i v v' h=>by simp at h),rfl⟩
 |v::r,cs',hf=>by
  simp only [lX] at hf
  split at hf
  ·rename_i v1 r1 h1 h2
   cases hf
   obtain ⟨a1,a2⟩:=wJ F h1
   obtain ⟨b1,b2,b3⟩:=uY F h2
   refine ⟨by simp [b1],fun i u u' hu hu'=> ?_,by simp [a2];simpa using b3⟩
   cases i with
   |zero=>simp at hu hu';subst hu;subst hu';exact a1
   |succ i=>exact b2 i u u' (by simpa using hu) (by simpa using hu')
  ·cases hf
theorem L5 (F:AF h m kp ids bor) {v v':V} (hf:rq h m kp v=some v'):nv h ids bor v v'∧okA v'=true:=by
 have other:iu h m kp v=some v'→nv h ids bor v v'∧okA v'=true:=fun h1=>by
  obtain ⟨a,b⟩:=wJ F h1
  refine ⟨.cell _ _ a, ?_⟩
  cases v'<;>first|exact b| (simp [okC] at b)
 cases v with
 |agg cs=>
  simp only [rq] at hf
  split at hf
  ·rename_i cs' h1
   cases hf
   obtain ⟨a,b,c⟩:=uY F h1
   exact ⟨.agg _ _ a b,c⟩
  ·cases hf
 |tup cs=>simp [rq] at hf
 |lit y=>exact other hf
 |ptr b i o n=>exact other hf
 |sl b s n=>exact other hf
 |imm e r=>exact other hf
 |iptr r o=>exact other hf
 |fn f cs=>exact other hf
 |undef=>exact other hf
 |mp b=>exact other hf
theorem Ac (F:AF h m kp ids bor): ∀{cs cs':List V},lZ h m kp cs=some cs'→cs'.length=cs.length∧(∀(i:Nat) (v v':V),cs[i]? =some v→cs'[i]? =some v'→nv h ids bor v v')∧cs'.all okA=true
 |[],cs',hf=>by
  simp [lZ] at hf;subst hf
  exact ⟨rfl,(fun i v v' h=>by simp at h),rfl⟩
 |v::r,cs',hf=>by
  simp only [lZ] at hf
  split at hf
  ·rename_i v1 r1 h1 h2
   cases hf
   obtain ⟨a1,a2⟩:=L5 F h1
   obtain ⟨b1,b2,b3⟩:=Ac F h2
   refine ⟨by simp [b1],fun i u u' hu hu'=> ?_,by simp [a2];simpa using b3⟩
   cases i with
   |zero=>simp at hu hu';subst hu;subst hu';exact a1
   |succ i=>exact b2 i u u' (by simpa using hu) (by simpa using hu')
  ·cases hf
theorem Mr (F:AF h m kp ids bor) {v v':V} (hf:tj h m kp v=some v'):nv h ids bor v v'∧okD v'=true:=by
 have other:iu h m kp v=some v'→nv h ids bor v v'∧okD v'=true:=fun h1=>by
  obtain ⟨a,b⟩:=wJ F h1
  refine ⟨.cell _ _ a, ?_⟩
  cases v' with
  |fn f cs=>
   cases cs with
   |nil=>rfl
   |cons c d=>simp [okC] at b
  |_=>exact b
 cases v with
 |fn f cs=>
  cases cs with
  |nil=>exact other hf
  |cons c cs=>
   simp only [tj] at hf
   split at hf
   ·rename_i cs' h1
    cases hf
    obtain ⟨a,b,c⟩:=uY F h1
    exact ⟨.fn f _ _ a b,c⟩
   ·cases hf
 |_=>exact other hf
theorem A0 (F:AF h m kp ids bor): ∀{cs cs':List V},o9 h m kp cs=some cs'→cs'.length=cs.length∧(∀(i:Nat) (v v':V),cs[i]? =some v→cs'[i]? =some v'→nv h ids bor v v')∧cs'.all okD=true
 |[],cs',hf=>by
  simp [o9] at hf;subst hf
  exact ⟨rfl,(fun i v v' h=>by simp at h),rfl⟩
 |v::r,cs',hf=>by
  simp only [o9] at hf
  split at hf
  ·rename_i v1 r1 h1 h2
   cases hf
   obtain ⟨a1,a2⟩:=Mr F h1
   obtain ⟨b1,b2,b3⟩:=A0 F h2
   refine ⟨by simp [b1],fun i u u' hu hu'=> ?_,by simp [a2];simpa using b3⟩
   cases i with
   |zero=>simp at hu hu';subst hu;subst hu';exact a1
   |succ i=>exact b2 i u u' (by simpa using hu) (by simpa using hu')
  ·cases hf
theorem vE (F:AF h m kp ids bor): ∀{rs rs':List (List V)},kC h m kp rs=some rs'→rs'.length=rs.length∧(∀(i:Nat) (row row':List V),rs[i]? =some row→rs'[i]? =some row'→row'.length=row.length∧ ∀(j:Nat) (v v':V),row[j]? =some v→row'[j]? =some v'→nv h ids bor v v')∧
 ∀row∈rs', ∀v∈row,okD v=true
 |[],rs',hf=>by
  simp [kC] at hf;subst hf
  exact ⟨rfl,(fun i v v' h=>by simp at h),fun row hr=>by simp at hr⟩
 |v::r,rs',hf=>by
  simp only [kC] at hf
  split at hf
  ·rename_i v1 r1 h1 h2
   cases hf
   obtain ⟨a1,a2,a3⟩:=A0 F h1
   obtain ⟨b1,b2,b3⟩:=vE F h2
   refine ⟨by simp [b1],fun i u u' hu hu'=> ?_,fun row hr=> ?_⟩
   ·cases i with
    |zero=>simp at hu hu';subst hu;subst hu';exact ⟨a1,a2⟩
    |succ i=>exact b2 i u u' (by simpa using hu) (by simpa using hu')
   ·rcases List.mem_cons.1 hr with rfl|hr
    ·exact fun v hv=>List.all_eq_true.1 a3 v hv
    ·exact b3 row hr
  ·cases hf
theorem LH (F:AF h m kp ids bor) {k k0:Blk} (hf:A2 h m kp k=some k0):Fa h ids bor k k0∧okB k0:=by
 unfold A2 at hf
 split at hf
 ·rename_i ho
  cases hf
  exact ⟨⟨rfl,rfl,rfl,(fun _=>rfl),(fun h1=>by rw [ho] at h1;cases h1)⟩,fun h1=>by rw [ho] at h1;cases h1⟩
 ·rename_i ho
  split at hf
  ·rename_i rows h1
   cases hf
   obtain ⟨a,b,c⟩:=vE F h1
   exact ⟨⟨rfl,rfl,a,(fun h2=>absurd h2 ho),(fun _ i row row' g1 g2=>b i row row' g1 g2)⟩,fun _=>c⟩
  ·cases hf
theorem Ar (F:AF h m kp ids bor): ∀{l:List Nat} {bs:List Blk},kO h m kp l=some bs→l.length=bs.length∧(∀(i b:Nat),l[i]? =some b→ ∃k k0,h b=some k∧bs[i]? =some k0∧Fa h ids bor k k0)∧ ∀k∈bs,okB k
 |[],bs,hf=>by
  simp [kO] at hf;subst hf
  exact ⟨rfl,(fun i b h=>by simp at h),fun k hk=>by simp at hk⟩
 |b::r,bs,hf=>by
  simp only [kO] at hf
  split at hf
  ·rename_i k hk
   split at hf
   ·rename_i k' r' h1 h2
    cases hf
    obtain ⟨a1,a2⟩:=LH F h1
    obtain ⟨b1,b2,b3⟩:=Ar F h2
    refine ⟨by simp [b1],fun i b' hb=> ?_,fun k2 hk2=> ?_⟩
    ·cases i with
     |zero=>simp at hb;subst hb;exact ⟨k,k',hk,rfl,a1⟩
     |succ i=>simpa using b2 i b' (by simpa using hb)
    ·rcases List.mem_cons.1 hk2 with rfl|hk2
     ·exact a2
     ·exact b3 k2 hk2
   ·cases hf
  ·cases hf
end
theorem FQ {α:Type}: ∀{m:List (Nat×α)} {b:Nat} {k:α},bC m b=some k→b∈m.map (·.1)
 | (j,u)::r,b,k,h=>by
   simp only [bC] at h
   split at h
   ·rename_i e;subst e;simp
   ·simp only [List.map_cons,List.mem_cons];exact .inr (FQ h)
theorem uO (m:Nat): ∀(r acc:List Nat),acc.Nodup→(∀b∈acc,m≤b)→(qY m acc r).Nodup∧ ∀b∈qY m acc r,m≤b
 |[],acc,h1,h2=>⟨h1,h2⟩
 |x::r,acc,h1,h2=>by
  simp only [qY]
  split
  ·rename_i hx
   refine uO m r _ ?_ (fun b hb=> ?_)
   ·unfold cG
    split
    ·exact h1
    ·rename_i hn
     exact List.nodup_append.2 ⟨h1,by simp,fun a ha b hb e=>by simp at hb;subst hb;subst e;exact hn ha⟩
   ·unfold cG at hb
    split at hb
    ·exact h2 b hb
    ·rcases List.mem_append.1 hb with h|h
     ·exact h2 b h
     ·simp at h;subst h;exact hx
  ·exact uO m r acc h1 h2
section
variable {P:Program} {μ:Mu} {w:World} {a:Act}
def yZ (a:Act):ResultVar→Sem Value
 | .tmp t=>pure (a.tmps.getD t undef)
 | .cell b t=>do loadVar t (←asAddr (a.tmps.getD b undef))
theorem DR [Frame] {st:St} {n:Nat} (I:Inv n st.get st.heap μ a w): ∀{rs:List ResultVar} {as:List vb} {vs:List V},jm P rs=some as→fI st as=some vs→
 ∃xs:List Value,(rs.mapM (yZ a)).run P w= .ok xs w∧xs.length=vs.length∧ ∀(i:Nat) (v:V),vs[i]? =some v→aj μ st.heap w v (xs.getD i undef)
 |[],as,vs,hc,hr=>by
  simp [jm] at hc;subst hc
  simp [fI] at hr;subst hr
  exact ⟨[],rfl,rfl,fun i v h=>by simp at h⟩
 |r::rs,as,vs,hc,hr=>by
  have tail: ∀{x:vb} {as':List vb},as=x::as'→jm P rs=some as'→ ∃v vs',vs=v::vs'∧tF st x=some v∧fI st as'=some vs':=by
   intro x as' e _
   subst e
   simp only [fI] at hr
   split at hr
   ·rename_i v vs' h1 h2;cases hr;exact ⟨v,vs',rfl,h1,h2⟩
   ·cases hr
  cases r with
  |tmp t=>
   simp only [jm] at hc
   obtain ⟨as',ha,rfl⟩:=map_some hc
   obtain ⟨v,vs',rfl,h1,h2⟩:=tail rfl ha
   obtain ⟨xs,e1,e2,e3⟩:=DR I ha h2
   simp only [tF,Option.some.injEq] at h1
   refine ⟨a.tmps.getD t undef::xs, ?_,by simp [e2],fun i u hu=> ?_⟩
   ·rw [List.mapM_cons]
    simp only [yZ,Sem.run_bind,Sem.run_pure,Result.andThen_ok,e1]
   ·cases i with
    |zero=>simp at hu;subst hu;rw [←h1];exact I.E t
    |succ i=>exact e3 i u (by simpa using hu)
  |cell b t=>
   simp only [jm] at hc
   split at hc
   ·rename_i g as' hg ha
    cases hc
    obtain ⟨v,vs',rfl,h1,h2⟩:=tail rfl ha
    obtain ⟨xs,e1,e2,e3⟩:=DR I ha h2
    simp only [tF] at h1
    obtain ⟨c,off,y,hx,hy,hv⟩:=BL (P:=P) (t:=t) I.H (I.E b) hg h1
    refine ⟨y::xs, ?_,by simp [e2],fun i u hu=> ?_⟩
    ·have e0:(yZ a (.cell b t)).run P w= .ok y w:=by
      simp only [yZ,Sem.run_bind,hx,asAddr,Sem.run_pure,Result.andThen_ok,hy]
     rw [List.mapM_cons]
     simp only [Sem.run_bind,e0,Sem.run_pure,Result.andThen_ok,e1]
    ·cases i with
     |zero=>simp at hu;subst hu;exact hv
     |succ i=>exact e3 i u (by simpa using hu)
   ·cases hc
theorem Ej [Frame] {fn:Func} {st:St} {n:Nat} (I:Inv n st.get st.heap μ a w) {as:List vb} {vs:List V} (hc:jm P fn.results.toList=some as) (hr:fI st as=some vs):
 ∃xs:List Value,(results fn a.tmps).run P w= .ok (match xs with
  |[x]=>x
  |xs=> .tuple xs.toArray) w∧xs.length=vs.length∧ ∀(i:Nat) (v:V),vs[i]? =some v→aj μ st.heap w v (xs.getD i undef):=by
 obtain ⟨xs,h1,h2,h3⟩:=DR I hc hr
 refine ⟨xs, ?_,h2,h3⟩
 have hf:results fn a.tmps=(do
  let vs ←fn.results.mapM (yZ a)
  pure (if h:vs.size=1 then vs[0] else .tuple vs)):=by
  unfold results
  congr 2
 rw [hf,Array.mapM_eq_mapM_toList]
 simp only [Sem.run_bind,Sem.run_map,h1,Result.andThen_ok]
 simp only [Sem.run_pure,List.size_toArray]
 match xs with
 |[]=>rfl
 |[x]=>rfl
 |x::y::r=>rfl
end
section
variable {P:Program} {T:Tab} {ow:bK}
structure nX (P:Program) (T:Tab):Prop where
 code: ∀f af,T f=some (.code af)→ ∃fn hn,P.funcs[f]? =some fn∧(fn.name== "runtime.NumGoroutine")=false∧iy P fn hn=some af
 ext: ∀f g,T f=some (.ext g)→ ∀args blks r blks',g args blks=some (r,blks')→ ∀(F:Frame) (μ:Mu) (w:World) (xs:Array Value), @an F μ (aB blks) w→xs.size=args.length→
  (∀(i:Nat) (v:V),args[i]? =some v→ @aj F μ (aB blks) w v (xs.getD i undef))→Reach P f xs w (fJ F μ (aB blks) w r blks')
theorem kJ {α:Type}: ∀(l:List α) (n i:Nat),bC (iJ n l) i=if n≤i then l[i-n]? else none
 |[],n,i=>by simp [iJ,bC]
 |x::r,n,i=>by
  simp only [iJ,bC]
  by_cases e:n=i
  ·subst e;simp
  ·rw [if_neg e,kJ r (n+1) i]
   by_cases h1:n≤i
   ·rw [if_pos h1,if_pos (by omega)]
    have:i-n=(i-(n+1))+1:=by omega
    rw [this];simp
   ·rw [if_neg h1,if_neg (by omega)]
theorem vG {F:Frame} {μ0:Mu} {w0:World} {blks:List Blk} {n:Nat} {af:aC} {st:St} {μ:Mu} {a:Act} {w:World} {r:V} {blks':List Blk} {fn:Func} (I: @Inv F n st.get st.heap μ a w) (S: @fi F μ0 (aB blks) w0 μ st.heap w)
 (hc:jm P fn.results.toList=some af.results) {e:aH} (he:e= .normal∨e= .ret) (hf:fa af blks.length (some (e,st))=some (r,blks')):
 ∃v,(results fn a.tmps).run P w= .ok v w∧fJ F μ0 (aB blks) w0 r blks' v w:=by
 have hf':(match fI st af.results with
  |none=>none
  |some vs=>match lZ st.heap blks.length (if af.keep then fC af.raw st.heap blks.length vs else []) vs,kO st.heap blks.length (if af.keep then fC af.raw st.heap blks.length vs else []) (List.range blks.length++(if af.keep then fC af.raw st.heap blks.length vs else [])) with
   |some vs',some bs=>if blks.length≤1000 then some (CD vs',bs) else none
   |_,_=>none)=some (r,blks'):=by
  rcases he with rfl|rfl<;>exact hf
 clear hf
 split at hf'
 ·cases hf'
 ·rename_i vs hvs
  generalize hkp:(if af.keep then fC af.raw st.heap blks.length vs else [])=kp at hf'
  split at hf'
  ·rename_i vs' bs h1 h2
   split at hf'
   ·rename_i hm
    cases hf'
    have hks:kp.Nodup∧ ∀b∈kp,blks.length≤b:=by
     rw [←hkp]
     split
     ·exact uO _ _ [] List.nodup_nil (fun b hb=>by cases hb)
     ·exact ⟨List.nodup_nil,fun b hb=>by cases hb⟩
    have hkge:=hks.2
    let ids:=List.range blks.length++kp
    let bor:=(st.m.map (·.1)).filter (fun b=>decide (b∉ids))
    have hmem: ∀b,b∈ids↔b<blks.length∨b∈kp:=by
     intro b
     simp only [ids,List.mem_append,List.mem_range]
    have FI:AF st.heap blks.length kp ids bor:=by
     refine ⟨fun b hb=> ?_,fun b hb=> ?_,fun b k hk h3 h4=> ?_⟩
     ·simp only [ids]
      rw [List.getElem?_append_left (by simpa using hb),List.getElem?_range hb]
     ·simp only [ids]
      rw [List.getElem?_append_right (by simp),List.length_range,Nat.add_sub_cancel_left]
      exact jj hb
     ·simp only [bor,List.mem_filter,decide_eq_true_eq]
      refine ⟨FQ hk,fun h5=> ?_⟩
      rcases (hmem b).1 h5 with h6|h6
      ·exact h3 h6
      ·exact h4 h6
    obtain ⟨a1,a2,a3⟩:=Ac FI h1
    obtain ⟨b1,b2,b3⟩:=Ar FI h2
    have W:Way st.heap ids bor blks':=by
     refine ⟨?_,b1,b2,fun b hb h3=> ?_,fun b hb=> ?_⟩
     ·simp only [ids]
      rw [List.nodup_append]
      refine ⟨List.nodup_range,hks.1,fun x hx y hy=> ?_⟩
      rw [List.mem_range] at hx
      have:=hkge y hy
      omega
     ·simp only [bor,List.mem_filter,decide_eq_true_eq] at hb
      exact hb.2 h3
     ·simp only [bor,List.mem_filter] at hb
      have: ∀(m:List (Nat×Blk)),b∈m.map (·.1)→ ∃k,bC m b=some k:=by
       intro m
       induction m with
       |nil=>intro h;simp at h
       |cons x t ih=>
        intro h
        obtain ⟨j,k⟩:=x
        simp only [bC]
        by_cases e:j=b
        ·exact ⟨k,by rw [if_pos e]⟩
        ·rw [if_neg e]
         refine ih ?_
         simp only [List.map_cons,List.mem_cons] at h
         exact h.resolve_left (fun e'=>e e'.symm)
      exact this st.m hb.1
    have hfr: ∀c,F.fr c→(hJ F μ ids bor).fr c:=fun c hc=> .inl hc
    have IH: @an F μ st.heap w:= @Inv.H F _ _ _ _ _ _ I
    have H1:=(Cw W IH).weak hfr
    obtain ⟨xs,hrun,hxl,hxv⟩:= @Ej P μ w a F fn st n I af.results vs hc hvs
    have hrel: ∀(i:Nat) (v:V),vs'[i]? =some v→ @aj F (gL μ ids) (aB blks') w v (xs.getD i undef):=by
     intro i v hi
     obtain ⟨v0,h0⟩:=bQ (l:=vs) (i:=i) (by rw [←a1];exact bt hi)
     exact (D8 W IH (a2 i v0 v h0 hi) (hxv i v0 h0)).weak hfr
    have SC: @Chg F μ0 (aB blks) w0 μ st.heap w:= @fi.C F _ _ _ _ _ _ S
    have hsub: ∀i c,gL μ ids i=some c→ ∃b,μ b=some c:=fun i c hi=>by
     obtain ⟨b,_,hb⟩:=pw hi;exact ⟨b,hb⟩
    have hev: @g9 F μ w (gL μ ids) w:= @g9.mk F _ _ _ _ rfl rfl rfl (Nat.le_refl _) (Nat.le_refl _) (fun c _ hs=>⟨rfl,fun i hi=>by
     obtain ⟨b,hb⟩:=hsub i c hi;exact hs.1 b hb,hs.2⟩) (fun _ _=>rfl)
    refine ⟨_,hrun,gL μ ids,H1, @Chg.mk F _ _ _ _ _ _ (@g9.trans F _ _ _ _ _ _ (wI SC) hev) (fun b k hk=> ?_), ?_, ?_,b3⟩
    ·have hb:b<blks.length:=bt hk
     obtain ⟨k1,hk1,hr1⟩:=Q4 SC b k hk
     obtain ⟨k2,k0,g1,g2,L⟩:=b2 b b (FI.flo b hb)
     rw [hk1] at g1;cases g1
     refine ⟨k0,g2, ?_⟩
     have:gL μ ids b=μ b:=by simp [gL,FI.flo b hb]
     rw [L.esz,L.len,L.op,this]
     exact hr1
    ·have hl2:xs.length=vs'.length:=by rw [hxl,a1]
     match vs',xs,hl2,hrel with
     |[],[],_,_=>exact @aj.tup F _ _ _ [] #[] rfl (fun i v h=>by simp at h)
     |[v],[x],_,hr2=>exact hr2 0 v rfl
     |v::v2::t,x::x2::t2,hl3,hr2=>
      exact @aj.tup F _ _ _ (v::v2::t) (x::x2::t2).toArray (by simpa using hl3) (fun i u hu=>by
       have:=hr2 i u hu
       rw [List.getD_eq_getElem?_getD] at this
       rw [Array.getD_eq_getD_getElem?,List.getElem?_toArray]
       exact this)
    ·match vs',a3 with
     |[],_=>rfl
     |[v],h3=>
      have:okA v=true:=by simpa using h3
      show okR v=true
      cases v<;>first|exact this| (simp [okA,okC] at this)
     |v::v2::t,h3=>exact h3
   ·cases hf'
  ·cases hf'
theorem yy (hT:nX P T) {n:Nat} (hn0:eY P (cg T ow n)) {f:FuncId} {af:aC} (haf:T f=some (.code af)) {F:Frame} {μ:Mu} {w:World} {xs:Array Value} {args:List V} {blks:List Blk} {r:V} {blks':List Blk}
 (h:fa af blks.length (bj (cg T ow n) ow n af.body (start args blks))=some (r,blks')) (H: @an F μ (aB blks) w) (hl:xs.size=args.length)
 (hv: ∀(i:Nat) (v:V),args[i]? =some v→ @aj F μ (aB blks) w v (xs.getD i undef)):Reach P f xs w (fJ F μ (aB blks) w r blks'):=by
 obtain ⟨fn,hn,hfn,hname,hcomp⟩:=hT.code f af haf
 unfold iy at hcomp
 split at hcomp
 ·cases hcomp
 ·rename_i c hb
  split at hcomp
  ·rename_i ac rs hcc hcr
   split at hcomp
   ·rename_i hfol
    cases hcomp
    right
    refine ⟨?_,calls_of_wp hfn hb ?_⟩
    ·have hname': ¬fn.name= "runtime.NumGoroutine" :=by simpa using hname
     have hp:(program).run P w= .ok P w:=rfl
     simp [callFunc,Sem.run_bind,hp,hfn,hname',hb]
    ·cases he:bj (cg T ow n) ow n ac (start args blks) with
     |none=>rw [he] at h;simp [fa] at h
     |some p=>
      obtain ⟨e,st⟩:=p
      rw [he] at h
      have hex:e= .normal∨e= .ret:=by
       cases e with
       |normal=>exact .inl rfl
       |ret=>exact .inr rfl
       |exit id=>simp [fa] at h
      have hm:blks.length≤1000:=by
       revert h
       rcases hex with rfl|rfl<;>
       ·simp only [fa]
        intro h
        split at h
        ·cases h
        ·split at h
         ·split at h
          ·assumption
          ·cases h
         ·cases h
      have hheap:(start args blks).heap=aB blks:=by
       funext i
       show bC (iJ 0 blks) i=blks[i]?
       rw [kJ];simp
      have hget: ∀t,(start args blks).get t=(args[t]?).getD .undef:=by
       intro t
       show (bC (iJ 0 args) t).getD .undef=_
       rw [kJ];simp
      refine @zI P (cg T ow n) ow fn.ntmps hn F hn0 hfol μ (aB blks) w n c ac (start args blks) st e μ _ w _ hcc he ?_ ?_ (fun μ' a' w' I' S'=> ?_)
      ·refine @Inv.mk F _ _ _ _ _ _ (by rw [hheap];exact H) (fun t=> ?_) (by simp;omega) rfl
       rw [hget,hheap]
       cases ht:args[t]? with
       |none=>exact @aj.unk F _ _ _ _
       |some v=>
        have:=hv t v ht
        have hlt:=bt ht
        rw [Array.getD_eq_getD_getElem?,Array.getElem?_append_left (by omega), ←Array.getD_eq_getD_getElem?]
        exact this
      ·rw [hheap]
       exact @fi.mk F _ _ _ _ _ _ (@Chg.refl F _ _ _) (fun b k hk=>by have:=bt hk;omega)
      ·obtain ⟨v,h1,h2⟩:=vG I' S' hcr hex h
       have hdf:a'.defers=[]:= @Inv.df F _ _ _ _ _ _ I'
       rcases hex with rfl|rfl<;>exact ⟨hdf,v,h1,h2⟩
   ·cases hcomp
  ·cases hcomp
theorem oh (hT:nX P T): ∀n,eY P (cg T ow n)
 |0=>fun f args blks r blks' h=>by simp [cg] at h
 |n+1=>fun f args blks r blks' h F μ w xs H hl hv=>by
  simp only [cg] at h
  split at h
  ·cases h
  ·rename_i af haf
   have core: ∀(args:List V) (blks:List Blk) (r:V) (blks':List Blk),fa af blks.length (bj (cg T ow n) ow n af.body (start args blks))=some (r,blks')→
    @an F μ (aB blks) w→xs.size=args.length→(∀(i:Nat) (v:V),args[i]? =some v→ @aj F μ (aB blks) w v (xs.getD i undef))→Reach P f xs w (fJ F μ (aB blks) w r blks'):=by
    clear h H hl hv r blks' args blks
    intro args blks r blks' h H hl hv
    exact yy hT (oh hT n) haf h H hl hv
   cases hfin:fa af blks.length (bj (cg T ow n) ow n af.body (start args blks)) with
   |none=>rw [hfin] at h;cases h
   |some p=>
    obtain ⟨r0,bs0⟩:=p
    rw [hfin] at h
    simp only [EP,Option.some.injEq,Prod.mk.injEq] at h
    obtain ⟨rfl,rfl⟩:=h
    have hp:=core args blks r0 bs0 hfin H hl hv
    cases hraw:af.raw with
    |true=>exact hp.mono (fun x w' hp=>hp.czR)
    |false=>exact hp.mono (fun x w' hp=>hp.czR.czB)
  ·rename_i g hg
   exact hT.ext f g hg args blks r blks' h F μ w xs H hl hv
theorem mY (hT:nX P T):eY P (Call T ow):=fun f args blks r blks' h=>by
 obtain ⟨n,hn⟩:=yb h
 exact oh hT n f args blks r blks' hn
end
end Go.AI
