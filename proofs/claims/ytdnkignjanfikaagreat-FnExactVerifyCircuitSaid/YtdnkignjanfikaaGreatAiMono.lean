/- Part. -/
import Derived.Test.YtdnkignjanfikaaGreatAiCall3
set_option linter.unusedVariables false
set_option linter.unusedSimpArgs false
namespace Go.AI
def Le (h h':b8):Prop:= ∀b k,h b=some k->h' b=some k
section
variable {h h':b8}
theorem Vu (L:Le h h') {v:V} {r:V×List Nat} (a:pu h v=some r):pu h' v=some r:=by
 cases v with
 |sl b s n=>
  simp only [pu] at a ⊢
  cases c:h b with
  |none=>rw [c] at a;cases a
  |some k=>rw [c] at a;rw [L b k c];exact a
 |_=>exact a
theorem Dm (L:Le h h') {v:V} {r:Nat×List Tri} (a:rg h v=some r):rg h' v=some r:=by
 cases v with
 |mp b=>
  simp only [rg] at a ⊢
  cases c:h b with
  |none=>rw [c] at a;cases a
  |some k=>rw [c] at a;rw [L b k c];exact a
 |_=>exact a
theorem JT (L:Le h h'): ∀{vs:List V} {r:List V×List Nat},ng h vs=some r->ng h' vs=some r
 |[],r,a=>a
 |v::vs,r,a=>by
  simp only [ng] at a ⊢
  cases b:pu h v with
  |none=>rw [b] at a;cases a
  |some p=>
   rw [b] at a
   rw [Vu L b]
   cases c:ng h vs with
   |none=>rw [c] at a;cases a
   |some q=>rw [c] at a;rw [JT L c];exact a
theorem Ff (L:Le h h') {e:Nat} {v:V} {r:List (List V)} (d:ed h e v=some r):ed h' e v=some r:=by
 cases v with
 |sl b s n=>
  simp only [ed] at d ⊢
  cases f:h b with
  |none=>rw [f] at d;cases d
  |some k=>rw [f] at d;rw [L b k f];exact d
 |lit y=>
  cases y with
  |slice a n c=>cases a<;>cases n<;>cases c<;>exact d
  |_=>exact d
 |_=>exact d
theorem a49 (L:Le h h') {g:Option Nat} {v r:V} (a:ym g h v=some r):ym g h' v=some r:=by
 cases v with
 |ptr b i o n=>
  simp only [ym] at a ⊢
  cases c:h b with
  |none=>rw [c] at a;cases a
  |some k=>rw [c] at a;rw [L b k c];exact a
 |_=>exact a
theorem Gh (L:Le h h') {ev:Opd->V}: ∀{ps:List (Nat×Opd)} {r:List (Nat×V)×List Nat},ew h ev ps=some r->ew h' ev ps=some r
 |[],r,a=>a
 | (i,x)::ps,r,a=>by
   simp only [ew] at a ⊢
   cases b:ng h (ev x).cells with
   |none=>rw [b] at a;cases a
   |some p=>
    rw [b] at a
    rw [JT L b]
    cases c:ew h ev ps with
    |none=>rw [c] at a;cases a
    |some q=>rw [c] at a;rw [Gh L c];exact a
theorem Kh (L:Le h h') {own:Bool} {ids:List Nat} {v:V} {r:V×List Nat×List Nat} (a:dw h own ids v=some r):dw h' own ids v=some r:=by
 cases v with
 |ptr b i o n=>
  simp only [dw] at a ⊢
  cases c:h b with
  |none=>rw [c] at a;cases a
  |some k=>rw [c] at a;rw [L b k c];exact a
 |mp b=>
  simp only [dw] at a ⊢
  cases c:h b with
  |none=>rw [c] at a;cases a
  |some k=>rw [c] at a;rw [L b k c];exact a
 |sl b s n=>
  simp only [dw] at a ⊢
  cases c:h b with
  |none=>rw [c] at a;cases a
  |some k=>rw [c] at a;rw [L b k c];exact a
 |fn f cs=>cases cs<;>exact a
 |_=>exact a
theorem Aw (L:Le h h') {own:Bool}: ∀{vs:List V} {ids:List Nat} {r:List V×List Nat×List Nat},eO h own ids vs=some r->eO h' own ids vs=some r
 |[],ids,r,d=>d
 |v::vs,ids,r,d=>by
  simp only [eO] at d ⊢
  cases e:dw h own ids v with
  |none=>rw [e] at d;cases d
  |some p=>
   obtain ⟨a,b,c⟩:=p
   rw [e] at d
   rw [Kh L e]
   dsimp only at d ⊢
   cases f:eO h own b vs with
   |none=>rw [f] at d;cases d
   |some q=>rw [f] at d;rw [Aw L f];exact d
theorem NE (L:Le h h') {own:Bool} {ids:List Nat} {v:V} {r:V×List Nat×List Nat} (a:fm h own ids v=some r):fm h' own ids v=some r:=by
 d other: ∀v,fm h own ids v=dw h own ids v->fm h' own ids v=dw h' own ids v->fm h own ids v=some r->fm h' own ids v=some r:=fun v e1 e2 j=>by
   rw [e1] at j;rw [e2];exact Kh L j
 cases v with
 |agg cs=>
  simp only [fm] at a ⊢
  cases c:eO h own ids cs with
  |none=>rw [c] at a;cases a
  |some p=>rw [c] at a;rw [Aw L c];exact a
 |fn f cs=>
  simp only [fm] at a ⊢
  cases c:eO h true ids cs with
  |none=>rw [c] at a;cases a
  |some p=>rw [c] at a;rw [Aw L c];exact a
 |lit v=>exact other _ rfl rfl a
 |tup v=>exact other _ rfl rfl a
 |ptr b i o n=>exact other _ rfl rfl a
 |sl b s n=>exact other _ rfl rfl a
 |mp b=>exact other _ rfl rfl a
 |imm e r=>exact other _ rfl rfl a
 |iptr r o=>exact other _ rfl rfl a
 |undef=>exact other _ rfl rfl a
theorem LJ (L:Le h h') {owns:List Nat}: ∀{vs:List V} {j:Nat} {ids:List Nat} {r:List V×List Nat×List Nat},jK h owns j ids vs=some r->jK h' owns j ids vs=some r
 |[],j,ids,r,d=>d
 |v::vs,j,ids,r,d=>by
  simp only [jK] at d ⊢
  cases e:fm h (j∈owns) ids v with
  |none=>rw [e] at d;cases d
  |some p=>
   obtain ⟨a,b,c⟩:=p
   rw [e] at d
   rw [NE L e]
   dsimp only at d ⊢
   cases f:jK h owns (j+1) b vs with
   |none=>rw [f] at d;cases d
   |some q=>rw [f] at d;rw [LJ L f];exact d
theorem R6 (L:Le h h'): ∀{vs:List V} {ids:List Nat} {r:List V×List Nat},re h ids vs=some r->re h' ids vs=some r
 |[],ids,r,d=>d
 |v::vs,ids,r,d=>by
  simp only [re] at d ⊢
  cases e:fm h true ids v with
  |none=>rw [e] at d;cases d
  |some p=>
   obtain ⟨a,b,c⟩:=p
   rw [e] at d
   rw [NE L e]
   dsimp only at d ⊢
   cases f:re h b vs with
   |none=>rw [f] at d;cases d
   |some q=>rw [f] at d;rw [R6 L f];exact d
theorem Lt (L:Le h h'): ∀{rs:List (List V)} {ids:List Nat} {r:List (List V)×List Nat},oL h ids rs=some r->oL h' ids rs=some r
 |[],ids,r,c=>c
 |v::vs,ids,r,c=>by
  simp only [oL] at c ⊢
  cases d:re h ids v with
  |none=>rw [d] at c;cases c
  |some p=>
   obtain ⟨a,b⟩:=p
   rw [d] at c
   rw [R6 L d]
   dsimp only at c ⊢
   cases e:oL h b vs with
   |none=>rw [e] at c;cases c
   |some q=>rw [e] at c;rw [Lt L e];exact c
theorem DK (L:Le h h'): ∀{fuel pos:Nat} {ids:List Nat} {r:List Blk×List Nat},fM h fuel pos ids=some r->fM h' fuel pos ids=some r
 |0,pos,ids,r,a=>by simp [fM] at a
 |fuel+1,pos,ids,r,a=>by
  simp only [fM] at a ⊢
  cases i:ids[pos]? with
  |none=>rw [i] at a;exact a
  |some b=>
   rw [i] at a
   dsimp only at a ⊢
   cases d:h b with
   |none=>rw [d] at a;cases a
   |some k=>
    rw [d] at a
    rw [L b k d]
    dsimp only at a ⊢
    split at a
    ·rename_i e
     rw [ae e]
     cases c:fM h fuel (pos+1) ids with
     |none=>rw [c] at a;cases a
     |some p=>rw [c] at a;rw [DK L c];exact a
    ·rename_i e
     rw [aa e]
     cases c:oL h ids k.rows with
     |none=>rw [c] at a;cases a
     |some p=>
      obtain ⟨rows,ids1⟩:=p
      rw [c] at a
      rw [Lt L c]
      dsimp only at a ⊢
      cases f:fM h fuel (pos+1) ids1 with
      |none=>rw [f] at a;cases a
      |some q=>rw [f] at a;rw [DK L f];exact a
theorem U4 (L:Le h h') {owns:FuncId->List Nat} {f:FuncId} {args:List V} {r:List V×List Blk×List Nat×List Nat} (b:fi owns h f args=some r):fi owns h' f args=some r:=by
 unfold fi at b ⊢
 cases c:jK h (owns f) 0 [] args with
 |none=>rw [c] at b;cases b
 |some p=>
  obtain ⟨a,ids0,bor⟩:=p
  rw [c] at b
  rw [LJ L c]
  dsimp only at b ⊢
  cases d:fM h 40 0 ids0 with
  |none=>rw [d] at b;cases b
  |some q=>rw [d] at b;rw [DK L d];exact b
theorem Nl: ∀(ids:List Nat) (M:List Blk),(nH ids M).map (·.1)=ids.take M.length
 |[],M=>by simp [nH]
 |i::r,[]=>by simp [nH]
 |i::r,k::s=>by simp [nH,Nl r s]
theorem Qf (L:Le h h'): ∀{u u':Upd},roU h u=some u'->(∀b∈u'.map (·.1),h b=none->h' b=none)->roU h' u=some u'
 |[],u',a,d=>a
 | (b,k)::r,u',a,d=>by
   simp only [roU] at a ⊢
   cases e:h b with
   |none=>
    rw [e] at a;dsimp only at a
    cases f:roU h r with
    |none=>rw [f] at a;cases a
    |some r'=>
     rw [f] at a;cases a
     rw [d b (by simp) e];dsimp only
     rw [Qf L f (fun c i h0=>d c (by rw [aP,b9];exact .inr i) h0)];rfl
   |some k'=>
    rw [e] at a;dsimp only at a
    split at a
    ·rename_i j;rw [L b k' e];dsimp only;rw [ae j];exact Qf L a d
    ·cases a
theorem RT: ∀{u u':Upd},roU h u=some u'-> ∀b∈u.map (·.1),h b=none->b∈u'.map (·.1)
 |[],u',a,b,d,_=>by cases d
 | (c,k)::r,u',a,b,d,h0=>by
   simp only [roU] at a
   rw [aP,b9] at d
   cases e:h c with
   |none=>
    rw [e] at a;dsimp only at a
    cases f:roU h r with
    |none=>rw [f] at a;cases a
    |some r'=>
     rw [f] at a;cases a
     rw [aP,b9]
     rcases d with rfl|d
     ·exact .inl rfl
     ·exact .inr (RT f b d h0)
   |some k'=>
    rw [e] at a;dsimp only at a
    split at a
    ·rcases d with rfl|d
     ·rw [e] at h0;cases h0
     ·exact RT a b d h0
    ·cases a
theorem VJ (L:Le h h') {C:ce} {owns:FuncId->List Nat} {new:Nat} {f:FuncId} {args:List V} {v:V} {u:Upd} (a:nR C owns h new f args=some (v,u)) (k: ∀b∈u.map (·.1),h b=none->h' b=none):
 nR C owns h' new f args=some (v,u):=by
 unfold nR at a ⊢
 cases l:fi owns h f args with
 |none=>rw [l] at a;cases a
 |some p=>
  obtain ⟨args',blks,ids,bor⟩:=p
  rw [l] at a
  rw [U4 L l]
  dsimp only at a ⊢
  cases t:C f (u5 (owns f) args') (uR (owns f) blks) with
  |none=>rw [t] at a;cases a
  |some q=>
   obtain ⟨r,blks'⟩:=q
   rw [t] at a
   dsimp only at a ⊢
   obtain ⟨w,m, -,i,j⟩:=a6R a
   c o: ∀b∈w.map (·.1),h b=none->h' b=none:=fun b e h0=>by
     cases d:(owns f).contains 3000 with
     |true=>exact k b (RT (i d) b e h0) h0
     |false=>rw [<-j d] at e;exact k b e h0
   suffices x:yw ((owns f).contains 2000) h' new ids bor r blks'=some (v,w) by
    rw [x]
    cases d:(owns f).contains 3000 with
    |true=>simp only [roW,if_true];rw [Qf L (i d) k]
    |false=>rw [j d];rfl
   c a:=m
   unfold yw at a ⊢
   split at a
   ·rename_i s
    cases a
    refine ae ⟨s.1,aB.2 fun b e=> ?_⟩
    c hb0:h b=none:=by simpa using aB.1 s.2 b e
    rw [o b ?_ hb0]
    ·rfl
    ·rw [cI,aX,Nl,aO]
     left
     rw [bZ (by rw [ab];c:=zK (n:=new) s.1;omega)]
     exact aX.2 (.inr e)
   ·cases a
theorem kJ {n:Nat} {k:Blk} {v:V} {r:V×Upd} (a:mJ h n k v=some r) (d: ∀b∈r.2.map (·.1),h b=none->h' b=none):mJ h' n k v=some r:=by
 unfold mJ at a ⊢
 split at a
 ·rename_i c
  cases a
  rw [ae ⟨by rw [d n (by simp) (by simpa using c.1)];rfl,c.2⟩]
 ·cases a
theorem b4h (L:Le h h') {C:ce} {ow:FuncId->List Nat} {o:AOp} {ev:Opd->V} {new:Nat} {v:V} {u:Upd} (d:aM C ow o ev h new=some (v,u)) (hn: ∀b∈u.map (·.1),h b=none->h' b=none):
 aM C ow o ev h' new=some (v,u):=by
 cases o with
 |alloc z=>
  simp only [aM] at d ⊢
  split at d
  ·rename_i w;rw [ae w];exact kJ d hn
  ·cases d
 |box s x=>
  simp only [aM] at d ⊢
  split at d
  ·rename_i w;rw [ae w];exact kJ d hn
  ·cases d
 |buildTwo x y=>
  simp only [aM] at d ⊢
  split at d
  ·rename_i w;rw [ae w];exact kJ d hn
  ·cases d
 |buildSlice e z n ps=>
  simp only [aM] at d ⊢
  cases r:ew h ev ps with
  |none=>rw [r] at d;cases d
  |some p=>
   obtain ⟨qs,bs⟩:=p
   rw [r] at d
   rw [Gh L r]
   dsimp only at d ⊢
   split at d
   ·rename_i rows hr
    split at d
    ·rename_i w
     rw [ae w]
     cases hf:mJ h new ⟨e,false,rows⟩ (.sl new 0 n) with
     |none=>rw [hf] at d;cases d
     |some q=>
      rw [hf] at d
      cases d
      rw [kJ hf (fun b hm h0=>hn b (by rw [cI,aX];exact .inr hm) h0)]
    ·cases d
   ·cases d
 |load g a=>
  simp only [aM] at d ⊢
  cases r:ym g h (ev a) with
  |none=>rw [r] at d;cases d
  |some p=>rw [r] at d;rw [a49 L r];exact d
 |store s a x=>
  simp only [aM] at d ⊢
  cases j:ev a with
  |ptr b i o n=>
   rw [j] at d
   dsimp only at d ⊢
   cases t:h b with
   |none=>rw [t] at d;cases d
   |some k=>
    rw [t] at d
    rw [L b k t]
    dsimp only at d ⊢
    split at d
    ·rename_i w
     rw [ae w]
     split at d
     ·rename_i row hr
      split at d
      ·rename_i ho;rw [ae ho];exact d
      ·rename_i ho
       rw [aa ho]
       cases r:ng h (ev x).cells with
       |none=>rw [r] at d;cases d
       |some p=>rw [r] at d;rw [JT L r];exact d
     ·cases d
    ·cases d
  |_=>rw [j] at d;cases d
 |nilCheck x=>
  simp only [aM] at d ⊢
  cases j:ev x with
  |ptr b i o n=>
   rw [j] at d
   dsimp only at d ⊢
   cases t:h b with
   |none=>rw [t] at d;cases d
   |some k=>rw [t] at d;rw [L b k t];exact d
  |_=>rw [j] at d;exact d
 |toBytes x=>
  simp only [aM] at d ⊢
  split at d
  ·rename_i s j
   split at d
   ·rename_i w;exact (ae w).trans (kJ d hn)
   ·cases d
  ·cases d
 |toStr x=>
  simp only [aM] at d ⊢
  split at d
  ·cases d
  ·rename_i w
   rw [aa w]
   cases r:ed h 1 (ev x) with
   |none=>rw [r] at d;cases d
   |some p=>rw [r] at d;rw [Ff L r];exact d
 |makeSlice e by_ z l c=>
  simp only [aM] at d ⊢
  split at d
  ·rename_i a b r h2
   split at d
   ·rename_i w;exact (ae w).trans (kJ d hn)
   ·cases d
  ·cases d
 |slice e x lo hi mx=>
  cases mx with
  |some m=>exact d
  |none=>
   simp only [aM] at d ⊢
   cases j:ev x with
   |sl b s n=>
    rw [j] at d
    dsimp only at d ⊢
    cases t:h b with
    |none=>rw [t] at d;cases d
    |some k=>rw [t] at d;rw [L b k t];exact d
   |lit y=>
    rw [j] at d
    cases y with
    |slice a n c=>cases a<;>cases n<;>cases c<;>exact d
    |_=>exact d
   |_=>rw [j] at d;exact d
 |idx e x i=>
  simp only [aM] at d ⊢
  cases hi:asI (ev i) with
  |none=>rw [hi] at d;cases d
  |some q=>
   rw [hi] at d
   dsimp only at d ⊢
   split at d
   ·rename_i w
    rw [ae w]
    cases j:ev x with
    |sl b s n=>
     rw [j] at d
     dsimp only at d ⊢
     cases t:h b with
     |none=>rw [t] at d;cases d
     |some k=>rw [t] at d;rw [L b k t];exact d
    |_=>rw [j] at d;exact d
   ·cases d
 |append e by_ z x y=>
  simp only [aM] at d ⊢
  cases r:ed h e (ev y) with
  |none=>rw [r] at d;cases d
  |some ns=>
   rw [r] at d
   rw [Ff L r]
   dsimp only at d ⊢
   split at d
   ·rename_i w
    rw [ae w]
    split at d
    ·rename_i b n j
     cases t:h b with
     |none=>rw [t] at d;cases d
     |some k=>rw [t] at d;rw [L b k t];exact d
    ·exact kJ d hn
    ·exact kJ d hn
    ·cases d
   ·cases d
 |appendN e by_ z x y=>
  simp only [aM] at d ⊢
  split at d
  ·rename_i l hl
   split at d
   ·rename_i w
    rw [ae w]
    unfold Jj at d ⊢
    split at d
    ·rename_i w
     rw [ae w]
     split at d
     ·rename_i b n j
      cases t:h b with
      |none=>rw [t] at d;cases d
      |some k=>rw [t] at d;rw [L b k t];exact d
     ·exact kJ d hn
     ·exact kJ d hn
     ·cases d
    ·cases d
   ·cases d
  ·cases d
 |copy e x y=>
  simp only [aM] at d ⊢
  cases r:ed h e (ev y) with
  |none=>rw [r] at d;cases d
  |some ns=>
   rw [r] at d
   rw [Ff L r]
   cases j:ev x with
   |sl b s n=>
    rw [j] at d
    dsimp only at d ⊢
    cases t:h b with
    |none=>rw [t] at d;cases d
    |some k=>rw [t] at d;rw [L b k t];exact d
   |_=>rw [j] at d;cases d
 |arrOf n x=>
  simp only [aM] at d ⊢
  cases r:pu h (ev x) with
  |none=>rw [r] at d;cases d
  |some p=>rw [r] at d;rw [Vu L r];exact d
 |bytesOwn x=>
  simp only [aM] at d ⊢
  cases j:ev x with
  |sl b s n=>
   rw [j] at d
   dsimp only at d ⊢
   cases t:h b with
   |none=>rw [t] at d;cases d
   |some k=>rw [t] at d;rw [L b k t];exact d
  |_=>rw [j] at d;cases d
 |mkMap=>
  simp only [aM] at d ⊢
  split at d
  ·rename_i w
   cases d
   have:=hn new (by simp) (by simpa using w)
   rw [ae (by simpa using this)]
  ·cases d
 |mapGet m k=>
  simp only [aM] at d ⊢
  cases r:rg h (ev m) with
  |none=>rw [r] at d;cases d
  |some p=>rw [r] at d;rw [Dm L r];exact d
 |mapSet m k x=>
  simp only [aM] at d ⊢
  cases r:rg h (ev m) with
  |none=>rw [r] at d;cases d
  |some p=>rw [r] at d;rw [Dm L r];exact d
 |mapEnt m k=>
  simp only [aM] at d ⊢
  cases r:rg h (ev m) with
  |none=>rw [r] at d;cases d
  |some p=>rw [r] at d;rw [Dm L r];exact d
 |mapPut m i x=>
  simp only [aM] at d ⊢
  cases r:rg h (ev m) with
  |none=>rw [r] at d;cases d
  |some p=>rw [r] at d;rw [Dm L r];exact d
 |call f args=>exact VJ L d hn
 |dyn f args=>
  simp only [aM] at d ⊢
  split at d
  ·rename_i j;exact VJ L d hn
  ·cases d
 |_=>exact d
end
end Go.AI
