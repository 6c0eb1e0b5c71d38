/- Part. -/
import Derived.Test.YtdnkignjanfikaaGreatAiCall3
set_option linter.unusedVariables false
set_option linter.unusedSimpArgs false
namespace Go.AI
def Le (h h':b8):Prop:= ∀b k,h b=some k->h' b=some k
section
variable {h h':b8}
theorem Wj (L:Le h h') {v:V} {r:V×List Nat} (a:pi h v=some r):pi h' v=some r:=by
 cases v with
 |sl b s n=>
  simp only [pi] at a ⊢
  cases c:h b with
  |none=>rw [c] at a;cases a
  |some k=>rw [c] at a;rw [L b k c];exact a
 |_=>exact a
theorem Dz (L:Le h h') {v:V} {r:Nat×List Tri} (a:rE h v=some r):rE h' v=some r:=by
 cases v with
 |mp b=>
  simp only [rE] at a ⊢
  cases c:h b with
  |none=>rw [c] at a;cases a
  |some k=>rw [c] at a;rw [L b k c];exact a
 |_=>exact a
theorem JJ (L:Le h h'): ∀{vs:List V} {r:List V×List Nat},nv h vs=some r->nv h' vs=some r
 |[],r,a=>a
 |v::vs,r,a=>by
  simp only [nv] at a ⊢
  cases b:pi h v with
  |none=>rw [b] at a;cases a
  |some p=>
   rw [b] at a
   rw [Wj L b]
   cases c:nv h vs with
   |none=>rw [c] at a;cases a
   |some q=>rw [c] at a;rw [JJ L c];exact a
theorem Fk (L:Le h h') {e:Nat} {v:V} {r:List (List V)} (d:ed h e v=some r):ed h' e v=some r:=by
 cases v with
 |sl b s n=>
  simp only [ed] at d ⊢
  cases f:h b with
  |none=>rw [f] at d;cases d
  |some k=>rw [f] at d;rw [L b k f];exact d
 |lit y=>
  cases y with
  |slice a n c=>cases a<;>cases n<;>cases c<;>exact d
  |_=>exact d
 |_=>exact d
theorem a4b (L:Le h h') {g:Option Nat} {v r:V} (a:y4 g h v=some r):y4 g h' v=some r:=by
 cases v with
 |ptr b i o n=>
  simp only [y4] at a ⊢
  cases c:h b with
  |none=>rw [c] at a;cases a
  |some k=>rw [c] at a;rw [L b k c];exact a
 |_=>exact a
theorem FV (L:Le h h') {ev:Opd->V}: ∀{ps:List (Nat×Opd)} {r:List (Nat×V)×List Nat},eo h ev ps=some r->eo h' ev ps=some r
 |[],r,a=>a
 | (i,x)::ps,r,a=>by
   simp only [eo] at a ⊢
   cases b:nv h (ev x).cells with
   |none=>rw [b] at a;cases a
   |some p=>
    rw [b] at a
    rw [JJ L b]
    cases c:eo h ev ps with
    |none=>rw [c] at a;cases a
    |some q=>rw [c] at a;rw [FV L c];exact a
theorem LG (L:Le h h') {own:Bool} {ids:List Nat} {v:V} {r:V×List Nat×List Nat} (a:dv h own ids v=some r):dv h' own ids v=some r:=by
 cases v with
 |ptr b i o n=>
  simp only [dv] at a ⊢
  cases c:h b with
  |none=>rw [c] at a;cases a
  |some k=>rw [c] at a;rw [L b k c];exact a
 |mp b=>
  simp only [dv] at a ⊢
  cases c:h b with
  |none=>rw [c] at a;cases a
  |some k=>rw [c] at a;rw [L b k c];exact a
 |sl b s n=>
  simp only [dv] at a ⊢
  cases c:h b with
  |none=>rw [c] at a;cases a
  |some k=>rw [c] at a;rw [L b k c];exact a
 |fn f cs=>cases cs<;>exact a
 |_=>exact a
theorem AO (L:Le h h') {own:Bool}: ∀{vs:List V} {ids:List Nat} {r:List V×List Nat×List Nat},eQ h own ids vs=some r->eQ h' own ids vs=some r
 |[],ids,r,d=>d
 |v::vs,ids,r,d=>by
  simp only [eQ] at d ⊢
  cases e:dv h own ids v with
  |none=>rw [e] at d;cases d
  |some p=>
   obtain ⟨a,b,c⟩:=p
   rw [e] at d
   rw [LG L e]
   dsimp only at d ⊢
   cases f:eQ h own b vs with
   |none=>rw [f] at d;cases d
   |some q=>rw [f] at d;rw [AO L f];exact d
theorem NC (L:Le h h') {own:Bool} {ids:List Nat} {v:V} {r:V×List Nat×List Nat} (a:fm h own ids v=some r):fm h' own ids v=some r:=by
 have other: ∀v,fm h own ids v=dv h own ids v->fm h' own ids v=dv h' own ids v->fm h own ids v=some r->fm h' own ids v=some r:=fun v e1 e2 d=>by
  rw [e1] at d;rw [e2];exact LG L d
 cases v with
 |agg cs=>
  simp only [fm] at a ⊢
  cases c:eQ h own ids cs with
  |none=>rw [c] at a;cases a
  |some p=>rw [c] at a;rw [AO L c];exact a
 |fn f cs=>
  simp only [fm] at a ⊢
  cases c:eQ h true ids cs with
  |none=>rw [c] at a;cases a
  |some p=>rw [c] at a;rw [AO L c];exact a
 |lit v=>exact other _ rfl rfl a
 |tup v=>exact other _ rfl rfl a
 |ptr b i o n=>exact other _ rfl rfl a
 |sl b s n=>exact other _ rfl rfl a
 |mp b=>exact other _ rfl rfl a
 |imm e r=>exact other _ rfl rfl a
 |iptr r o=>exact other _ rfl rfl a
 |undef=>exact other _ rfl rfl a
theorem KG (L:Le h h') {owns:List Nat}: ∀{vs:List V} {j:Nat} {ids:List Nat} {r:List V×List Nat×List Nat},jM h owns j ids vs=some r->jM h' owns j ids vs=some r
 |[],j,ids,r,d=>d
 |v::vs,j,ids,r,d=>by
  simp only [jM] at d ⊢
  cases e:fm h (j∈owns) ids v with
  |none=>rw [e] at d;cases d
  |some p=>
   obtain ⟨a,b,c⟩:=p
   rw [e] at d
   rw [NC L e]
   dsimp only at d ⊢
   cases f:jM h owns (j+1) b vs with
   |none=>rw [f] at d;cases d
   |some q=>rw [f] at d;rw [KG L f];exact d
theorem T9 (L:Le h h'): ∀{vs:List V} {ids:List Nat} {r:List V×List Nat},rj h ids vs=some r->rj h' ids vs=some r
 |[],ids,r,d=>d
 |v::vs,ids,r,d=>by
  simp only [rj] at d ⊢
  cases e:fm h true ids v with
  |none=>rw [e] at d;cases d
  |some p=>
   obtain ⟨a,b,c⟩:=p
   rw [e] at d
   rw [NC L e]
   dsimp only at d ⊢
   cases f:rj h b vs with
   |none=>rw [f] at d;cases d
   |some q=>rw [f] at d;rw [T9 L f];exact d
theorem LA (L:Le h h'): ∀{rs:List (List V)} {ids:List Nat} {r:List (List V)×List Nat},oS h ids rs=some r->oS h' ids rs=some r
 |[],ids,r,c=>c
 |v::vs,ids,r,c=>by
  simp only [oS] at c ⊢
  cases d:rj h ids v with
  |none=>rw [d] at c;cases c
  |some p=>
   obtain ⟨a,b⟩:=p
   rw [d] at c
   rw [T9 L d]
   dsimp only at c ⊢
   cases e:oS h b vs with
   |none=>rw [e] at c;cases c
   |some q=>rw [e] at c;rw [LA L e];exact c
theorem CN (L:Le h h'): ∀{fuel pos:Nat} {ids:List Nat} {r:List Blk×List Nat},fL h fuel pos ids=some r->fL h' fuel pos ids=some r
 |0,pos,ids,r,a=>by simp [fL] at a
 |fuel+1,pos,ids,r,a=>by
  simp only [fL] at a ⊢
  cases i:ids[pos]? with
  |none=>rw [i] at a;exact a
  |some b=>
   rw [i] at a
   dsimp only at a ⊢
   cases d:h b with
   |none=>rw [d] at a;cases a
   |some k=>
    rw [d] at a
    rw [L b k d]
    dsimp only at a ⊢
    split at a
    ·rename_i e
     rw [ae e]
     cases c:fL h fuel (pos+1) ids with
     |none=>rw [c] at a;cases a
     |some p=>rw [c] at a;rw [CN L c];exact a
    ·rename_i e
     rw [aa e]
     cases c:oS h ids k.rows with
     |none=>rw [c] at a;cases a
     |some p=>
      obtain ⟨rows,ids1⟩:=p
      rw [c] at a
      rw [LA L c]
      dsimp only at a ⊢
      cases f:fL h fuel (pos+1) ids1 with
      |none=>rw [f] at a;cases a
      |some q=>rw [f] at a;rw [CN L f];exact a
theorem To (L:Le h h') {owns:FuncId->List Nat} {f:FuncId} {args:List V} {r:List V×List Blk×List Nat×List Nat} (b:fi owns h f args=some r):fi owns h' f args=some r:=by
 unfold fi at b ⊢
 cases c:jM h (owns f) 0 [] args with
 |none=>rw [c] at b;cases b
 |some p=>
  obtain ⟨a,ids0,bor⟩:=p
  rw [c] at b
  rw [KG L c]
  dsimp only at b ⊢
  cases d:fL h 40 0 ids0 with
  |none=>rw [d] at b;cases b
  |some q=>rw [d] at b;rw [CN L d];exact b
theorem NT: ∀(ids:List Nat) (M:List Blk),(og ids M).map (·.1)=ids.take M.length
 |[],M=>by simp [og]
 |i::r,[]=>by simp [og]
 |i::r,k::s=>by simp [og,NT r s]
theorem Qy (L:Le h h'): ∀{u u':Upd},roU h u=some u'->(∀b∈u'.map (·.1),h b=none->h' b=none)->roU h' u=some u'
 |[],u',hs,hn=>hs
 | (b,k)::r,u',hs,hn=>by
   simp only [roU] at hs ⊢
   cases hb:h b with
   |none=>
    rw [hb] at hs;dsimp only at hs
    cases hr:roU h r with
    |none=>rw [hr] at hs;cases hs
    |some r'=>
     rw [hr] at hs;cases hs
     rw [hn b (by simp) hb];dsimp only
     rw [Qy L hr (fun c hc h0=>hn c (by rw [aP,b9];exact .inr hc) h0)];rfl
   |some k'=>
    rw [hb] at hs;dsimp only at hs
    split at hs
    ·rename_i he;rw [L b k' hb];dsimp only;rw [ae he];exact Qy L hs hn
    ·cases hs
theorem Sg: ∀{u u':Upd},roU h u=some u'-> ∀b∈u.map (·.1),h b=none->b∈u'.map (·.1)
 |[],u',a,b,d,_=>by cases d
 | (c,k)::r,u',a,b,d,h0=>by
   simp only [roU] at a
   rw [aP,b9] at d
   cases hc:h c with
   |none=>
    rw [hc] at a;dsimp only at a
    cases e:roU h r with
    |none=>rw [e] at a;cases a
    |some r'=>
     rw [e] at a;cases a
     rw [aP,b9]
     rcases d with rfl|d
     ·exact .inl rfl
     ·exact .inr (Sg e b d h0)
   |some k'=>
    rw [hc] at a;dsimp only at a
    split at a
    ·rcases d with rfl|d
     ·rw [hc] at h0;cases h0
     ·exact Sg a b d h0
    ·cases a
theorem W4 (L:Le h h') {C:ce} {owns:FuncId->List Nat} {new:Nat} {f:FuncId} {args:List V} {v:V} {u:Upd} (a:nV C owns h new f args=some (v,u)) (hn: ∀b∈u.map (·.1),h b=none->h' b=none):
 nV C owns h' new f args=some (v,u):=by
 unfold nV at a ⊢
 cases j:fi owns h f args with
 |none=>rw [j] at a;cases a
 |some p=>
  obtain ⟨args',blks,ids,bor⟩:=p
  rw [j] at a
  rw [To L j]
  dsimp only at a ⊢
  cases m:C f (ul (owns f) args') (tY (owns f) blks) with
  |none=>rw [m] at a;cases a
  |some q=>
   obtain ⟨r,blks'⟩:=q
   rw [m] at a
   dsimp only at a ⊢
   obtain ⟨o,k, -,e,i⟩:=a7C a
   have l: ∀b∈o.map (·.1),h b=none->h' b=none:=fun b d h0=>by
    cases c:(owns f).contains 3000 with
    |true=>exact hn b (Sg (e c) b d h0) h0
    |false=>rw [<-i c] at d;exact hn b d h0
   suffices s:yl ((owns f).contains 2000) h' new ids bor r blks'=some (v,o) by
    rw [s]
    cases c:(owns f).contains 3000 with
    |true=>simp only [roW,if_true];rw [Qy L (e c) hn]
    |false=>rw [i c];rfl
   have a:=k
   unfold yl at a ⊢
   split at a
   ·rename_i hc
    cases a
    refine ae ⟨hc.1,aB.2 fun b d=> ?_⟩
    have hb0:h b=none:=by simpa using aB.1 hc.2 b d
    rw [l b ?_ hb0]
    ·rfl
    ·rw [cI,aX,NT,aO]
     left
     rw [ca (by rw [ab];have:=Aa (n:=new) hc.1;omega)]
     exact aX.2 (.inr d)
   ·cases a
theorem kC {n:Nat} {k:Blk} {v:V} {r:V×Upd} (a:mK h n k v=some r) (hn: ∀b∈r.2.map (·.1),h b=none->h' b=none):mK h' n k v=some r:=by
 unfold mK at a ⊢
 split at a
 ·rename_i hc
  cases a
  rw [ae ⟨by rw [hn n (by simp) (by simpa using hc.1)];rfl,hc.2⟩]
 ·cases a
theorem b5P (L:Le h h') {C:ce} {ow:FuncId->List Nat} {o:AOp} {ev:Opd->V} {new:Nat} {v:V} {u:Upd} (d:aM C ow o ev h new=some (v,u)) (hn: ∀b∈u.map (·.1),h b=none->h' b=none):
 aM C ow o ev h' new=some (v,u):=by
 cases o with
 |alloc z=>
  simp only [aM] at d ⊢
  split at d
  ·rename_i hc;rw [ae hc];exact kC d hn
  ·cases d
 |box s x=>
  simp only [aM] at d ⊢
  split at d
  ·rename_i hc;rw [ae hc];exact kC d hn
  ·cases d
 |buildTwo x y=>
  simp only [aM] at d ⊢
  split at d
  ·rename_i hc;rw [ae hc];exact kC d hn
  ·cases d
 |buildSlice e z n ps=>
  simp only [aM] at d ⊢
  cases r:eo h ev ps with
  |none=>rw [r] at d;cases d
  |some p=>
   obtain ⟨qs,bs⟩:=p
   rw [r] at d
   rw [FV L r]
   dsimp only at d ⊢
   split at d
   ·rename_i rows hr
    split at d
    ·rename_i hc
     rw [ae hc]
     cases w:mK h new ⟨e,false,rows⟩ (.sl new 0 n) with
     |none=>rw [w] at d;cases d
     |some q=>
      rw [w] at d
      cases d
      rw [kC w (fun b hm h0=>hn b (by rw [cI,aX];exact .inr hm) h0)]
    ·cases d
   ·cases d
 |load g a=>
  simp only [aM] at d ⊢
  cases r:y4 g h (ev a) with
  |none=>rw [r] at d;cases d
  |some p=>rw [r] at d;rw [a4b L r];exact d
 |store s a x=>
  simp only [aM] at d ⊢
  cases j:ev a with
  |ptr b i o n=>
   rw [j] at d
   dsimp only at d ⊢
   cases t:h b with
   |none=>rw [t] at d;cases d
   |some k=>
    rw [t] at d
    rw [L b k t]
    dsimp only at d ⊢
    split at d
    ·rename_i hc
     rw [ae hc]
     split at d
     ·rename_i row hr
      split at d
      ·rename_i ho;rw [ae ho];exact d
      ·rename_i ho
       rw [aa ho]
       cases r:nv h (ev x).cells with
       |none=>rw [r] at d;cases d
       |some p=>rw [r] at d;rw [JJ L r];exact d
     ·cases d
    ·cases d
  |_=>rw [j] at d;cases d
 |nilCheck x=>
  simp only [aM] at d ⊢
  cases j:ev x with
  |ptr b i o n=>
   rw [j] at d
   dsimp only at d ⊢
   cases t:h b with
   |none=>rw [t] at d;cases d
   |some k=>rw [t] at d;rw [L b k t];exact d
  |_=>rw [j] at d;exact d
 |toBytes x=>
  simp only [aM] at d ⊢
  split at d
  ·rename_i s j
   split at d
   ·rename_i hc;exact (ae hc).trans (kC d hn)
   ·cases d
  ·cases d
 |toStr x=>
  simp only [aM] at d ⊢
  split at d
  ·cases d
  ·rename_i hc
   rw [aa hc]
   cases r:ed h 1 (ev x) with
   |none=>rw [r] at d;cases d
   |some p=>rw [r] at d;rw [Fk L r];exact d
 |makeSlice e by_ z l c=>
  simp only [aM] at d ⊢
  split at d
  ·rename_i a b r h2
   split at d
   ·rename_i hc;exact (ae hc).trans (kC d hn)
   ·cases d
  ·cases d
 |slice e x lo hi mx=>
  cases mx with
  |some m=>exact d
  |none=>
   simp only [aM] at d ⊢
   cases j:ev x with
   |sl b s n=>
    rw [j] at d
    dsimp only at d ⊢
    cases t:h b with
    |none=>rw [t] at d;cases d
    |some k=>rw [t] at d;rw [L b k t];exact d
   |lit y=>
    rw [j] at d
    cases y with
    |slice a n c=>cases a<;>cases n<;>cases c<;>exact d
    |_=>exact d
   |_=>rw [j] at d;exact d
 |idx e x i=>
  simp only [aM] at d ⊢
  cases hi:asI (ev i) with
  |none=>rw [hi] at d;cases d
  |some q=>
   rw [hi] at d
   dsimp only at d ⊢
   split at d
   ·rename_i hc
    rw [ae hc]
    cases j:ev x with
    |sl b s n=>
     rw [j] at d
     dsimp only at d ⊢
     cases t:h b with
     |none=>rw [t] at d;cases d
     |some k=>rw [t] at d;rw [L b k t];exact d
    |_=>rw [j] at d;exact d
   ·cases d
 |append e by_ z x y=>
  simp only [aM] at d ⊢
  cases r:ed h e (ev y) with
  |none=>rw [r] at d;cases d
  |some ns=>
   rw [r] at d
   rw [Fk L r]
   dsimp only at d ⊢
   split at d
   ·rename_i hc
    rw [ae hc]
    split at d
    ·rename_i b n j
     cases t:h b with
     |none=>rw [t] at d;cases d
     |some k=>rw [t] at d;rw [L b k t];exact d
    ·exact kC d hn
    ·exact kC d hn
    ·cases d
   ·cases d
 |appendN e by_ z x y=>
  simp only [aM] at d ⊢
  split at d
  ·rename_i l hl
   split at d
   ·rename_i hc
    rw [ae hc]
    unfold JB at d ⊢
    split at d
    ·rename_i hc
     rw [ae hc]
     split at d
     ·rename_i b n j
      cases t:h b with
      |none=>rw [t] at d;cases d
      |some k=>rw [t] at d;rw [L b k t];exact d
     ·exact kC d hn
     ·exact kC d hn
     ·cases d
    ·cases d
   ·cases d
  ·cases d
 |copy e x y=>
  simp only [aM] at d ⊢
  cases r:ed h e (ev y) with
  |none=>rw [r] at d;cases d
  |some ns=>
   rw [r] at d
   rw [Fk L r]
   cases j:ev x with
   |sl b s n=>
    rw [j] at d
    dsimp only at d ⊢
    cases t:h b with
    |none=>rw [t] at d;cases d
    |some k=>rw [t] at d;rw [L b k t];exact d
   |_=>rw [j] at d;cases d
 |arrOf n x=>
  simp only [aM] at d ⊢
  cases r:pi h (ev x) with
  |none=>rw [r] at d;cases d
  |some p=>rw [r] at d;rw [Wj L r];exact d
 |bytesOwn x=>
  simp only [aM] at d ⊢
  cases j:ev x with
  |sl b s n=>
   rw [j] at d
   dsimp only at d ⊢
   cases t:h b with
   |none=>rw [t] at d;cases d
   |some k=>rw [t] at d;rw [L b k t];exact d
  |_=>rw [j] at d;cases d
 |mkMap=>
  simp only [aM] at d ⊢
  split at d
  ·rename_i hc
   cases d
   have:=hn new (by simp) (by simpa using hc)
   rw [ae (by simpa using this)]
  ·cases d
 |mapGet m k=>
  simp only [aM] at d ⊢
  cases r:rE h (ev m) with
  |none=>rw [r] at d;cases d
  |some p=>rw [r] at d;rw [Dz L r];exact d
 |mapSet m k x=>
  simp only [aM] at d ⊢
  cases r:rE h (ev m) with
  |none=>rw [r] at d;cases d
  |some p=>rw [r] at d;rw [Dz L r];exact d
 |mapEnt m k=>
  simp only [aM] at d ⊢
  cases r:rE h (ev m) with
  |none=>rw [r] at d;cases d
  |some p=>rw [r] at d;rw [Dz L r];exact d
 |mapPut m i x=>
  simp only [aM] at d ⊢
  cases r:rE h (ev m) with
  |none=>rw [r] at d;cases d
  |some p=>rw [r] at d;rw [Dz L r];exact d
 |call f args=>exact W4 L d hn
 |dyn f args=>
  simp only [aM] at d ⊢
  split at d
  ·rename_i j;exact W4 L d hn
  ·cases d
 |_=>exact d
end
end Go.AI
