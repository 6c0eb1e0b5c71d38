/- Part. -/
import Derived.Test.YtdnkignjanfikaaGreatAiCall3
set_option linter.unusedVariables false
set_option linter.unusedSimpArgs false
namespace Go.AI
def Le (h h':ba):Prop:= ∀b k,h b=some k->h' b=some k
section
variable {h h':ba}
theorem UY (L:Le h h') {v:V} {r:V×List Nat} (a:uO h v=some r):uO h' v=some r:=by
 cases v with
 |sl b s n=>
  simp only [uO] at a ⊢
  cases c:h b with
  |none=>rw [c] at a;cases a
  |some k=>rw [c] at a;rw [L b k c];exact a
 |_=>exact a
theorem EF (L:Le h h') {v:V} {r:Nat×List Tri} (a:uo h v=some r):uo h' v=some r:=by
 cases v with
 |mp b=>
  simp only [uo] at a ⊢
  cases c:h b with
  |none=>rw [c] at a;cases a
  |some k=>rw [c] at a;rw [L b k c];exact a
 |_=>exact a
theorem JO (L:Le h h'): ∀{vs:List V} {r:List V×List Nat},pK h vs=some r->pK h' vs=some r
 |[],r,a=>a
 |v::vs,r,a=>by
  simp only [pK] at a ⊢
  cases b:uO h v with
  |none=>rw [b] at a;cases a
  |some p=>
   rw [b] at a
   rw [UY L b]
   cases c:pK h vs with
   |none=>rw [c] at a;cases a
   |some q=>rw [c] at a;rw [JO L c];exact a
theorem FT (L:Le h h') {e:Nat} {v:V} {r:List (List V)} (d:fm h e v=some r):fm h' e v=some r:=by
 cases v with
 |sl b s n=>
  simp only [fm] at d ⊢
  cases f:h b with
  |none=>rw [f] at d;cases d
  |some k=>rw [f] at d;rw [L b k f];exact d
 |lit y=>
  cases y with
  |slice a n c=>cases a<;>cases n<;>cases c<;>exact d
  |_=>exact d
 |_=>exact d
theorem a44 (L:Le h h') {g:Option Nat} {v r:V} (a:Ac g h v=some r):Ac g h' v=some r:=by
 cases v with
 |ptr b i o n=>
  simp only [Ac] at a ⊢
  cases c:h b with
  |none=>rw [c] at a;cases a
  |some k=>rw [c] at a;rw [L b k c];exact a
 |_=>exact a
theorem Gf (L:Le h h') {ev:Opd->V}: ∀{ps:List (Nat×Opd)} {r:List (Nat×V)×List Nat},fA h ev ps=some r->fA h' ev ps=some r
 |[],r,a=>a
 | (i,x)::ps,r,a=>by
   simp only [fA] at a ⊢
   cases b:pK h (ev x).cells with
   |none=>rw [b] at a;cases a
   |some p=>
    rw [b] at a
    rw [JO L b]
    cases c:fA h ev ps with
    |none=>rw [c] at a;cases a
    |some q=>rw [c] at a;rw [Gf L c];exact a
theorem Ks (L:Le h h') {own:Bool} {ids:List Nat} {v:V} {r:V×List Nat×List Nat} (a:fq h own ids v=some r):fq h' own ids v=some r:=by
 cases v with
 |ptr b i o n=>
  simp only [fq] at a ⊢
  cases c:h b with
  |none=>rw [c] at a;cases a
  |some k=>rw [c] at a;rw [L b k c];exact a
 |mp b=>
  simp only [fq] at a ⊢
  cases c:h b with
  |none=>rw [c] at a;cases a
  |some k=>rw [c] at a;rw [L b k c];exact a
 |sl b s n=>
  simp only [fq] at a ⊢
  cases c:h b with
  |none=>rw [c] at a;cases a
  |some k=>rw [c] at a;rw [L b k c];exact a
 |fn f cs=>cases cs<;>exact a
 |_=>exact a
theorem Cg (L:Le h h') {own:Bool}: ∀{vs:List V} {ids:List Nat} {r:List V×List Nat×List Nat},fI h own ids vs=some r->fI h' own ids vs=some r
 |[],ids,r,d=>d
 |v::vs,ids,r,d=>by
  simp only [fI] at d ⊢
  cases e:fq h own ids v with
  |none=>rw [e] at d;cases d
  |some p=>
   obtain ⟨a,b,c⟩:=p
   rw [e] at d
   rw [Ks L e]
   dsimp only at d ⊢
   cases f:fI h own b vs with
   |none=>rw [f] at d;cases d
   |some q=>rw [f] at d;rw [Cg L f];exact d
theorem Ow (L:Le h h') {own:Bool} {ids:List Nat} {v:V} {r:V×List Nat×List Nat} (a:hJ h own ids v=some r):hJ h' own ids v=some r:=by
 have other: ∀v,hJ h own ids v=fq h own ids v->hJ h' own ids v=fq h' own ids v->hJ h own ids v=some r->hJ h' own ids v=some r:=fun v e1 e2 d=>by
  rw [e1] at d;rw [e2];exact Ks L d
 cases v with
 |agg cs=>
  simp only [hJ] at a ⊢
  cases c:fI h own ids cs with
  |none=>rw [c] at a;cases a
  |some p=>rw [c] at a;rw [Cg L c];exact a
 |fn f cs=>
  simp only [hJ] at a ⊢
  cases c:fI h true ids cs with
  |none=>rw [c] at a;cases a
  |some p=>rw [c] at a;rw [Cg L c];exact a
 |lit v=>exact other _ rfl rfl a
 |tup v=>exact other _ rfl rfl a
 |ptr b i o n=>exact other _ rfl rfl a
 |sl b s n=>exact other _ rfl rfl a
 |mp b=>exact other _ rfl rfl a
 |imm e r=>exact other _ rfl rfl a
 |iptr r o=>exact other _ rfl rfl a
 |undef=>exact other _ rfl rfl a
theorem Ku (L:Le h h') {owns:List Nat}: ∀{vs:List V} {j:Nat} {ids:List Nat} {r:List V×List Nat×List Nat},lL h owns j ids vs=some r->lL h' owns j ids vs=some r
 |[],j,ids,r,d=>d
 |v::vs,j,ids,r,d=>by
  simp only [lL] at d ⊢
  cases e:hJ h (j∈owns) ids v with
  |none=>rw [e] at d;cases d
  |some p=>
   obtain ⟨a,b,c⟩:=p
   rw [e] at d
   rw [Ow L e]
   dsimp only at d ⊢
   cases f:lL h owns (j+1) b vs with
   |none=>rw [f] at d;cases d
   |some q=>rw [f] at d;rw [Ku L f];exact d
theorem QO (L:Le h h'): ∀{vs:List V} {ids:List Nat} {r:List V×List Nat},uE h ids vs=some r->uE h' ids vs=some r
 |[],ids,r,d=>d
 |v::vs,ids,r,d=>by
  simp only [uE] at d ⊢
  cases e:hJ h true ids v with
  |none=>rw [e] at d;cases d
  |some p=>
   obtain ⟨a,b,c⟩:=p
   rw [e] at d
   rw [Ow L e]
   dsimp only at d ⊢
   cases f:uE h b vs with
   |none=>rw [f] at d;cases d
   |some q=>rw [f] at d;rw [QO L f];exact d
theorem LO (L:Le h h'): ∀{rs:List (List V)} {ids:List Nat} {r:List (List V)×List Nat},rR h ids rs=some r->rR h' ids rs=some r
 |[],ids,r,c=>c
 |v::vs,ids,r,c=>by
  simp only [rR] at c ⊢
  cases d:uE h ids v with
  |none=>rw [d] at c;cases c
  |some p=>
   obtain ⟨a,b⟩:=p
   rw [d] at c
   rw [QO L d]
   dsimp only at c ⊢
   cases e:rR h b vs with
   |none=>rw [e] at c;cases c
   |some q=>rw [e] at c;rw [LO L e];exact c
theorem Ek (L:Le h h'): ∀{fuel pos:Nat} {ids:List Nat} {r:List Blk×List Nat},gN h fuel pos ids=some r->gN h' fuel pos ids=some r
 |0,pos,ids,r,a=>by simp [gN] at a
 |fuel+1,pos,ids,r,a=>by
  simp only [gN] at a ⊢
  cases i:ids[pos]? with
  |none=>rw [i] at a;exact a
  |some b=>
   rw [i] at a
   dsimp only at a ⊢
   cases d:h b with
   |none=>rw [d] at a;cases a
   |some k=>
    rw [d] at a
    rw [L b k d]
    dsimp only at a ⊢
    split at a
    ·rename_i e
     rw [aa e]
     cases c:gN h fuel (pos+1) ids with
     |none=>rw [c] at a;cases a
     |some p=>rw [c] at a;rw [Ek L c];exact a
    ·rename_i e
     rw [a7 e]
     cases c:rR h ids k.rows with
     |none=>rw [c] at a;cases a
     |some p=>
      obtain ⟨rows,ids1⟩:=p
      rw [c] at a
      rw [LO L c]
      dsimp only at a ⊢
      cases f:gN h fuel (pos+1) ids1 with
      |none=>rw [f] at a;cases a
      |some q=>rw [f] at a;rw [Ek L f];exact a
theorem TA (L:Le h h') {owns:FuncId->List Nat} {f:FuncId} {args:List V} {r:List V×List Blk×List Nat×List Nat} (b:gi owns h f args=some r):gi owns h' f args=some r:=by
 unfold gi at b ⊢
 cases c:lL h (owns f) 0 [] args with
 |none=>rw [c] at b;cases b
 |some p=>
  obtain ⟨a,ids0,bor⟩:=p
  rw [c] at b
  rw [Ku L c]
  dsimp only at b ⊢
  cases d:gN h 40 0 ids0 with
  |none=>rw [d] at b;cases b
  |some q=>rw [d] at b;rw [Ek L d];exact b
theorem OF: ∀(ids:List Nat) (M:List Blk),(ra ids M).map (·.1)=ids.take M.length
 |[],M=>by simp [ra]
 |i::r,[]=>by simp [ra]
 |i::r,k::s=>by simp [ra,OF r s]
theorem SE (L:Le h h'): ∀{u u':Upd},roU h u=some u'->(∀b∈u'.map (·.1),h b=none->h' b=none)->roU h' u=some u'
 |[],u',hs,hn=>hs
 | (b,k)::r,u',hs,hn=>by
   simp only [roU] at hs ⊢
   cases hb:h b with
   |none=>
    rw [hb] at hs;dsimp only at hs
    cases hr:roU h r with
    |none=>rw [hr] at hs;cases hs
    |some r'=>
     rw [hr] at hs;cases hs
     rw [hn b sm hb];dsimp only
     rw [SE L hr (fun c hc h0=>hn c (by rw [aM,aW];exact .inr hc) h0)];rfl
   |some k'=>
    rw [hb] at hs;dsimp only at hs
    split at hs
    ·rename_i he;rw [L b k' hb];dsimp only;rw [aa he];exact SE L hs hn
    ·cases hs
theorem QH: ∀{u u':Upd},roU h u=some u'-> ∀b∈u.map (·.1),h b=none->b∈u'.map (·.1)
 |[],u',a,b,d,_=>by cases d
 | (c,k)::r,u',a,b,d,h0=>by
   simp only [roU] at a
   rw [aM,aW] at d
   cases hc:h c with
   |none=>
    rw [hc] at a;dsimp only at a
    cases e:roU h r with
    |none=>rw [e] at a;cases a
    |some r'=>
     rw [e] at a;cases a
     rw [aM,aW]
     rcases d with rfl|d
     ·exact .inl rfl
     ·exact .inr (QH e b d h0)
   |some k'=>
    rw [hc] at a;dsimp only at a
    split at a
    ·rcases d with rfl|d
     ·rw [hc] at h0;cases h0
     ·exact QH a b d h0
    ·cases a
theorem Vr (L:Le h h') {C:cr} {owns:FuncId->List Nat} {new:Nat} {f:FuncId} {args:List V} {v:V} {u:Upd} (a:qC C owns h new f args=some (v,u)) (hn: ∀b∈u.map (·.1),h b=none->h' b=none):
 qC C owns h' new f args=some (v,u):=by
 unfold qC at a ⊢
 cases j:gi owns h f args with
 |none=>rw [j] at a;cases a
 |some p=>
  obtain ⟨args',blks,ids,bor⟩:=p
  rw [j] at a
  rw [TA L j]
  dsimp only at a ⊢
  cases m:C f (xE (owns f) args') (xf (owns f) blks) with
  |none=>rw [m] at a;cases a
  |some q=>
   obtain ⟨r,blks'⟩:=q
   rw [m] at a
   dsimp only at a ⊢
   obtain ⟨o,k, -,e,i⟩:=a6k a
   have l: ∀b∈o.map (·.1),h b=none->h' b=none:=fun b d h0=>by
    cases c:(owns f).contains 3000 with
    |true=>exact hn b (QH (e c) b d h0) h0
    |false=>rw [<-i c] at d;exact hn b d h0
   suffices s:A5 ((owns f).contains 2000) h' new ids bor r blks'=some (v,o) by
    rw [s]
    cases c:(owns f).contains 3000 with
    |true=>simp only [roW,if_true];rw [SE L (e c) hn]
    |false=>rw [i c];rfl
   have a:=k
   unfold A5 at a ⊢
   split at a
   ·rename_i hc
    cases a
    refine aa ⟨hc.1,an.2 fun b d=> ?_⟩
    have hb0:h b=none:=by simpa using an.1 hc.2 b d
    rw [l b ?_ hb0]
    ·rfl
    ·rw [bW,aJ,OF,aw]
     left
     rw [aX (by rw [a8];have:=Bf (n:=new) hc.1;omega)]
     exact aJ.2 (.inr d)
   ·cases a
theorem mQ {n:Nat} {k:Blk} {v:V} {r:V×Upd} (a:pc h n k v=some r) (hn: ∀b∈r.2.map (·.1),h b=none->h' b=none):pc h' n k v=some r:=by
 unfold pc at a ⊢
 split at a
 ·rename_i hc
  cases a
  rw [aa ⟨by rw [hn n sm (by simpa using hc.1)];rfl,hc.2⟩]
 ·cases a
theorem b4w (L:Le h h') {C:cr} {ow:FuncId->List Nat} {o:AOp} {ev:Opd->V} {new:Nat} {v:V} {u:Upd} (d:aK C ow o ev h new=some (v,u)) (hn: ∀b∈u.map (·.1),h b=none->h' b=none):
 aK C ow o ev h' new=some (v,u):=by
 cases o with
 |alloc z=>
  simp only [aK] at d ⊢
  split at d
  ·rename_i hc;rw [aa hc];exact mQ d hn
  ·cases d
 |box s x=>
  simp only [aK] at d ⊢
  split at d
  ·rename_i hc;rw [aa hc];exact mQ d hn
  ·cases d
 |buildTwo x y=>
  simp only [aK] at d ⊢
  split at d
  ·rename_i hc;rw [aa hc];exact mQ d hn
  ·cases d
 |buildSlice e z n ps=>
  simp only [aK] at d ⊢
  cases r:fA h ev ps with
  |none=>rw [r] at d;cases d
  |some p=>
   obtain ⟨qs,bs⟩:=p
   rw [r] at d
   rw [Gf L r]
   dsimp only at d ⊢
   split at d
   ·rename_i rows hr
    split at d
    ·rename_i hc
     rw [aa hc]
     cases w:pc h new ⟨e,false,rows⟩ (.sl new 0 n) with
     |none=>rw [w] at d;cases d
     |some q=>
      rw [w] at d
      cases d
      rw [mQ w (fun b hm h0=>hn b (by rw [bW,aJ];exact .inr hm) h0)]
    ·cases d
   ·cases d
 |load g a=>
  simp only [aK] at d ⊢
  cases r:Ac g h (ev a) with
  |none=>rw [r] at d;cases d
  |some p=>rw [r] at d;rw [a44 L r];exact d
 |store s a x=>
  simp only [aK] at d ⊢
  cases j:ev a with
  |ptr b i o n=>
   rw [j] at d
   dsimp only at d ⊢
   cases t:h b with
   |none=>rw [t] at d;cases d
   |some k=>
    rw [t] at d
    rw [L b k t]
    dsimp only at d ⊢
    split at d
    ·rename_i hc
     rw [aa hc]
     split at d
     ·rename_i row hr
      split at d
      ·rename_i ho;rw [aa ho];exact d
      ·rename_i ho
       rw [a7 ho]
       cases r:pK h (ev x).cells with
       |none=>rw [r] at d;cases d
       |some p=>rw [r] at d;rw [JO L r];exact d
     ·cases d
    ·cases d
  |_=>rw [j] at d;cases d
 |nilCheck x=>
  simp only [aK] at d ⊢
  cases j:ev x with
  |ptr b i o n=>
   rw [j] at d
   dsimp only at d ⊢
   cases t:h b with
   |none=>rw [t] at d;cases d
   |some k=>rw [t] at d;rw [L b k t];exact d
  |_=>rw [j] at d;exact d
 |toBytes x=>
  simp only [aK] at d ⊢
  split at d
  ·rename_i s j
   split at d
   ·rename_i hc;exact (aa hc).trans (mQ d hn)
   ·cases d
  ·cases d
 |toStr x=>
  simp only [aK] at d ⊢
  split at d
  ·cases d
  ·rename_i hc
   rw [a7 hc]
   cases r:fm h 1 (ev x) with
   |none=>rw [r] at d;cases d
   |some p=>rw [r] at d;rw [FT L r];exact d
 |makeSlice e by_ z l c=>
  simp only [aK] at d ⊢
  split at d
  ·rename_i a b r h2
   split at d
   ·rename_i hc;exact (aa hc).trans (mQ d hn)
   ·cases d
  ·cases d
 |slice e x lo hi mx=>
  cases mx with
  |some m=>exact d
  |none=>
   simp only [aK] at d ⊢
   cases j:ev x with
   |sl b s n=>
    rw [j] at d
    dsimp only at d ⊢
    cases t:h b with
    |none=>rw [t] at d;cases d
    |some k=>rw [t] at d;rw [L b k t];exact d
   |lit y=>
    rw [j] at d
    cases y with
    |slice a n c=>cases a<;>cases n<;>cases c<;>exact d
    |_=>exact d
   |_=>rw [j] at d;exact d
 |idx e x i=>
  simp only [aK] at d ⊢
  cases hi:asI (ev i) with
  |none=>rw [hi] at d;cases d
  |some q=>
   rw [hi] at d
   dsimp only at d ⊢
   split at d
   ·rename_i hc
    rw [aa hc]
    cases j:ev x with
    |sl b s n=>
     rw [j] at d
     dsimp only at d ⊢
     cases t:h b with
     |none=>rw [t] at d;cases d
     |some k=>rw [t] at d;rw [L b k t];exact d
    |_=>rw [j] at d;exact d
   ·cases d
 |append e by_ z x y=>
  simp only [aK] at d ⊢
  cases r:fm h e (ev y) with
  |none=>rw [r] at d;cases d
  |some ns=>
   rw [r] at d
   rw [FT L r]
   dsimp only at d ⊢
   split at d
   ·rename_i hc
    rw [aa hc]
    split at d
    ·rename_i b n j
     cases t:h b with
     |none=>rw [t] at d;cases d
     |some k=>rw [t] at d;rw [L b k t];exact d
    ·exact mQ d hn
    ·exact mQ d hn
    ·cases d
   ·cases d
 |appendN e by_ z x y=>
  simp only [aK] at d ⊢
  split at d
  ·rename_i l hl
   split at d
   ·rename_i hc
    rw [aa hc]
    unfold Np at d ⊢
    split at d
    ·rename_i hc
     rw [aa hc]
     split at d
     ·rename_i b n j
      cases t:h b with
      |none=>rw [t] at d;cases d
      |some k=>rw [t] at d;rw [L b k t];exact d
     ·exact mQ d hn
     ·exact mQ d hn
     ·cases d
    ·cases d
   ·cases d
  ·cases d
 |copy e x y=>
  simp only [aK] at d ⊢
  cases r:fm h e (ev y) with
  |none=>rw [r] at d;cases d
  |some ns=>
   rw [r] at d
   rw [FT L r]
   cases j:ev x with
   |sl b s n=>
    rw [j] at d
    dsimp only at d ⊢
    cases t:h b with
    |none=>rw [t] at d;cases d
    |some k=>rw [t] at d;rw [L b k t];exact d
   |_=>rw [j] at d;cases d
 |arrOf n x=>
  simp only [aK] at d ⊢
  cases r:uO h (ev x) with
  |none=>rw [r] at d;cases d
  |some p=>rw [r] at d;rw [UY L r];exact d
 |bytesOwn x=>
  simp only [aK] at d ⊢
  cases j:ev x with
  |sl b s n=>
   rw [j] at d
   dsimp only at d ⊢
   cases t:h b with
   |none=>rw [t] at d;cases d
   |some k=>rw [t] at d;rw [L b k t];exact d
  |_=>rw [j] at d;cases d
 |mkMap=>
  simp only [aK] at d ⊢
  split at d
  ·rename_i hc
   cases d
   have:=hn new sm (by simpa using hc)
   rw [aa (by simpa using this)]
  ·cases d
 |mapGet m k=>
  simp only [aK] at d ⊢
  cases r:uo h (ev m) with
  |none=>rw [r] at d;cases d
  |some p=>rw [r] at d;rw [EF L r];exact d
 |mapSet m k x=>
  simp only [aK] at d ⊢
  cases r:uo h (ev m) with
  |none=>rw [r] at d;cases d
  |some p=>rw [r] at d;rw [EF L r];exact d
 |mapEnt m k=>
  simp only [aK] at d ⊢
  cases r:uo h (ev m) with
  |none=>rw [r] at d;cases d
  |some p=>rw [r] at d;rw [EF L r];exact d
 |mapPut m i x=>
  simp only [aK] at d ⊢
  cases r:uo h (ev m) with
  |none=>rw [r] at d;cases d
  |some p=>rw [r] at d;rw [EF L r];exact d
 |call f args=>exact Vr L d hn
 |dyn f args=>
  simp only [aK] at d ⊢
  split at d
  ·rename_i j;exact Vr L d hn
  ·cases d
 |_=>exact d
end
end Go.AI
