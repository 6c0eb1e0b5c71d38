/- An operation that is told with a part of memory is told alike with all of it. -/
import Derived.Test.YtdnkignjanfikaaGreatAiCall3
set_option linter.unusedVariables false
set_option linter.unusedSimpArgs false
namespace Go.AI
def Le (h h':aZ):Prop:= ∀b k,h b=some k->h' b=some k
section
variable {h h':aZ}
theorem Xc (L:Le h h') {v:V} {r:V×List Nat} (hs:rZ h v=some r):rZ h' v=some r:=by
 cases v with
 |sl b s n=>
  simp only [rZ] at hs ⊢
  cases hb:h b with
  |none=>rw [hb] at hs;cases hs
  |some k=>rw [hb] at hs;rw [L b k hb];exact hs
 |_=>exact hs
theorem DA (L:Le h h') {v:V} {r:Nat×List Tri} (hs:rU h v=some r):rU h' v=some r:=by
 cases v with
 |mp b=>
  simp only [rU] at hs ⊢
  cases hb:h b with
  |none=>rw [hb] at hs;cases hs
  |some k=>rw [hb] at hs;rw [L b k hb];exact hs
 |_=>exact hs
theorem K5 (L:Le h h'): ∀{vs:List V} {r:List V×List Nat},nJ h vs=some r->nJ h' vs=some r
 |[],r,hs=>hs
 |v::vs,r,hs=>by
  simp only [nJ] at hs ⊢
  cases h1:rZ h v with
  |none=>rw [h1] at hs;cases hs
  |some p=>
   rw [h1] at hs
   rw [Xc L h1]
   cases h2:nJ h vs with
   |none=>rw [h2] at hs;cases hs
   |some q=>rw [h2] at hs;rw [K5 L h2];exact hs
theorem G9 (L:Le h h') {e:Nat} {v:V} {r:List (List V)} (hs:eu h e v=some r):eu h' e v=some r:=by
 cases v with
 |sl b s n=>
  simp only [eu] at hs ⊢
  cases hb:h b with
  |none=>rw [hb] at hs;cases hs
  |some k=>rw [hb] at hs;rw [L b k hb];exact hs
 |lit y=>
  cases y with
  |slice a n c=>cases a<;>cases n<;>cases c<;>exact hs
  |_=>exact hs
 |_=>exact hs
theorem a7g (L:Le h h') {g:Option Nat} {v r:V} (hs:yM g h v=some r):yM g h' v=some r:=by
 cases v with
 |ptr b i o n=>
  simp only [yM] at hs ⊢
  cases hb:h b with
  |none=>rw [hb] at hs;cases hs
  |some k=>rw [hb] at hs;rw [L b k hb];exact hs
 |_=>exact hs
theorem GL (L:Le h h') {ev:Opd->V}: ∀{ps:List (Nat×Opd)} {r:List (Nat×V)×List Nat},eD h ev ps=some r->eD h' ev ps=some r
 |[],r,hs=>hs
 | (i,x)::ps,r,hs=>by
   simp only [eD] at hs ⊢
   cases h1:nJ h (ev x).cells with
   |none=>rw [h1] at hs;cases hs
   |some p=>
    rw [h1] at hs
    rw [K5 L h1]
    cases h2:eD h ev ps with
    |none=>rw [h2] at hs;cases hs
    |some q=>rw [h2] at hs;rw [GL L h2];exact hs
theorem Lq (L:Le h h') {own:Bool} {ids:List Nat} {v:V} {r:V×List Nat×List Nat} (hs:dZ h own ids v=some r):dZ h' own ids v=some r:=by
 cases v with
 |ptr b i o n=>
  simp only [dZ] at hs ⊢
  cases hb:h b with
  |none=>rw [hb] at hs;cases hs
  |some k=>rw [hb] at hs;rw [L b k hb];exact hs
 |mp b=>
  simp only [dZ] at hs ⊢
  cases hb:h b with
  |none=>rw [hb] at hs;cases hs
  |some k=>rw [hb] at hs;rw [L b k hb];exact hs
 |sl b s n=>
  simp only [dZ] at hs ⊢
  cases hb:h b with
  |none=>rw [hb] at hs;cases hs
  |some k=>rw [hb] at hs;rw [L b k hb];exact hs
 |fn f cs=>cases cs<;>exact hs
 |_=>exact hs
theorem Bz (L:Le h h') {own:Bool}: ∀{vs:List V} {ids:List Nat} {r:List V×List Nat×List Nat},eP h own ids vs=some r->eP h' own ids vs=some r
 |[],ids,r,hs=>hs
 |v::vs,ids,r,hs=>by
  simp only [eP] at hs ⊢
  cases h1:dZ h own ids v with
  |none=>rw [h1] at hs;cases hs
  |some p=>
   obtain ⟨a,b,c⟩:=p
   rw [h1] at hs
   rw [Lq L h1]
   dsimp only at hs ⊢
   cases h2:eP h own b vs with
   |none=>rw [h2] at hs;cases hs
   |some q=>rw [h2] at hs;rw [Bz L h2];exact hs
theorem Ok (L:Le h h') {own:Bool} {ids:List Nat} {v:V} {r:V×List Nat×List Nat} (hs:fU h own ids v=some r):fU h' own ids v=some r:=by
 have other: ∀v,fU h own ids v=dZ h own ids v->fU h' own ids v=dZ h' own ids v->fU h own ids v=some r->fU h' own ids v=some r:=fun v e1 e2 e3=>by
  rw [e1] at e3;rw [e2];exact Lq L e3
 cases v with
 |agg cs=>
  simp only [fU] at hs ⊢
  cases h1:eP h own ids cs with
  |none=>rw [h1] at hs;cases hs
  |some p=>rw [h1] at hs;rw [Bz L h1];exact hs
 |fn f cs=>
  simp only [fU] at hs ⊢
  cases h1:eP h true ids cs with
  |none=>rw [h1] at hs;cases hs
  |some p=>rw [h1] at hs;rw [Bz L h1];exact hs
 |lit v=>exact other _ rfl rfl hs
 |tup v=>exact other _ rfl rfl hs
 |ptr b i o n=>exact other _ rfl rfl hs
 |sl b s n=>exact other _ rfl rfl hs
 |mp b=>exact other _ rfl rfl hs
 |imm e r=>exact other _ rfl rfl hs
 |iptr r o=>exact other _ rfl rfl hs
 |undef=>exact other _ rfl rfl hs
theorem KZ (L:Le h h') {owns:List Nat}: ∀{vs:List V} {j:Nat} {ids:List Nat} {r:List V×List Nat×List Nat},jR h owns j ids vs=some r->jR h' owns j ids vs=some r
 |[],j,ids,r,hs=>hs
 |v::vs,j,ids,r,hs=>by
  simp only [jR] at hs ⊢
  cases h1:fU h (j∈owns) ids v with
  |none=>rw [h1] at hs;cases hs
  |some p=>
   obtain ⟨a,b,c⟩:=p
   rw [h1] at hs
   rw [Ok L h1]
   dsimp only at hs ⊢
   cases h2:jR h owns (j+1) b vs with
   |none=>rw [h2] at hs;cases hs
   |some q=>rw [h2] at hs;rw [KZ L h2];exact hs
theorem SW (L:Le h h'): ∀{vs:List V} {ids:List Nat} {r:List V×List Nat},rL h ids vs=some r->rL h' ids vs=some r
 |[],ids,r,hs=>hs
 |v::vs,ids,r,hs=>by
  simp only [rL] at hs ⊢
  cases h1:fU h true ids v with
  |none=>rw [h1] at hs;cases hs
  |some p=>
   obtain ⟨a,b,c⟩:=p
   rw [h1] at hs
   rw [Ok L h1]
   dsimp only at hs ⊢
   cases h2:rL h b vs with
   |none=>rw [h2] at hs;cases hs
   |some q=>rw [h2] at hs;rw [SW L h2];exact hs
theorem KL (L:Le h h'): ∀{rs:List (List V)} {ids:List Nat} {r:List (List V)×List Nat},pa h ids rs=some r->pa h' ids rs=some r
 |[],ids,r,hs=>hs
 |v::vs,ids,r,hs=>by
  simp only [pa] at hs ⊢
  cases h1:rL h ids v with
  |none=>rw [h1] at hs;cases hs
  |some p=>
   obtain ⟨a,b⟩:=p
   rw [h1] at hs
   rw [SW L h1]
   dsimp only at hs ⊢
   cases h2:pa h b vs with
   |none=>rw [h2] at hs;cases hs
   |some q=>rw [h2] at hs;rw [KL L h2];exact hs
theorem Ea (L:Le h h'): ∀{fuel pos:Nat} {ids:List Nat} {r:List Blk×List Nat},fM h fuel pos ids=some r->fM h' fuel pos ids=some r
 |0,pos,ids,r,hs=>by simp [fM] at hs
 |fuel+1,pos,ids,r,hs=>by
  simp only [fM] at hs ⊢
  cases hp:ids[pos]? with
  |none=>rw [hp] at hs;exact hs
  |some b=>
   rw [hp] at hs
   dsimp only at hs ⊢
   cases hb:h b with
   |none=>rw [hb] at hs;cases hs
   |some k=>
    rw [hb] at hs
    rw [L b k hb]
    dsimp only at hs ⊢
    split at hs
    ·rename_i ho
     rw [ae ho]
     cases h1:fM h fuel (pos+1) ids with
     |none=>rw [h1] at hs;cases hs
     |some p=>rw [h1] at hs;rw [Ea L h1];exact hs
    ·rename_i ho
     rw [aa ho]
     cases h1:pa h ids k.rows with
     |none=>rw [h1] at hs;cases hs
     |some p=>
      obtain ⟨rows,ids1⟩:=p
      rw [h1] at hs
      rw [KL L h1]
      dsimp only at hs ⊢
      cases h2:fM h fuel (pos+1) ids1 with
      |none=>rw [h2] at hs;cases hs
      |some q=>rw [h2] at hs;rw [Ea L h2];exact hs
theorem Vg (L:Le h h') {owns:FuncId->List Nat} {f:FuncId} {args:List V} {r:List V×List Blk×List Nat×List Nat} (hs:ft owns h f args=some r):ft owns h' f args=some r:=by
 unfold ft at hs ⊢
 cases h1:jR h (owns f) 0 [] args with
 |none=>rw [h1] at hs;cases hs
 |some p=>
  obtain ⟨a,ids0,bor⟩:=p
  rw [h1] at hs
  rw [KZ L h1]
  dsimp only at hs ⊢
  cases h2:fM h 40 0 ids0 with
  |none=>rw [h2] at hs;cases hs
  |some q=>rw [h2] at hs;rw [Ea L h2];exact hs
theorem OE: ∀(ids:List Nat) (M:List Blk),(ol ids M).map (·.1)=ids.take M.length
 |[],M=>by simp [ol]
 |i::r,[]=>by simp [ol]
 |i::r,k::s=>by simp [ol,OE r s]
theorem Rv (L:Le h h'): ∀{u u':Upd},roU h u=some u'->(∀b∈u'.map (·.1),h b=none->h' b=none)->roU h' u=some u'
 |[],u',hs,hn=>hs
 | (b,k)::r,u',hs,hn=>by
   simp only [roU] at hs ⊢
   cases hb:h b with
   |none=>
    rw [hb] at hs;dsimp only at hs
    cases hr:roU h r with
    |none=>rw [hr] at hs;cases hs
    |some r'=>
     rw [hr] at hs;cases hs
     rw [hn b (by simp) hb];dsimp only
     rw [Rv L hr (fun c hc h0=>hn c (by rw [aS,bc];exact .inr hc) h0)];rfl
   |some k'=>
    rw [hb] at hs;dsimp only at hs
    split at hs
    ·rename_i he;rw [L b k' hb];dsimp only;rw [ae he];exact Rv L hs hn
    ·cases hs
theorem SE: ∀{u u':Upd},roU h u=some u'-> ∀b∈u.map (·.1),h b=none->b∈u'.map (·.1)
 |[],u',hs,b,hb,_=>by cases hb
 | (c,k)::r,u',hs,b,hb,h0=>by
   simp only [roU] at hs
   rw [aS,bc] at hb
   cases hc:h c with
   |none=>
    rw [hc] at hs;dsimp only at hs
    cases hr:roU h r with
    |none=>rw [hr] at hs;cases hs
    |some r'=>
     rw [hr] at hs;cases hs
     rw [aS,bc]
     rcases hb with rfl|hb
     ·exact .inl rfl
     ·exact .inr (SE hr b hb h0)
   |some k'=>
    rw [hc] at hs;dsimp only at hs
    split at hs
    ·rcases hb with rfl|hb
     ·rw [hc] at h0;cases h0
     ·exact SE hs b hb h0
    ·cases hs
theorem XI (L:Le h h') {C:cg} {owns:FuncId->List Nat} {new:Nat} {f:FuncId} {args:List V} {v:V} {u:Upd} (hs:oC C owns h new f args=some (v,u)) (hn: ∀b∈u.map (·.1),h b=none->h' b=none):
 oC C owns h' new f args=some (v,u):=by
 unfold oC at hs ⊢
 cases h1:ft owns h f args with
 |none=>rw [h1] at hs;cases hs
 |some p=>
  obtain ⟨args',blks,ids,bor⟩:=p
  rw [h1] at hs
  rw [Vg L h1]
  dsimp only at hs ⊢
  cases h2:C f (vv (owns f) args') (vd (owns f) blks) with
  |none=>rw [h2] at hs;cases hs
  |some q=>
   obtain ⟨r,blks'⟩:=q
   rw [h2] at hs
   dsimp only at hs ⊢
   obtain ⟨u0,hs0, -,hro,hrf⟩:=a7U hs
   have hk0: ∀b∈u0.map (·.1),h b=none->h' b=none:=fun b hb h0=>by
    cases hfl:(owns f).contains 3000 with
    |true=>exact hn b (SE (hro hfl) b hb h0) h0
    |false=>rw [<-hrf hfl] at hb;exact hn b hb h0
   suffices hq:z6 ((owns f).contains 2000) h' new ids bor r blks'=some (v,u0) by
    rw [hq]
    cases hfl:(owns f).contains 3000 with
    |true=>simp only [roW,if_true];rw [Rv L (hro hfl) hn]
    |false=>rw [hrf hfl];rfl
   have hs:=hs0
   unfold z6 at hs ⊢
   split at hs
   ·rename_i hc
    cases hs
    refine ae ⟨hc.1,aB.2 fun b hb=> ?_⟩
    have hb0:h b=none:=by simpa using aB.1 hc.2 b hb
    rw [hk0 b ?_ hb0]
    ·rfl
    ·rw [cJ,aW,OE,aM]
     left
     rw [cq (by rw [ab];have:=A1 (n:=new) hc.1;omega)]
     exact aW.2 (.inr hb)
   ·cases hs
theorem kU {n:Nat} {k:Blk} {v:V} {r:V×Upd} (hs:ng h n k v=some r) (hn: ∀b∈r.2.map (·.1),h b=none->h' b=none):ng h' n k v=some r:=by
 unfold ng at hs ⊢
 split at hs
 ·rename_i hc
  cases hs
  rw [ae ⟨by rw [hn n (by simp) (by simpa using hc.1)];rfl,hc.2⟩]
 ·cases hs
theorem b4P (L:Le h h') {C:cg} {ow:FuncId->List Nat} {o:AOp} {ev:Opd->V} {new:Nat} {v:V} {u:Upd} (hs:aN C ow o ev h new=some (v,u)) (hn: ∀b∈u.map (·.1),h b=none->h' b=none):
 aN C ow o ev h' new=some (v,u):=by
 cases o with
 |alloc z=>
  simp only [aN] at hs ⊢
  split at hs
  ·rename_i hc;rw [ae hc];exact kU hs hn
  ·cases hs
 |box s x=>
  simp only [aN] at hs ⊢
  split at hs
  ·rename_i hc;rw [ae hc];exact kU hs hn
  ·cases hs
 |buildTwo x y=>
  simp only [aN] at hs ⊢
  split at hs
  ·rename_i hc;rw [ae hc];exact kU hs hn
  ·cases hs
 |buildSlice e z n ps=>
  simp only [aN] at hs ⊢
  cases h1:eD h ev ps with
  |none=>rw [h1] at hs;cases hs
  |some p=>
   obtain ⟨qs,bs⟩:=p
   rw [h1] at hs
   rw [GL L h1]
   dsimp only at hs ⊢
   split at hs
   ·rename_i rows hr
    split at hs
    ·rename_i hc
     rw [ae hc]
     cases hf:ng h new ⟨e,false,rows⟩ (.sl new 0 n) with
     |none=>rw [hf] at hs;cases hs
     |some q=>
      rw [hf] at hs
      cases hs
      rw [kU hf (fun b hm h0=>hn b (by rw [cJ,aW];exact .inr hm) h0)]
    ·cases hs
   ·cases hs
 |load g a=>
  simp only [aN] at hs ⊢
  cases h1:yM g h (ev a) with
  |none=>rw [h1] at hs;cases hs
  |some p=>rw [h1] at hs;rw [a7g L h1];exact hs
 |store s a x=>
  simp only [aN] at hs ⊢
  cases hev:ev a with
  |ptr b i o n=>
   rw [hev] at hs
   dsimp only at hs ⊢
   cases hb:h b with
   |none=>rw [hb] at hs;cases hs
   |some k=>
    rw [hb] at hs
    rw [L b k hb]
    dsimp only at hs ⊢
    split at hs
    ·rename_i hc
     rw [ae hc]
     split at hs
     ·rename_i row hr
      split at hs
      ·rename_i ho;rw [ae ho];exact hs
      ·rename_i ho
       rw [aa ho]
       cases h1:nJ h (ev x).cells with
       |none=>rw [h1] at hs;cases hs
       |some p=>rw [h1] at hs;rw [K5 L h1];exact hs
     ·cases hs
    ·cases hs
  |_=>rw [hev] at hs;cases hs
 |nilCheck x=>
  simp only [aN] at hs ⊢
  cases hev:ev x with
  |ptr b i o n=>
   rw [hev] at hs
   dsimp only at hs ⊢
   cases hb:h b with
   |none=>rw [hb] at hs;cases hs
   |some k=>rw [hb] at hs;rw [L b k hb];exact hs
  |_=>rw [hev] at hs;exact hs
 |toBytes x=>
  simp only [aN] at hs ⊢
  split at hs
  ·rename_i s hev
   split at hs
   ·rename_i hc;exact (ae hc).trans (kU hs hn)
   ·cases hs
  ·cases hs
 |toStr x=>
  simp only [aN] at hs ⊢
  split at hs
  ·cases hs
  ·rename_i hc
   rw [aa hc]
   cases h1:eu h 1 (ev x) with
   |none=>rw [h1] at hs;cases hs
   |some p=>rw [h1] at hs;rw [G9 L h1];exact hs
 |makeSlice e by_ z l c=>
  simp only [aN] at hs ⊢
  split at hs
  ·rename_i a b h1 h2
   split at hs
   ·rename_i hc;exact (ae hc).trans (kU hs hn)
   ·cases hs
  ·cases hs
 |slice e x lo hi mx=>
  cases mx with
  |some m=>exact hs
  |none=>
   simp only [aN] at hs ⊢
   cases hev:ev x with
   |sl b s n=>
    rw [hev] at hs
    dsimp only at hs ⊢
    cases hb:h b with
    |none=>rw [hb] at hs;cases hs
    |some k=>rw [hb] at hs;rw [L b k hb];exact hs
   |lit y=>
    rw [hev] at hs
    cases y with
    |slice a n c=>cases a<;>cases n<;>cases c<;>exact hs
    |_=>exact hs
   |_=>rw [hev] at hs;exact hs
 |idx e x i=>
  simp only [aN] at hs ⊢
  cases hi:asI (ev i) with
  |none=>rw [hi] at hs;cases hs
  |some q=>
   rw [hi] at hs
   dsimp only at hs ⊢
   split at hs
   ·rename_i hc
    rw [ae hc]
    cases hev:ev x with
    |sl b s n=>
     rw [hev] at hs
     dsimp only at hs ⊢
     cases hb:h b with
     |none=>rw [hb] at hs;cases hs
     |some k=>rw [hb] at hs;rw [L b k hb];exact hs
    |_=>rw [hev] at hs;exact hs
   ·cases hs
 |append e by_ z x y=>
  simp only [aN] at hs ⊢
  cases h1:eu h e (ev y) with
  |none=>rw [h1] at hs;cases hs
  |some ns=>
   rw [h1] at hs
   rw [G9 L h1]
   dsimp only at hs ⊢
   split at hs
   ·rename_i hc
    rw [ae hc]
    split at hs
    ·rename_i b n hev
     cases hb:h b with
     |none=>rw [hb] at hs;cases hs
     |some k=>rw [hb] at hs;rw [L b k hb];exact hs
    ·exact kU hs hn
    ·exact kU hs hn
    ·cases hs
   ·cases hs
 |appendN e by_ z x y=>
  simp only [aN] at hs ⊢
  split at hs
  ·rename_i l hl
   split at hs
   ·rename_i hc
    rw [ae hc]
    unfold Kq at hs ⊢
    split at hs
    ·rename_i hc
     rw [ae hc]
     split at hs
     ·rename_i b n hev
      cases hb:h b with
      |none=>rw [hb] at hs;cases hs
      |some k=>rw [hb] at hs;rw [L b k hb];exact hs
     ·exact kU hs hn
     ·exact kU hs hn
     ·cases hs
    ·cases hs
   ·cases hs
  ·cases hs
 |copy e x y=>
  simp only [aN] at hs ⊢
  cases h1:eu h e (ev y) with
  |none=>rw [h1] at hs;cases hs
  |some ns=>
   rw [h1] at hs
   rw [G9 L h1]
   cases hev:ev x with
   |sl b s n=>
    rw [hev] at hs
    dsimp only at hs ⊢
    cases hb:h b with
    |none=>rw [hb] at hs;cases hs
    |some k=>rw [hb] at hs;rw [L b k hb];exact hs
   |_=>rw [hev] at hs;cases hs
 |arrOf n x=>
  simp only [aN] at hs ⊢
  cases h1:rZ h (ev x) with
  |none=>rw [h1] at hs;cases hs
  |some p=>rw [h1] at hs;rw [Xc L h1];exact hs
 |bytesOwn x=>
  simp only [aN] at hs ⊢
  cases hev:ev x with
  |sl b s n=>
   rw [hev] at hs
   dsimp only at hs ⊢
   cases hb:h b with
   |none=>rw [hb] at hs;cases hs
   |some k=>rw [hb] at hs;rw [L b k hb];exact hs
  |_=>rw [hev] at hs;cases hs
 |mkMap=>
  simp only [aN] at hs ⊢
  split at hs
  ·rename_i hc
   cases hs
   have:=hn new (by simp) (by simpa using hc)
   rw [ae (by simpa using this)]
  ·cases hs
 |mapGet m k=>
  simp only [aN] at hs ⊢
  cases h1:rU h (ev m) with
  |none=>rw [h1] at hs;cases hs
  |some p=>rw [h1] at hs;rw [DA L h1];exact hs
 |mapSet m k x=>
  simp only [aN] at hs ⊢
  cases h1:rU h (ev m) with
  |none=>rw [h1] at hs;cases hs
  |some p=>rw [h1] at hs;rw [DA L h1];exact hs
 |mapEnt m k=>
  simp only [aN] at hs ⊢
  cases h1:rU h (ev m) with
  |none=>rw [h1] at hs;cases hs
  |some p=>rw [h1] at hs;rw [DA L h1];exact hs
 |mapPut m i x=>
  simp only [aN] at hs ⊢
  cases h1:rU h (ev m) with
  |none=>rw [h1] at hs;cases hs
  |some p=>rw [h1] at hs;rw [DA L h1];exact hs
 |call f args=>exact XI L hs hn
 |dyn f args=>
  simp only [aN] at hs ⊢
  split at hs
  ·rename_i hev;exact XI L hs hn
  ·cases hs
 |_=>exact hs
end
end Go.AI
