/- An operation that is told with a part of memory is told alike with all of it. -/
import Derived.Test.YtdnkignjanfikaaGreatAiCall3
set_option linter.unusedVariables false
set_option linter.unusedSimpArgs false
namespace Go.AI
def Le (h h':au):Prop:= ∀b k,h b=some k→h' b=some k
section
variable {h h':au}
theorem Rg (L:Le h h') {v:V} {r:V×List Nat} (hs:ma h v=some r):ma h' v=some r:=by
 cases v with
 |sl b s n=>
  simp only [ma] at hs ⊢
  cases hb:h b with
  |none=>rw [hb] at hs;cases hs
  |some k=>rw [hb] at hs;rw [L b k hb];exact hs
 |_=>exact hs
theorem Ap (L:Le h h') {v:V} {r:Nat×List Tri} (hs:o9 h v=some r):o9 h' v=some r:=by
 cases v with
 |mp b=>
  simp only [o9] at hs ⊢
  cases hb:h b with
  |none=>rw [hb] at hs;cases hs
  |some k=>rw [hb] at hs;rw [L b k hb];exact hs
 |_=>exact hs
theorem G7 (L:Le h h'): ∀{vs:List V} {r:List V×List Nat},jZ h vs=some r→jZ h' vs=some r
 |[],r,hs=>hs
 |v::vs,r,hs=>by
  simp only [jZ] at hs ⊢
  cases h1:ma h v with
  |none=>rw [h1] at hs;cases hs
  |some p=>
   rw [h1] at hs
   rw [Rg L h1]
   cases h2:jZ h vs with
   |none=>rw [h2] at hs;cases hs
   |some q=>rw [h2] at hs;rw [G7 L h2];exact hs
theorem Cr (L:Le h h') {e:Nat} {v:V} {r:List (List V)} (hs:cx h e v=some r):cx h' e v=some r:=by
 cases v with
 |sl b s n=>
  simp only [cx] at hs ⊢
  cases hb:h b with
  |none=>rw [hb] at hs;cases hs
  |some k=>rw [hb] at hs;rw [L b k hb];exact hs
 |lit y=>
  cases y with
  |slice a n c=>cases a<;>cases n<;>cases c<;>exact hs
  |_=>exact hs
 |_=>exact hs
theorem ZW (L:Le h h') {g:Option Nat} {v r:V} (hs:vZ g h v=some r):vZ g h' v=some r:=by
 cases v with
 |ptr b i o n=>
  simp only [vZ] at hs ⊢
  cases hb:h b with
  |none=>rw [hb] at hs;cases hs
  |some k=>rw [hb] at hs;rw [L b k hb];exact hs
 |_=>exact hs
theorem Bt (L:Le h h') {ev:Opd→V}: ∀{ps:List (Nat×Opd)} {r:List (Nat×V)×List Nat},cG h ev ps=some r→cG h' ev ps=some r
 |[],r,hs=>hs
 | (i,x)::ps,r,hs=>by
   simp only [cG] at hs ⊢
   cases h1:jZ h (ev x).cells with
   |none=>rw [h1] at hs;cases hs
   |some p=>
    rw [h1] at hs
    rw [G7 L h1]
    cases h2:cG h ev ps with
    |none=>rw [h2] at hs;cases hs
    |some q=>rw [h2] at hs;rw [Bt L h2];exact hs
theorem ID (L:Le h h') {own:Bool} {ids:List Nat} {v:V} {r:V×List Nat×List Nat} (hs:bU h own ids v=some r):bU h' own ids v=some r:=by
 cases v with
 |ptr b i o n=>
  simp only [bU] at hs ⊢
  cases hb:h b with
  |none=>rw [hb] at hs;cases hs
  |some k=>rw [hb] at hs;rw [L b k hb];exact hs
 |mp b=>
  simp only [bU] at hs ⊢
  cases hb:h b with
  |none=>rw [hb] at hs;cases hs
  |some k=>rw [hb] at hs;rw [L b k hb];exact hs
 |sl b s n=>
  simp only [bU] at hs ⊢
  cases hb:h b with
  |none=>rw [hb] at hs;cases hs
  |some k=>rw [hb] at hs;rw [L b k hb];exact hs
 |fn f cs=>cases cs<;>exact hs
 |_=>exact hs
theorem xW (L:Le h h') {own:Bool}: ∀{vs:List V} {ids:List Nat} {r:List V×List Nat×List Nat},cL h own ids vs=some r→cL h' own ids vs=some r
 |[],ids,r,hs=>hs
 |v::vs,ids,r,hs=>by
  simp only [cL] at hs ⊢
  cases h1:bU h own ids v with
  |none=>rw [h1] at hs;cases hs
  |some p=>
   obtain ⟨a,b,c⟩:=p
   rw [h1] at hs
   rw [ID L h1]
   dsimp only at hs ⊢
   cases h2:cL h own b vs with
   |none=>rw [h2] at hs;cases hs
   |some q=>rw [h2] at hs;rw [xW L h2];exact hs
theorem Ko (L:Le h h') {own:Bool} {ids:List Nat} {v:V} {r:V×List Nat×List Nat} (hs:cW h own ids v=some r):cW h' own ids v=some r:=by
 have other: ∀v,cW h own ids v=bU h own ids v→cW h' own ids v=bU h' own ids v→cW h own ids v=some r→cW h' own ids v=some r:=fun v e1 e2 e3=>by
  rw [e1] at e3;rw [e2];exact ID L e3
 cases v with
 |agg cs=>
  simp only [cW] at hs ⊢
  cases h1:cL h own ids cs with
  |none=>rw [h1] at hs;cases hs
  |some p=>rw [h1] at hs;rw [xW L h1];exact hs
 |fn f cs=>
  simp only [cW] at hs ⊢
  cases h1:cL h true ids cs with
  |none=>rw [h1] at hs;cases hs
  |some p=>rw [h1] at hs;rw [xW L h1];exact hs
 |lit v=>exact other _ rfl rfl hs
 |tup v=>exact other _ rfl rfl hs
 |ptr b i o n=>exact other _ rfl rfl hs
 |sl b s n=>exact other _ rfl rfl hs
 |mp b=>exact other _ rfl rfl hs
 |imm e r=>exact other _ rfl rfl hs
 |iptr r o=>exact other _ rfl rfl hs
 |undef=>exact other _ rfl rfl hs
theorem Ih (L:Le h h') {owns:List Nat}: ∀{vs:List V} {j:Nat} {ids:List Nat} {r:List V×List Nat×List Nat},gx h owns j ids vs=some r→gx h' owns j ids vs=some r
 |[],j,ids,r,hs=>hs
 |v::vs,j,ids,r,hs=>by
  simp only [gx] at hs ⊢
  cases h1:cW h (j∈owns) ids v with
  |none=>rw [h1] at hs;cases hs
  |some p=>
   obtain ⟨a,b,c⟩:=p
   rw [h1] at hs
   rw [Ko L h1]
   dsimp only at hs ⊢
   cases h2:gx h owns (j+1) b vs with
   |none=>rw [h2] at hs;cases hs
   |some q=>rw [h2] at hs;rw [Ih L h2];exact hs
theorem NP (L:Le h h'): ∀{vs:List V} {ids:List Nat} {r:List V×List Nat},od h ids vs=some r→od h' ids vs=some r
 |[],ids,r,hs=>hs
 |v::vs,ids,r,hs=>by
  simp only [od] at hs ⊢
  cases h1:cW h true ids v with
  |none=>rw [h1] at hs;cases hs
  |some p=>
   obtain ⟨a,b,c⟩:=p
   rw [h1] at hs
   rw [Ko L h1]
   dsimp only at hs ⊢
   cases h2:od h b vs with
   |none=>rw [h2] at hs;cases hs
   |some q=>rw [h2] at hs;rw [NP L h2];exact hs
theorem Gl (L:Le h h'): ∀{rs:List (List V)} {ids:List Nat} {r:List (List V)×List Nat},lK h ids rs=some r→lK h' ids rs=some r
 |[],ids,r,hs=>hs
 |v::vs,ids,r,hs=>by
  simp only [lK] at hs ⊢
  cases h1:od h ids v with
  |none=>rw [h1] at hs;cases hs
  |some p=>
   obtain ⟨a,b⟩:=p
   rw [h1] at hs
   rw [NP L h1]
   dsimp only at hs ⊢
   cases h2:lK h b vs with
   |none=>rw [h2] at hs;cases hs
   |some q=>rw [h2] at hs;rw [Gl L h2];exact hs
theorem zM (L:Le h h'): ∀{fuel pos:Nat} {ids:List Nat} {r:List Blk×List Nat},dq h fuel pos ids=some r→dq h' fuel pos ids=some r
 |0,pos,ids,r,hs=>by simp [dq] at hs
 |fuel+1,pos,ids,r,hs=>by
  simp only [dq] at hs ⊢
  cases hp:ids[pos]? with
  |none=>rw [hp] at hs;exact hs
  |some b=>
   rw [hp] at hs
   dsimp only at hs ⊢
   cases hb:h b with
   |none=>rw [hb] at hs;cases hs
   |some k=>
    rw [hb] at hs
    rw [L b k hb]
    dsimp only at hs ⊢
    split at hs
    ·rename_i ho
     rw [if_pos ho]
     cases h1:dq h fuel (pos+1) ids with
     |none=>rw [h1] at hs;cases hs
     |some p=>rw [h1] at hs;rw [zM L h1];exact hs
    ·rename_i ho
     rw [if_neg ho]
     cases h1:lK h ids k.rows with
     |none=>rw [h1] at hs;cases hs
     |some p=>
      obtain ⟨rows,ids1⟩:=p
      rw [h1] at hs
      rw [Gl L h1]
      dsimp only at hs ⊢
      cases h2:dq h fuel (pos+1) ids1 with
      |none=>rw [h2] at hs;cases hs
      |some q=>rw [h2] at hs;rw [zM L h2];exact hs
theorem Q2 (L:Le h h') {owns:FuncId→List Nat} {f:FuncId} {args:List V} {r:List V×List Blk×List Nat×List Nat} (hs:cV owns h f args=some r):cV owns h' f args=some r:=by
 unfold cV at hs ⊢
 cases h1:gx h (owns f) 0 [] args with
 |none=>rw [h1] at hs;cases hs
 |some p=>
  obtain ⟨a,ids0,bor⟩:=p
  rw [h1] at hs
  rw [Ih L h1]
  dsimp only at hs ⊢
  cases h2:dq h 40 0 ids0 with
  |none=>rw [h2] at hs;cases hs
  |some q=>rw [h2] at hs;rw [zM L h2];exact hs
theorem Ke: ∀(ids:List Nat) (M:List Blk),(kU ids M).map (·.1)=ids.take M.length
 |[],M=>by simp [kU]
 |i::r,[]=>by simp [kU]
 |i::r,k::s=>by simp [kU,Ke r s]
theorem Mt (L:Le h h'): ∀{u u':Upd},roU h u=some u'→(∀b∈u'.map (·.1),h b=none→h' b=none)→roU h' u=some u'
 |[],u',hs,hn=>hs
 | (b,k)::r,u',hs,hn=>by
   simp only [roU] at hs ⊢
   cases hb:h b with
   |none=>
    rw [hb] at hs;dsimp only at hs
    cases hr:roU h r with
    |none=>rw [hr] at hs;cases hs
    |some r'=>
     rw [hr] at hs;cases hs
     rw [hn b (by simp) hb];dsimp only
     rw [Mt L hr (fun c hc h0=>hn c (by rw [List.map_cons,List.mem_cons];exact .inr hc) h0)];rfl
   |some k'=>
    rw [hb] at hs;dsimp only at hs
    split at hs
    ·rename_i he;rw [L b k' hb];dsimp only;rw [if_pos he];exact Mt L hs hn
    ·cases hs
theorem OC: ∀{u u':Upd},roU h u=some u'→ ∀b∈u.map (·.1),h b=none→b∈u'.map (·.1)
 |[],u',hs,b,hb,_=>by cases hb
 | (c,k)::r,u',hs,b,hb,h0=>by
   simp only [roU] at hs
   rw [List.map_cons,List.mem_cons] at hb
   cases hc:h c with
   |none=>
    rw [hc] at hs;dsimp only at hs
    cases hr:roU h r with
    |none=>rw [hr] at hs;cases hs
    |some r'=>
     rw [hr] at hs;cases hs
     rw [List.map_cons,List.mem_cons]
     rcases hb with rfl|hb
     ·exact .inl rfl
     ·exact .inr (OC hr b hb h0)
   |some k'=>
    rw [hc] at hs;dsimp only at hs
    split at hs
    ·rcases hb with rfl|hb
     ·rw [hc] at h0;cases h0
     ·exact OC hs b hb h0
    ·cases hs
theorem Qx (L:Le h h') {C:aY} {owns:FuncId→List Nat} {new:Nat} {f:FuncId} {args:List V} {v:V} {u:Upd} (hs:kx C owns h new f args=some (v,u)) (hn: ∀b∈u.map (·.1),h b=none→h' b=none):
 kx C owns h' new f args=some (v,u):=by
 unfold kx at hs ⊢
 cases h1:cV owns h f args with
 |none=>rw [h1] at hs;cases hs
 |some p=>
  obtain ⟨args',blks,ids,bor⟩:=p
  rw [h1] at hs
  rw [Q2 L h1]
  dsimp only at hs ⊢
  cases h2:C f (ra (owns f) args') (qZ (owns f) blks) with
  |none=>rw [h2] at hs;cases hs
  |some q=>
   obtain ⟨r,blks'⟩:=q
   rw [h2] at hs
   dsimp only at hs ⊢
   obtain ⟨u0,hs0, -,hro,hrf⟩:=a1Z hs
   have hk0: ∀b∈u0.map (·.1),h b=none→h' b=none:=fun b hb h0=>by
    cases hfl:(owns f).contains 3000 with
    |true=>exact hn b (OC (hro hfl) b hb h0) h0
    |false=>rw [←hrf hfl] at hb;exact hn b hb h0
   suffices hq:wa ((owns f).contains 2000) h' new ids bor r blks'=some (v,u0) by
    rw [hq]
    cases hfl:(owns f).contains 3000 with
    |true=>simp only [roW,if_true];rw [Mt L (hro hfl) hn]
    |false=>rw [hrf hfl];rfl
   have hs:=hs0
   unfold wa at hs ⊢
   split at hs
   ·rename_i hc
    cases hs
    refine if_pos ⟨hc.1,List.all_eq_true.2 fun b hb=> ?_⟩
    have hb0:h b=none:=by simpa using List.all_eq_true.1 hc.2 b hb
    rw [hk0 b ?_ hb0]
    ·rfl
    ·rw [List.map_append,List.mem_append,Ke,List.length_map]
     left
     rw [List.take_of_length_le (by rw [List.length_append];have:=wD (n:=new) hc.1;omega)]
     exact List.mem_append.2 (.inr hb)
   ·cases hs
theorem ia {n:Nat} {k:Blk} {v:V} {r:V×Upd} (hs:jH h n k v=some r) (hn: ∀b∈r.2.map (·.1),h b=none→h' b=none):jH h' n k v=some r:=by
 unfold jH at hs ⊢
 split at hs
 ·rename_i hc
  cases hs
  rw [if_pos ⟨by rw [hn n (by simp) (by simpa using hc.1)];rfl,hc.2⟩]
 ·cases hs
theorem a9L (L:Le h h') {C:aY} {ow:FuncId→List Nat} {o:AOp} {ev:Opd→V} {new:Nat} {v:V} {u:Upd} (hs:aj C ow o ev h new=some (v,u)) (hn: ∀b∈u.map (·.1),h b=none→h' b=none):
 aj C ow o ev h' new=some (v,u):=by
 cases o with
 |alloc z=>
  simp only [aj] at hs ⊢
  split at hs
  ·rename_i hc;rw [if_pos hc];exact ia hs hn
  ·cases hs
 |box s x=>
  simp only [aj] at hs ⊢
  split at hs
  ·rename_i hc;rw [if_pos hc];exact ia hs hn
  ·cases hs
 |buildTwo x y=>
  simp only [aj] at hs ⊢
  split at hs
  ·rename_i hc;rw [if_pos hc];exact ia hs hn
  ·cases hs
 |buildSlice e z n ps=>
  simp only [aj] at hs ⊢
  cases h1:cG h ev ps with
  |none=>rw [h1] at hs;cases hs
  |some p=>
   obtain ⟨qs,bs⟩:=p
   rw [h1] at hs
   rw [Bt L h1]
   dsimp only at hs ⊢
   split at hs
   ·rename_i rows hr
    split at hs
    ·rename_i hc
     rw [if_pos hc]
     cases hf:jH h new ⟨e,false,rows⟩ (.sl new 0 n) with
     |none=>rw [hf] at hs;cases hs
     |some q=>
      rw [hf] at hs
      cases hs
      rw [ia hf (fun b hm h0=>hn b (by rw [List.map_append,List.mem_append];exact .inr hm) h0)]
    ·cases hs
   ·cases hs
 |load g a=>
  simp only [aj] at hs ⊢
  cases h1:vZ g h (ev a) with
  |none=>rw [h1] at hs;cases hs
  |some p=>rw [h1] at hs;rw [ZW L h1];exact hs
 |store s a x=>
  simp only [aj] at hs ⊢
  cases hev:ev a with
  |ptr b i o n=>
   rw [hev] at hs
   dsimp only at hs ⊢
   cases hb:h b with
   |none=>rw [hb] at hs;cases hs
   |some k=>
    rw [hb] at hs
    rw [L b k hb]
    dsimp only at hs ⊢
    split at hs
    ·rename_i hc
     rw [if_pos hc]
     split at hs
     ·rename_i row hr
      split at hs
      ·rename_i ho;rw [if_pos ho];exact hs
      ·rename_i ho
       rw [if_neg ho]
       cases h1:jZ h (ev x).cells with
       |none=>rw [h1] at hs;cases hs
       |some p=>rw [h1] at hs;rw [G7 L h1];exact hs
     ·cases hs
    ·cases hs
  |_=>rw [hev] at hs;cases hs
 |nilCheck x=>
  simp only [aj] at hs ⊢
  cases hev:ev x with
  |ptr b i o n=>
   rw [hev] at hs
   dsimp only at hs ⊢
   cases hb:h b with
   |none=>rw [hb] at hs;cases hs
   |some k=>rw [hb] at hs;rw [L b k hb];exact hs
  |_=>rw [hev] at hs;exact hs
 |toBytes x=>
  simp only [aj] at hs ⊢
  split at hs
  ·rename_i s hev
   split at hs
   ·rename_i hc;exact (if_pos hc).trans (ia hs hn)
   ·cases hs
  ·cases hs
 |toStr x=>
  simp only [aj] at hs ⊢
  split at hs
  ·cases hs
  ·rename_i hc
   rw [if_neg hc]
   cases h1:cx h 1 (ev x) with
   |none=>rw [h1] at hs;cases hs
   |some p=>rw [h1] at hs;rw [Cr L h1];exact hs
 |makeSlice e by_ z l c=>
  simp only [aj] at hs ⊢
  split at hs
  ·rename_i a b h1 h2
   split at hs
   ·rename_i hc;exact (if_pos hc).trans (ia hs hn)
   ·cases hs
  ·cases hs
 |slice e x lo hi mx=>
  cases mx with
  |some m=>exact hs
  |none=>
   simp only [aj] at hs ⊢
   cases hev:ev x with
   |sl b s n=>
    rw [hev] at hs
    dsimp only at hs ⊢
    cases hb:h b with
    |none=>rw [hb] at hs;cases hs
    |some k=>rw [hb] at hs;rw [L b k hb];exact hs
   |lit y=>
    rw [hev] at hs
    cases y with
    |slice a n c=>cases a<;>cases n<;>cases c<;>exact hs
    |_=>exact hs
   |_=>rw [hev] at hs;exact hs
 |idx e x i=>
  simp only [aj] at hs ⊢
  cases hi:asI (ev i) with
  |none=>rw [hi] at hs;cases hs
  |some q=>
   rw [hi] at hs
   dsimp only at hs ⊢
   split at hs
   ·rename_i hc
    rw [if_pos hc]
    cases hev:ev x with
    |sl b s n=>
     rw [hev] at hs
     dsimp only at hs ⊢
     cases hb:h b with
     |none=>rw [hb] at hs;cases hs
     |some k=>rw [hb] at hs;rw [L b k hb];exact hs
    |_=>rw [hev] at hs;exact hs
   ·cases hs
 |append e by_ z x y=>
  simp only [aj] at hs ⊢
  cases h1:cx h e (ev y) with
  |none=>rw [h1] at hs;cases hs
  |some ns=>
   rw [h1] at hs
   rw [Cr L h1]
   dsimp only at hs ⊢
   split at hs
   ·rename_i hc
    rw [if_pos hc]
    split at hs
    ·rename_i b n hev
     cases hb:h b with
     |none=>rw [hb] at hs;cases hs
     |some k=>rw [hb] at hs;rw [L b k hb];exact hs
    ·exact ia hs hn
    ·exact ia hs hn
    ·cases hs
   ·cases hs
 |appendN e by_ z x y=>
  simp only [aj] at hs ⊢
  split at hs
  ·rename_i l hl
   split at hs
   ·rename_i hc
    rw [if_pos hc]
    unfold FV at hs ⊢
    split at hs
    ·rename_i hc
     rw [if_pos hc]
     split at hs
     ·rename_i b n hev
      cases hb:h b with
      |none=>rw [hb] at hs;cases hs
      |some k=>rw [hb] at hs;rw [L b k hb];exact hs
     ·exact ia hs hn
     ·exact ia hs hn
     ·cases hs
    ·cases hs
   ·cases hs
  ·cases hs
 |copy e x y=>
  simp only [aj] at hs ⊢
  cases h1:cx h e (ev y) with
  |none=>rw [h1] at hs;cases hs
  |some ns=>
   rw [h1] at hs
   rw [Cr L h1]
   cases hev:ev x with
   |sl b s n=>
    rw [hev] at hs
    dsimp only at hs ⊢
    cases hb:h b with
    |none=>rw [hb] at hs;cases hs
    |some k=>rw [hb] at hs;rw [L b k hb];exact hs
   |_=>rw [hev] at hs;cases hs
 |arrOf n x=>
  simp only [aj] at hs ⊢
  cases h1:ma h (ev x) with
  |none=>rw [h1] at hs;cases hs
  |some p=>rw [h1] at hs;rw [Rg L h1];exact hs
 |bytesOwn x=>
  simp only [aj] at hs ⊢
  cases hev:ev x with
  |sl b s n=>
   rw [hev] at hs
   dsimp only at hs ⊢
   cases hb:h b with
   |none=>rw [hb] at hs;cases hs
   |some k=>rw [hb] at hs;rw [L b k hb];exact hs
  |_=>rw [hev] at hs;cases hs
 |mkMap=>
  simp only [aj] at hs ⊢
  split at hs
  ·rename_i hc
   cases hs
   have:=hn new (by simp) (by simpa using hc)
   rw [if_pos (by simpa using this)]
  ·cases hs
 |mapGet m k=>
  simp only [aj] at hs ⊢
  cases h1:o9 h (ev m) with
  |none=>rw [h1] at hs;cases hs
  |some p=>rw [h1] at hs;rw [Ap L h1];exact hs
 |mapSet m k x=>
  simp only [aj] at hs ⊢
  cases h1:o9 h (ev m) with
  |none=>rw [h1] at hs;cases hs
  |some p=>rw [h1] at hs;rw [Ap L h1];exact hs
 |mapEnt m k=>
  simp only [aj] at hs ⊢
  cases h1:o9 h (ev m) with
  |none=>rw [h1] at hs;cases hs
  |some p=>rw [h1] at hs;rw [Ap L h1];exact hs
 |mapPut m i x=>
  simp only [aj] at hs ⊢
  cases h1:o9 h (ev m) with
  |none=>rw [h1] at hs;cases hs
  |some p=>rw [h1] at hs;rw [Ap L h1];exact hs
 |call f args=>exact Qx L hs hn
 |dyn f args=>
  simp only [aj] at hs ⊢
  split at hs
  ·rename_i hev;exact Qx L hs hn
  ·cases hs
 |_=>exact hs
end
end Go.AI
