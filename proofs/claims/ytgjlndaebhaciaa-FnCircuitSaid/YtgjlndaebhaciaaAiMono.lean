/- An operation that is told with a part of memory is told alike with all of it. -/
import Derived.Test.YtgjlndaebhaciaaAiCall3
set_option linter.unusedVariables false
set_option linter.unusedSimpArgs false
namespace Go.AI
def Le (h h':ak):Prop:= ∀b k,h b=some k→h' b=some k
section
variable {h h':ak}
theorem zJ (L:Le h h') {v:V} {r:V×List Nat} (hs:gN h v=some r):gN h' v=some r:=by
 cases v with
 |sl b s n=>
  simp only [gN] at hs ⊢
  cases hb:h b with
  |none=>rw [hb] at hs;cases hs
  |some k=>rw [hb] at hs;rw [L b k hb];exact hs
 |_=>exact hs
theorem ol (L:Le h h') {v:V} {r:Nat×List Tri} (hs:ir h v=some r):ir h' v=some r:=by
 cases v with
 |mp b=>
  simp only [ir] at hs ⊢
  cases hb:h b with
  |none=>rw [hb] at hs;cases hs
  |some k=>rw [hb] at hs;rw [L b k hb];exact hs
 |_=>exact hs
theorem sI (L:Le h h'): ∀{vs:List V} {r:List V×List Nat},fQ h vs=some r→fQ h' vs=some r
 |[],r,hs=>hs
 |v::vs,r,hs=>by
  simp only [fQ] at hs ⊢
  cases h1:gN h v with
  |none=>rw [h1] at hs;cases hs
  |some p=>
   rw [h1] at hs
   rw [zJ L h1]
   cases h2:fQ h vs with
   |none=>rw [h2] at hs;cases hs
   |some q=>rw [h2] at hs;rw [sI L h2];exact hs
theorem r5 (L:Le h h') {e:Nat} {v:V} {r:List (List V)} (hs:bA h e v=some r):bA h' e v=some r:=by
 cases v with
 |sl b s n=>
  simp only [bA] at hs ⊢
  cases hb:h b with
  |none=>rw [hb] at hs;cases hs
  |some k=>rw [hb] at hs;rw [L b k hb];exact hs
 |lit y=>
  cases y with
  |slice a n c=>cases a<;>cases n<;>cases c<;>exact hs
  |_=>exact hs
 |_=>exact hs
theorem G1 (L:Le h h') {g:Option Nat} {v r:V} (hs:mo g h v=some r):mo g h' v=some r:=by
 cases v with
 |ptr b i o n=>
  simp only [mo] at hs ⊢
  cases hb:h b with
  |none=>rw [hb] at hs;cases hs
  |some k=>rw [hb] at hs;rw [L b k hb];exact hs
 |_=>exact hs
theorem qA (L:Le h h') {ev:Opd→V}: ∀{ps:List (Nat×Opd)} {r:List (Nat×V)×List Nat},bJ h ev ps=some r→bJ h' ev ps=some r
 |[],r,hs=>hs
 | (i,x)::ps,r,hs=>by
   simp only [bJ] at hs ⊢
   cases h1:fQ h (ev x).cells with
   |none=>rw [h1] at hs;cases hs
   |some p=>
    rw [h1] at hs
    rw [sI L h1]
    cases h2:bJ h ev ps with
    |none=>rw [h2] at hs;cases hs
    |some q=>rw [h2] at hs;rw [qA L h2];exact hs
theorem tQ (L:Le h h') {own:Bool} {ids:List Nat} {v:V} {r:V×List Nat×List Nat} (hs:bk h own ids v=some r):bk h' own ids v=some r:=by
 cases v with
 |ptr b i o n=>
  simp only [bk] at hs ⊢
  cases hb:h b with
  |none=>rw [hb] at hs;cases hs
  |some k=>rw [hb] at hs;rw [L b k hb];exact hs
 |mp b=>
  simp only [bk] at hs ⊢
  cases hb:h b with
  |none=>rw [hb] at hs;cases hs
  |some k=>rw [hb] at hs;rw [L b k hb];exact hs
 |sl b s n=>
  simp only [bk] at hs ⊢
  cases hb:h b with
  |none=>rw [hb] at hs;cases hs
  |some k=>rw [hb] at hs;rw [L b k hb];exact hs
 |fn f cs=>cases cs<;>exact hs
 |_=>exact hs
theorem nv (L:Le h h') {own:Bool}: ∀{vs:List V} {ids:List Nat} {r:List V×List Nat×List Nat},bN h own ids vs=some r→bN h' own ids vs=some r
 |[],ids,r,hs=>hs
 |v::vs,ids,r,hs=>by
  simp only [bN] at hs ⊢
  cases h1:bk h own ids v with
  |none=>rw [h1] at hs;cases hs
  |some p=>
   obtain ⟨a,b,c⟩:=p
   rw [h1] at hs
   rw [tQ L h1]
   dsimp only at hs ⊢
   cases h2:bN h own b vs with
   |none=>rw [h2] at hs;cases hs
   |some q=>rw [h2] at hs;rw [nv L h2];exact hs
theorem vD (L:Le h h') {own:Bool} {ids:List Nat} {v:V} {r:V×List Nat×List Nat} (hs:bS h own ids v=some r):bS h' own ids v=some r:=by
 have other: ∀v,bS h own ids v=bk h own ids v→bS h' own ids v=bk h' own ids v→bS h own ids v=some r→bS h' own ids v=some r:=fun v e1 e2 e3=>by
  rw [e1] at e3;rw [e2];exact tQ L e3
 cases v with
 |agg cs=>
  simp only [bS] at hs ⊢
  cases h1:bN h own ids cs with
  |none=>rw [h1] at hs;cases hs
  |some p=>rw [h1] at hs;rw [nv L h1];exact hs
 |fn f cs=>
  simp only [bS] at hs ⊢
  cases h1:bN h true ids cs with
  |none=>rw [h1] at hs;cases hs
  |some p=>rw [h1] at hs;rw [nv L h1];exact hs
 |lit v=>exact other _ rfl rfl hs
 |tup v=>exact other _ rfl rfl hs
 |ptr b i o n=>exact other _ rfl rfl hs
 |sl b s n=>exact other _ rfl rfl hs
 |mp b=>exact other _ rfl rfl hs
 |imm e r=>exact other _ rfl rfl hs
 |iptr r o=>exact other _ rfl rfl hs
 |undef=>exact other _ rfl rfl hs
theorem u9 (L:Le h h') {owns:List Nat}: ∀{vs:List V} {j:Nat} {ids:List Nat} {r:List V×List Nat×List Nat},dD h owns j ids vs=some r→dD h' owns j ids vs=some r
 |[],j,ids,r,hs=>hs
 |v::vs,j,ids,r,hs=>by
  simp only [dD] at hs ⊢
  cases h1:bS h (j∈owns) ids v with
  |none=>rw [h1] at hs;cases hs
  |some p=>
   obtain ⟨a,b,c⟩:=p
   rw [h1] at hs
   rw [vD L h1]
   dsimp only at hs ⊢
   cases h2:dD h owns (j+1) b vs with
   |none=>rw [h2] at hs;cases hs
   |some q=>rw [h2] at hs;rw [u9 L h2];exact hs
theorem xa (L:Le h h'): ∀{vs:List V} {ids:List Nat} {r:List V×List Nat},iz h ids vs=some r→iz h' ids vs=some r
 |[],ids,r,hs=>hs
 |v::vs,ids,r,hs=>by
  simp only [iz] at hs ⊢
  cases h1:bS h true ids v with
  |none=>rw [h1] at hs;cases hs
  |some p=>
   obtain ⟨a,b,c⟩:=p
   rw [h1] at hs
   rw [vD L h1]
   dsimp only at hs ⊢
   cases h2:iz h b vs with
   |none=>rw [h2] at hs;cases hs
   |some q=>rw [h2] at hs;rw [xa L h2];exact hs
theorem u5 (L:Le h h'): ∀{rs:List (List V)} {ids:List Nat} {r:List (List V)×List Nat},gu h ids rs=some r→gu h' ids rs=some r
 |[],ids,r,hs=>hs
 |v::vs,ids,r,hs=>by
  simp only [gu] at hs ⊢
  cases h1:iz h ids v with
  |none=>rw [h1] at hs;cases hs
  |some p=>
   obtain ⟨a,b⟩:=p
   rw [h1] at hs
   rw [xa L h1]
   dsimp only at hs ⊢
   cases h2:gu h b vs with
   |none=>rw [h2] at hs;cases hs
   |some q=>rw [h2] at hs;rw [u5 L h2];exact hs
theorem oR (L:Le h h'): ∀{fuel pos:Nat} {ids:List Nat} {r:List Blk×List Nat},cg h fuel pos ids=some r→cg h' fuel pos ids=some r
 |0,pos,ids,r,hs=>by simp [cg] at hs
 |fuel+1,pos,ids,r,hs=>by
  simp only [cg] at hs ⊢
  cases hp:ids[pos]? with
  |none=>rw [hp] at hs;exact hs
  |some b=>
   rw [hp] at hs
   dsimp only at hs ⊢
   cases hb:h b with
   |none=>rw [hb] at hs;cases hs
   |some k=>
    rw [hb] at hs
    rw [L b k hb]
    dsimp only at hs ⊢
    split at hs
    ·rename_i ho
     rw [if_pos ho]
     cases h1:cg h fuel (pos+1) ids with
     |none=>rw [h1] at hs;cases hs
     |some p=>rw [h1] at hs;rw [oR L h1];exact hs
    ·rename_i ho
     rw [if_neg ho]
     cases h1:gu h ids k.rows with
     |none=>rw [h1] at hs;cases hs
     |some p=>
      obtain ⟨rows,ids1⟩:=p
      rw [h1] at hs
      rw [u5 L h1]
      dsimp only at hs ⊢
      cases h2:cg h fuel (pos+1) ids1 with
      |none=>rw [h2] at hs;cases hs
      |some q=>rw [h2] at hs;rw [oR L h2];exact hs
theorem yO (L:Le h h') {owns:FuncId→List Nat} {f:FuncId} {args:List V} {r:List V×List Blk×List Nat×List Nat} (hs:bQ owns h f args=some r):bQ owns h' f args=some r:=by
 unfold bQ at hs ⊢
 cases h1:dD h (owns f) 0 [] args with
 |none=>rw [h1] at hs;cases hs
 |some p=>
  obtain ⟨a,ids0,bor⟩:=p
  rw [h1] at hs
  rw [u9 L h1]
  dsimp only at hs ⊢
  cases h2:cg h 40 0 ids0 with
  |none=>rw [h2] at hs;cases hs
  |some q=>rw [h2] at hs;rw [oR L h2];exact hs
theorem vy: ∀(ids:List Nat) (M:List Blk),(gp ids M).map (·.1)=ids.take M.length
 |[],M=>by simp [gp]
 |i::r,[]=>by simp [gp]
 |i::r,k::s=>by simp [gp,vy r s]
theorem yl (L:Le h h'): ∀{u u':Upd},roU h u=some u'→(∀b∈u'.map (·.1),h b=none→h' b=none)→roU h' u=some u'
 |[],u',hs,hn=>hs
 | (b,k)::r,u',hs,hn=>by
   simp only [roU] at hs ⊢
   cases hb:h b with
   |none=>
    rw [hb] at hs;dsimp only at hs
    cases hr:roU h r with
    |none=>rw [hr] at hs;cases hs
    |some r'=>
     rw [hr] at hs;cases hs
     rw [hn b (by simp) hb];dsimp only
     rw [yl L hr (fun c hc h0=>hn c (by rw [List.map_cons,List.mem_cons];exact .inr hc) h0)];rfl
   |some k'=>
    rw [hb] at hs;dsimp only at hs
    split at hs
    ·rename_i he;rw [L b k' hb];dsimp only;rw [if_pos he];exact yl L hs hn
    ·cases hs
theorem xR: ∀{u u':Upd},roU h u=some u'→ ∀b∈u.map (·.1),h b=none→b∈u'.map (·.1)
 |[],u',hs,b,hb,_=>by cases hb
 | (c,k)::r,u',hs,b,hb,h0=>by
   simp only [roU] at hs
   rw [List.map_cons,List.mem_cons] at hb
   cases hc:h c with
   |none=>
    rw [hc] at hs;dsimp only at hs
    cases hr:roU h r with
    |none=>rw [hr] at hs;cases hs
    |some r'=>
     rw [hr] at hs;cases hs
     rw [List.map_cons,List.mem_cons]
     rcases hb with rfl|hb
     ·exact .inl rfl
     ·exact .inr (xR hr b hb h0)
   |some k'=>
    rw [hc] at hs;dsimp only at hs
    split at hs
    ·rcases hb with rfl|hb
     ·rw [hc] at h0;cases h0
     ·exact xR hs b hb h0
    ·cases hs
theorem A0 (L:Le h h') {C:aM} {owns:FuncId→List Nat} {new:Nat} {f:FuncId} {args:List V} {v:V} {u:Upd} (hs:gn C owns h new f args=some (v,u)) (hn: ∀b∈u.map (·.1),h b=none→h' b=none):
 gn C owns h' new f args=some (v,u):=by
 unfold gn at hs ⊢
 cases h1:bQ owns h f args with
 |none=>rw [h1] at hs;cases hs
 |some p=>
  obtain ⟨args',blks,ids,bor⟩:=p
  rw [h1] at hs
  rw [yO L h1]
  dsimp only at hs ⊢
  cases h2:C f (jx (owns f) args') (jI (owns f) blks) with
  |none=>rw [h2] at hs;cases hs
  |some q=>
   obtain ⟨r,blks'⟩:=q
   rw [h2] at hs
   dsimp only at hs ⊢
   obtain ⟨u0,hs0, -,hro,hrf⟩:=Hf hs
   have hk0: ∀b∈u0.map (·.1),h b=none→h' b=none:=fun b hb h0=>by
    cases hfl:(owns f).contains 3000 with
    |true=>exact hn b (xR (hro hfl) b hb h0) h0
    |false=>rw [←hrf hfl] at hb;exact hn b hb h0
   suffices hq:mr ((owns f).contains 2000) h' new ids bor r blks'=some (v,u0) by
    rw [hq]
    cases hfl:(owns f).contains 3000 with
    |true=>simp only [roW,if_true];rw [yl L (hro hfl) hn]
    |false=>rw [hrf hfl];rfl
   have hs:=hs0
   unfold mr at hs ⊢
   split at hs
   ·rename_i hc
    cases hs
    refine if_pos ⟨hc.1,List.all_eq_true.2 fun b hb=> ?_⟩
    have hb0:h b=none:=by simpa using List.all_eq_true.1 hc.2 b hb
    rw [hk0 b ?_ hb0]
    ·rfl
    ·rw [List.map_append,List.mem_append,vy,List.length_map]
     left
     rw [List.take_of_length_le (by rw [List.length_append];have:=mJ (n:=new) hc.1;omega)]
     exact List.mem_append.2 (.inr hb)
   ·cases hs
theorem dY {n:Nat} {k:Blk} {v:V} {r:V×Upd} (hs:fE h n k v=some r) (hn: ∀b∈r.2.map (·.1),h b=none→h' b=none):fE h' n k v=some r:=by
 unfold fE at hs ⊢
 split at hs
 ·rename_i hc
  cases hs
  rw [if_pos ⟨by rw [hn n (by simp) (by simpa using hc.1)];rfl,hc.2⟩]
 ·cases hs
theorem KY (L:Le h h') {C:aM} {ow:FuncId→List Nat} {o:AOp} {ev:Opd→V} {new:Nat} {v:V} {u:Upd} (hs:ah C ow o ev h new=some (v,u)) (hn: ∀b∈u.map (·.1),h b=none→h' b=none):
 ah C ow o ev h' new=some (v,u):=by
 cases o with
 |alloc z=>
  simp only [ah] at hs ⊢
  split at hs
  ·rename_i hc;rw [if_pos hc];exact dY hs hn
  ·cases hs
 |box s x=>
  simp only [ah] at hs ⊢
  split at hs
  ·rename_i hc;rw [if_pos hc];exact dY hs hn
  ·cases hs
 |buildTwo x y=>
  simp only [ah] at hs ⊢
  split at hs
  ·rename_i hc;rw [if_pos hc];exact dY hs hn
  ·cases hs
 |buildSlice e z n ps=>
  simp only [ah] at hs ⊢
  cases h1:bJ h ev ps with
  |none=>rw [h1] at hs;cases hs
  |some p=>
   obtain ⟨qs,bs⟩:=p
   rw [h1] at hs
   rw [qA L h1]
   dsimp only at hs ⊢
   split at hs
   ·rename_i rows hr
    split at hs
    ·rename_i hc
     rw [if_pos hc]
     cases hf:fE h new ⟨e,false,rows⟩ (.sl new 0 n) with
     |none=>rw [hf] at hs;cases hs
     |some q=>
      rw [hf] at hs
      cases hs
      rw [dY hf (fun b hm h0=>hn b (by rw [List.map_append,List.mem_append];exact .inr hm) h0)]
    ·cases hs
   ·cases hs
 |load g a=>
  simp only [ah] at hs ⊢
  cases h1:mo g h (ev a) with
  |none=>rw [h1] at hs;cases hs
  |some p=>rw [h1] at hs;rw [G1 L h1];exact hs
 |store s a x=>
  simp only [ah] at hs ⊢
  cases hev:ev a with
  |ptr b i o n=>
   rw [hev] at hs
   dsimp only at hs ⊢
   cases hb:h b with
   |none=>rw [hb] at hs;cases hs
   |some k=>
    rw [hb] at hs
    rw [L b k hb]
    dsimp only at hs ⊢
    split at hs
    ·rename_i hc
     rw [if_pos hc]
     split at hs
     ·rename_i row hr
      split at hs
      ·rename_i ho;rw [if_pos ho];exact hs
      ·rename_i ho
       rw [if_neg ho]
       cases h1:fQ h (ev x).cells with
       |none=>rw [h1] at hs;cases hs
       |some p=>rw [h1] at hs;rw [sI L h1];exact hs
     ·cases hs
    ·cases hs
  |_=>rw [hev] at hs;cases hs
 |nilCheck x=>
  simp only [ah] at hs ⊢
  cases hev:ev x with
  |ptr b i o n=>
   rw [hev] at hs
   dsimp only at hs ⊢
   cases hb:h b with
   |none=>rw [hb] at hs;cases hs
   |some k=>rw [hb] at hs;rw [L b k hb];exact hs
  |_=>rw [hev] at hs;exact hs
 |toBytes x=>
  simp only [ah] at hs ⊢
  split at hs
  ·rename_i s hev
   split at hs
   ·rename_i hc;exact (if_pos hc).trans (dY hs hn)
   ·cases hs
  ·cases hs
 |toStr x=>
  simp only [ah] at hs ⊢
  split at hs
  ·cases hs
  ·rename_i hc
   rw [if_neg hc]
   cases h1:bA h 1 (ev x) with
   |none=>rw [h1] at hs;cases hs
   |some p=>rw [h1] at hs;rw [r5 L h1];exact hs
 |makeSlice e by_ z l c=>
  simp only [ah] at hs ⊢
  split at hs
  ·rename_i a b h1 h2
   split at hs
   ·rename_i hc;exact (if_pos hc).trans (dY hs hn)
   ·cases hs
  ·cases hs
 |slice e x lo hi mx=>
  cases mx with
  |some m=>exact hs
  |none=>
   simp only [ah] at hs ⊢
   cases hev:ev x with
   |sl b s n=>
    rw [hev] at hs
    dsimp only at hs ⊢
    cases hb:h b with
    |none=>rw [hb] at hs;cases hs
    |some k=>rw [hb] at hs;rw [L b k hb];exact hs
   |lit y=>
    rw [hev] at hs
    cases y with
    |slice a n c=>cases a<;>cases n<;>cases c<;>exact hs
    |_=>exact hs
   |_=>rw [hev] at hs;exact hs
 |idx e x i=>
  simp only [ah] at hs ⊢
  cases hi:asI (ev i) with
  |none=>rw [hi] at hs;cases hs
  |some q=>
   rw [hi] at hs
   dsimp only at hs ⊢
   split at hs
   ·rename_i hc
    rw [if_pos hc]
    cases hev:ev x with
    |sl b s n=>
     rw [hev] at hs
     dsimp only at hs ⊢
     cases hb:h b with
     |none=>rw [hb] at hs;cases hs
     |some k=>rw [hb] at hs;rw [L b k hb];exact hs
    |_=>rw [hev] at hs;exact hs
   ·cases hs
 |append e by_ z x y=>
  simp only [ah] at hs ⊢
  cases h1:bA h e (ev y) with
  |none=>rw [h1] at hs;cases hs
  |some ns=>
   rw [h1] at hs
   rw [r5 L h1]
   dsimp only at hs ⊢
   split at hs
   ·rename_i hc
    rw [if_pos hc]
    split at hs
    ·rename_i b n hev
     cases hb:h b with
     |none=>rw [hb] at hs;cases hs
     |some k=>rw [hb] at hs;rw [L b k hb];exact hs
    ·exact dY hs hn
    ·exact dY hs hn
    ·cases hs
   ·cases hs
 |appendN e by_ z x y=>
  simp only [ah] at hs ⊢
  split at hs
  ·rename_i l hl
   split at hs
   ·rename_i hc
    rw [if_pos hc]
    unfold sS at hs ⊢
    split at hs
    ·rename_i hc
     rw [if_pos hc]
     split at hs
     ·rename_i b n hev
      cases hb:h b with
      |none=>rw [hb] at hs;cases hs
      |some k=>rw [hb] at hs;rw [L b k hb];exact hs
     ·exact dY hs hn
     ·exact dY hs hn
     ·cases hs
    ·cases hs
   ·cases hs
  ·cases hs
 |copy e x y=>
  simp only [ah] at hs ⊢
  cases h1:bA h e (ev y) with
  |none=>rw [h1] at hs;cases hs
  |some ns=>
   rw [h1] at hs
   rw [r5 L h1]
   cases hev:ev x with
   |sl b s n=>
    rw [hev] at hs
    dsimp only at hs ⊢
    cases hb:h b with
    |none=>rw [hb] at hs;cases hs
    |some k=>rw [hb] at hs;rw [L b k hb];exact hs
   |_=>rw [hev] at hs;cases hs
 |arrOf n x=>
  simp only [ah] at hs ⊢
  cases h1:gN h (ev x) with
  |none=>rw [h1] at hs;cases hs
  |some p=>rw [h1] at hs;rw [zJ L h1];exact hs
 |bytesOwn x=>
  simp only [ah] at hs ⊢
  cases hev:ev x with
  |sl b s n=>
   rw [hev] at hs
   dsimp only at hs ⊢
   cases hb:h b with
   |none=>rw [hb] at hs;cases hs
   |some k=>rw [hb] at hs;rw [L b k hb];exact hs
  |_=>rw [hev] at hs;cases hs
 |mkMap=>
  simp only [ah] at hs ⊢
  split at hs
  ·rename_i hc
   cases hs
   have:=hn new (by simp) (by simpa using hc)
   rw [if_pos (by simpa using this)]
  ·cases hs
 |mapGet m k=>
  simp only [ah] at hs ⊢
  cases h1:ir h (ev m) with
  |none=>rw [h1] at hs;cases hs
  |some p=>rw [h1] at hs;rw [ol L h1];exact hs
 |mapSet m k x=>
  simp only [ah] at hs ⊢
  cases h1:ir h (ev m) with
  |none=>rw [h1] at hs;cases hs
  |some p=>rw [h1] at hs;rw [ol L h1];exact hs
 |mapEnt m k=>
  simp only [ah] at hs ⊢
  cases h1:ir h (ev m) with
  |none=>rw [h1] at hs;cases hs
  |some p=>rw [h1] at hs;rw [ol L h1];exact hs
 |mapPut m i x=>
  simp only [ah] at hs ⊢
  cases h1:ir h (ev m) with
  |none=>rw [h1] at hs;cases hs
  |some p=>rw [h1] at hs;rw [ol L h1];exact hs
 |call f args=>exact A0 L hs hn
 |dyn f args=>
  simp only [ah] at hs ⊢
  split at hs
  ·rename_i hev;exact A0 L hs hn
  ·cases hs
 |_=>exact hs
end
end Go.AI
