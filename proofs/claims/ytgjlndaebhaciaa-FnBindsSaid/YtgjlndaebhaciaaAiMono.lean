/- An operation that is told with a part of memory is told alike with all of it. -/
import Derived.Test.YtgjlndaebhaciaaAiCall3
set_option linter.unusedVariables false
set_option linter.unusedSimpArgs false
namespace Go.AI
def Le (h h':ak):Prop:= ∀b k,h b=some k→h' b=some k
section
variable {h h':ak}
theorem Bv (L:Le h h') {v:V} {r:V×List Nat} (hs:ic h v=some r):ic h' v=some r:=by
 cases v with
 |sl b s n=>
  simp only [ic] at hs ⊢
  cases hb:h b with
  |none=>rw [hb] at hs;cases hs
  |some k=>rw [hb] at hs;rw [L b k hb];exact hs
 |_=>exact hs
theorem pP (L:Le h h') {v:V} {r:Nat×List Tri} (hs:iT h v=some r):iT h' v=some r:=by
 cases v with
 |mp b=>
  simp only [iT] at hs ⊢
  cases hb:h b with
  |none=>rw [hb] at hs;cases hs
  |some k=>rw [hb] at hs;rw [L b k hb];exact hs
 |_=>exact hs
theorem uZ (L:Le h h'): ∀{vs:List V} {r:List V×List Nat},gg h vs=some r→gg h' vs=some r
 |[],r,hs=>hs
 |v::vs,r,hs=>by
  simp only [gg] at hs ⊢
  cases h1:ic h v with
  |none=>rw [h1] at hs;cases hs
  |some p=>
   rw [h1] at hs
   rw [Bv L h1]
   cases h2:gg h vs with
   |none=>rw [h2] at hs;cases hs
   |some q=>rw [h2] at hs;rw [uZ L h2];exact hs
theorem sk (L:Le h h') {e:Nat} {v:V} {r:List (List V)} (hs:bI h e v=some r):bI h' e v=some r:=by
 cases v with
 |sl b s n=>
  simp only [bI] at hs ⊢
  cases hb:h b with
  |none=>rw [hb] at hs;cases hs
  |some k=>rw [hb] at hs;rw [L b k hb];exact hs
 |lit y=>
  cases y with
  |slice a n c=>cases a<;>cases n<;>cases c<;>exact hs
  |_=>exact hs
 |_=>exact hs
theorem GP (L:Le h h') {g:Option Nat} {v r:V} (hs:ny g h v=some r):ny g h' v=some r:=by
 cases v with
 |ptr b i o n=>
  simp only [ny] at hs ⊢
  cases hb:h b with
  |none=>rw [hb] at hs;cases hs
  |some k=>rw [hb] at hs;rw [L b k hb];exact hs
 |_=>exact hs
theorem su (L:Le h h') {ev:Opd→V}: ∀{ps:List (Nat×Opd)} {r:List (Nat×V)×List Nat},bP h ev ps=some r→bP h' ev ps=some r
 |[],r,hs=>hs
 | (i,x)::ps,r,hs=>by
   simp only [bP] at hs ⊢
   cases h1:gg h (ev x).cells with
   |none=>rw [h1] at hs;cases hs
   |some p=>
    rw [h1] at hs
    rw [uZ L h1]
    cases h2:bP h ev ps with
    |none=>rw [h2] at hs;cases hs
    |some q=>rw [h2] at hs;rw [su L h2];exact hs
theorem wc (L:Le h h') {own:Bool} {ids:List Nat} {v:V} {r:V×List Nat×List Nat} (hs:bq h own ids v=some r):bq h' own ids v=some r:=by
 cases v with
 |ptr b i o n=>
  simp only [bq] at hs ⊢
  cases hb:h b with
  |none=>rw [hb] at hs;cases hs
  |some k=>rw [hb] at hs;rw [L b k hb];exact hs
 |mp b=>
  simp only [bq] at hs ⊢
  cases hb:h b with
  |none=>rw [hb] at hs;cases hs
  |some k=>rw [hb] at hs;rw [L b k hb];exact hs
 |sl b s n=>
  simp only [bq] at hs ⊢
  cases hb:h b with
  |none=>rw [hb] at hs;cases hs
  |some k=>rw [hb] at hs;rw [L b k hb];exact hs
 |fn f cs=>cases cs<;>exact hs
 |_=>exact hs
theorem oU (L:Le h h') {own:Bool}: ∀{vs:List V} {ids:List Nat} {r:List V×List Nat×List Nat},bS h own ids vs=some r→bS h' own ids vs=some r
 |[],ids,r,hs=>hs
 |v::vs,ids,r,hs=>by
  simp only [bS] at hs ⊢
  cases h1:bq h own ids v with
  |none=>rw [h1] at hs;cases hs
  |some p=>
   obtain ⟨a,b,c⟩:=p
   rw [h1] at hs
   rw [wc L h1]
   dsimp only at hs ⊢
   cases h2:bS h own b vs with
   |none=>rw [h2] at hs;cases hs
   |some q=>rw [h2] at hs;rw [oU L h2];exact hs
theorem xq (L:Le h h') {own:Bool} {ids:List Nat} {v:V} {r:V×List Nat×List Nat} (hs:cc h own ids v=some r):cc h' own ids v=some r:=by
 have other: ∀v,cc h own ids v=bq h own ids v→cc h' own ids v=bq h' own ids v→cc h own ids v=some r→cc h' own ids v=some r:=fun v e1 e2 e3=>by
  rw [e1] at e3;rw [e2];exact wc L e3
 cases v with
 |agg cs=>
  simp only [cc] at hs ⊢
  cases h1:bS h own ids cs with
  |none=>rw [h1] at hs;cases hs
  |some p=>rw [h1] at hs;rw [oU L h1];exact hs
 |fn f cs=>
  simp only [cc] at hs ⊢
  cases h1:bS h true ids cs with
  |none=>rw [h1] at hs;cases hs
  |some p=>rw [h1] at hs;rw [oU L h1];exact hs
 |lit v=>exact other _ rfl rfl hs
 |tup v=>exact other _ rfl rfl hs
 |ptr b i o n=>exact other _ rfl rfl hs
 |sl b s n=>exact other _ rfl rfl hs
 |mp b=>exact other _ rfl rfl hs
 |imm e r=>exact other _ rfl rfl hs
 |iptr r o=>exact other _ rfl rfl hs
 |undef=>exact other _ rfl rfl hs
theorem vQ (L:Le h h') {owns:List Nat}: ∀{vs:List V} {j:Nat} {ids:List Nat} {r:List V×List Nat×List Nat},dP h owns j ids vs=some r→dP h' owns j ids vs=some r
 |[],j,ids,r,hs=>hs
 |v::vs,j,ids,r,hs=>by
  simp only [dP] at hs ⊢
  cases h1:cc h (j∈owns) ids v with
  |none=>rw [h1] at hs;cases hs
  |some p=>
   obtain ⟨a,b,c⟩:=p
   rw [h1] at hs
   rw [xq L h1]
   dsimp only at hs ⊢
   cases h2:dP h owns (j+1) b vs with
   |none=>rw [h2] at hs;cases hs
   |some q=>rw [h2] at hs;rw [vQ L h2];exact hs
theorem An (L:Le h h'): ∀{vs:List V} {ids:List Nat} {r:List V×List Nat},j3 h ids vs=some r→j3 h' ids vs=some r
 |[],ids,r,hs=>hs
 |v::vs,ids,r,hs=>by
  simp only [j3] at hs ⊢
  cases h1:cc h true ids v with
  |none=>rw [h1] at hs;cases hs
  |some p=>
   obtain ⟨a,b,c⟩:=p
   rw [h1] at hs
   rw [xq L h1]
   dsimp only at hs ⊢
   cases h2:j3 h b vs with
   |none=>rw [h2] at hs;cases hs
   |some q=>rw [h2] at hs;rw [An L h2];exact hs
theorem vM (L:Le h h'): ∀{rs:List (List V)} {ids:List Nat} {r:List (List V)×List Nat},hQ h ids rs=some r→hQ h' ids rs=some r
 |[],ids,r,hs=>hs
 |v::vs,ids,r,hs=>by
  simp only [hQ] at hs ⊢
  cases h1:j3 h ids v with
  |none=>rw [h1] at hs;cases hs
  |some p=>
   obtain ⟨a,b⟩:=p
   rw [h1] at hs
   rw [An L h1]
   dsimp only at hs ⊢
   cases h2:hQ h b vs with
   |none=>rw [h2] at hs;cases hs
   |some q=>rw [h2] at hs;rw [vM L h2];exact hs
theorem qa (L:Le h h'): ∀{fuel pos:Nat} {ids:List Nat} {r:List Blk×List Nat},cw h fuel pos ids=some r→cw h' fuel pos ids=some r
 |0,pos,ids,r,hs=>by simp [cw] at hs
 |fuel+1,pos,ids,r,hs=>by
  simp only [cw] at hs ⊢
  cases hp:ids[pos]? with
  |none=>rw [hp] at hs;exact hs
  |some b=>
   rw [hp] at hs
   dsimp only at hs ⊢
   cases hb:h b with
   |none=>rw [hb] at hs;cases hs
   |some k=>
    rw [hb] at hs
    rw [L b k hb]
    dsimp only at hs ⊢
    split at hs
    ·rename_i ho
     rw [if_pos ho]
     cases h1:cw h fuel (pos+1) ids with
     |none=>rw [h1] at hs;cases hs
     |some p=>rw [h1] at hs;rw [qa L h1];exact hs
    ·rename_i ho
     rw [if_neg ho]
     cases h1:hQ h ids k.rows with
     |none=>rw [h1] at hs;cases hs
     |some p=>
      obtain ⟨rows,ids1⟩:=p
      rw [h1] at hs
      rw [vM L h1]
      dsimp only at hs ⊢
      cases h2:cw h fuel (pos+1) ids1 with
      |none=>rw [h2] at hs;cases hs
      |some q=>rw [h2] at hs;rw [qa L h2];exact hs
theorem AV (L:Le h h') {owns:FuncId→List Nat} {f:FuncId} {args:List V} {r:List V×List Blk×List Nat×List Nat} (hs:ca owns h f args=some r):ca owns h' f args=some r:=by
 unfold ca at hs ⊢
 cases h1:dP h (owns f) 0 [] args with
 |none=>rw [h1] at hs;cases hs
 |some p=>
  obtain ⟨a,ids0,bor⟩:=p
  rw [h1] at hs
  rw [vQ L h1]
  dsimp only at hs ⊢
  cases h2:cw h 40 0 ids0 with
  |none=>rw [h2] at hs;cases hs
  |some q=>rw [h2] at hs;rw [qa L h2];exact hs
theorem xt: ∀(ids:List Nat) (M:List Blk),(gz ids M).map (·.1)=ids.take M.length
 |[],M=>by simp [gz]
 |i::r,[]=>by simp [gz]
 |i::r,k::s=>by simp [gz,xt r s]
theorem Aa (L:Le h h'): ∀{u u':Upd},roU h u=some u'→(∀b∈u'.map (·.1),h b=none→h' b=none)→roU h' u=some u'
 |[],u',hs,hn=>hs
 | (b,k)::r,u',hs,hn=>by
   simp only [roU] at hs ⊢
   cases hb:h b with
   |none=>
    rw [hb] at hs;dsimp only at hs
    cases hr:roU h r with
    |none=>rw [hr] at hs;cases hs
    |some r'=>
     rw [hr] at hs;cases hs
     rw [hn b (by simp) hb];dsimp only
     rw [Aa L hr (fun c hc h0=>hn c (by rw [List.map_cons,List.mem_cons];exact .inr hc) h0)];rfl
   |some k'=>
    rw [hb] at hs;dsimp only at hs
    split at hs
    ·rename_i he;rw [L b k' hb];dsimp only;rw [if_pos he];exact Aa L hs hn
    ·cases hs
theorem zd: ∀{u u':Upd},roU h u=some u'→ ∀b∈u.map (·.1),h b=none→b∈u'.map (·.1)
 |[],u',hs,b,hb,_=>by cases hb
 | (c,k)::r,u',hs,b,hb,h0=>by
   simp only [roU] at hs
   rw [List.map_cons,List.mem_cons] at hb
   cases hc:h c with
   |none=>
    rw [hc] at hs;dsimp only at hs
    cases hr:roU h r with
    |none=>rw [hr] at hs;cases hs
    |some r'=>
     rw [hr] at hs;cases hs
     rw [List.map_cons,List.mem_cons]
     rcases hb with rfl|hb
     ·exact .inl rfl
     ·exact .inr (zd hr b hb h0)
   |some k'=>
    rw [hc] at hs;dsimp only at hs
    split at hs
    ·rcases hb with rfl|hb
     ·rw [hc] at h0;cases h0
     ·exact zd hs b hb h0
    ·cases hs
theorem Be (L:Le h h') {C:aM} {owns:FuncId→List Nat} {new:Nat} {f:FuncId} {args:List V} {v:V} {u:Upd} (hs:gZ C owns h new f args=some (v,u)) (hn: ∀b∈u.map (·.1),h b=none→h' b=none):
 gZ C owns h' new f args=some (v,u):=by
 unfold gZ at hs ⊢
 cases h1:ca owns h f args with
 |none=>rw [h1] at hs;cases hs
 |some p=>
  obtain ⟨args',blks,ids,bor⟩:=p
  rw [h1] at hs
  rw [AV L h1]
  dsimp only at hs ⊢
  cases h2:C f (kD (owns f) args') (kw (owns f) blks) with
  |none=>rw [h2] at hs;cases hs
  |some q=>
   obtain ⟨r,blks'⟩:=q
   rw [h2] at hs
   dsimp only at hs ⊢
   obtain ⟨u0,hs0, -,hro,hrf⟩:=Jd hs
   have hk0: ∀b∈u0.map (·.1),h b=none→h' b=none:=fun b hb h0=>by
    cases hfl:(owns f).contains 3000 with
    |true=>exact hn b (zd (hro hfl) b hb h0) h0
    |false=>rw [←hrf hfl] at hb;exact hn b hb h0
   suffices hq:nj ((owns f).contains 2000) h' new ids bor r blks'=some (v,u0) by
    rw [hq]
    cases hfl:(owns f).contains 3000 with
    |true=>simp only [roW,if_true];rw [Aa L (hro hfl) hn]
    |false=>rw [hrf hfl];rfl
   have hs:=hs0
   unfold nj at hs ⊢
   split at hs
   ·rename_i hc
    cases hs
    refine if_pos ⟨hc.1,List.all_eq_true.2 fun b hb=> ?_⟩
    have hb0:h b=none:=by simpa using List.all_eq_true.1 hc.2 b hb
    rw [hk0 b ?_ hb0]
    ·rfl
    ·rw [List.map_append,List.mem_append,xt,List.length_map]
     left
     rw [List.take_of_length_le (by rw [List.length_append];have:=nY (n:=new) hc.1;omega)]
     exact List.mem_append.2 (.inr hb)
   ·cases hs
theorem ey {n:Nat} {k:Blk} {v:V} {r:V×Upd} (hs:fK h n k v=some r) (hn: ∀b∈r.2.map (·.1),h b=none→h' b=none):fK h' n k v=some r:=by
 unfold fK at hs ⊢
 split at hs
 ·rename_i hc
  cases hs
  rw [if_pos ⟨by rw [hn n (by simp) (by simpa using hc.1)];rfl,hc.2⟩]
 ·cases hs
theorem Qn (L:Le h h') {C:aM} {ow:FuncId→List Nat} {o:AOp} {ev:Opd→V} {new:Nat} {v:V} {u:Upd} (hs:ag C ow o ev h new=some (v,u)) (hn: ∀b∈u.map (·.1),h b=none→h' b=none):
 ag C ow o ev h' new=some (v,u):=by
 cases o with
 |alloc z=>
  simp only [ag] at hs ⊢
  split at hs
  ·rename_i hc;rw [if_pos hc];exact ey hs hn
  ·cases hs
 |box s x=>
  simp only [ag] at hs ⊢
  split at hs
  ·rename_i hc;rw [if_pos hc];exact ey hs hn
  ·cases hs
 |buildTwo x y=>
  simp only [ag] at hs ⊢
  split at hs
  ·rename_i hc;rw [if_pos hc];exact ey hs hn
  ·cases hs
 |buildSlice e z n ps=>
  simp only [ag] at hs ⊢
  cases h1:bP h ev ps with
  |none=>rw [h1] at hs;cases hs
  |some p=>
   obtain ⟨qs,bs⟩:=p
   rw [h1] at hs
   rw [su L h1]
   dsimp only at hs ⊢
   split at hs
   ·rename_i rows hr
    split at hs
    ·rename_i hc
     rw [if_pos hc]
     cases hf:fK h new ⟨e,false,rows⟩ (.sl new 0 n) with
     |none=>rw [hf] at hs;cases hs
     |some q=>
      rw [hf] at hs
      cases hs
      rw [ey hf (fun b hm h0=>hn b (by rw [List.map_append,List.mem_append];exact .inr hm) h0)]
    ·cases hs
   ·cases hs
 |load g a=>
  simp only [ag] at hs ⊢
  cases h1:ny g h (ev a) with
  |none=>rw [h1] at hs;cases hs
  |some p=>rw [h1] at hs;rw [GP L h1];exact hs
 |store s a x=>
  simp only [ag] at hs ⊢
  cases hev:ev a with
  |ptr b i o n=>
   rw [hev] at hs
   dsimp only at hs ⊢
   cases hb:h b with
   |none=>rw [hb] at hs;cases hs
   |some k=>
    rw [hb] at hs
    rw [L b k hb]
    dsimp only at hs ⊢
    split at hs
    ·rename_i hc
     rw [if_pos hc]
     split at hs
     ·rename_i row hr
      split at hs
      ·rename_i ho;rw [if_pos ho];exact hs
      ·rename_i ho
       rw [if_neg ho]
       cases h1:gg h (ev x).cells with
       |none=>rw [h1] at hs;cases hs
       |some p=>rw [h1] at hs;rw [uZ L h1];exact hs
     ·cases hs
    ·cases hs
  |_=>rw [hev] at hs;cases hs
 |nilCheck x=>
  simp only [ag] at hs ⊢
  cases hev:ev x with
  |ptr b i o n=>
   rw [hev] at hs
   dsimp only at hs ⊢
   cases hb:h b with
   |none=>rw [hb] at hs;cases hs
   |some k=>rw [hb] at hs;rw [L b k hb];exact hs
  |_=>rw [hev] at hs;exact hs
 |toBytes x=>
  simp only [ag] at hs ⊢
  split at hs
  ·rename_i s hev
   split at hs
   ·rename_i hc;exact (if_pos hc).trans (ey hs hn)
   ·cases hs
  ·cases hs
 |toStr x=>
  simp only [ag] at hs ⊢
  split at hs
  ·cases hs
  ·rename_i hc
   rw [if_neg hc]
   cases h1:bI h 1 (ev x) with
   |none=>rw [h1] at hs;cases hs
   |some p=>rw [h1] at hs;rw [sk L h1];exact hs
 |makeSlice e by_ z l c=>
  simp only [ag] at hs ⊢
  split at hs
  ·rename_i a b h1 h2
   split at hs
   ·rename_i hc;exact (if_pos hc).trans (ey hs hn)
   ·cases hs
  ·cases hs
 |slice e x lo hi mx=>
  cases mx with
  |some m=>exact hs
  |none=>
   simp only [ag] at hs ⊢
   cases hev:ev x with
   |sl b s n=>
    rw [hev] at hs
    dsimp only at hs ⊢
    cases hb:h b with
    |none=>rw [hb] at hs;cases hs
    |some k=>rw [hb] at hs;rw [L b k hb];exact hs
   |lit y=>
    rw [hev] at hs
    cases y with
    |slice a n c=>cases a<;>cases n<;>cases c<;>exact hs
    |_=>exact hs
   |_=>rw [hev] at hs;exact hs
 |idx e x i=>
  simp only [ag] at hs ⊢
  cases hi:asI (ev i) with
  |none=>rw [hi] at hs;cases hs
  |some q=>
   rw [hi] at hs
   dsimp only at hs ⊢
   split at hs
   ·rename_i hc
    rw [if_pos hc]
    cases hev:ev x with
    |sl b s n=>
     rw [hev] at hs
     dsimp only at hs ⊢
     cases hb:h b with
     |none=>rw [hb] at hs;cases hs
     |some k=>rw [hb] at hs;rw [L b k hb];exact hs
    |_=>rw [hev] at hs;exact hs
   ·cases hs
 |append e by_ z x y=>
  simp only [ag] at hs ⊢
  cases h1:bI h e (ev y) with
  |none=>rw [h1] at hs;cases hs
  |some ns=>
   rw [h1] at hs
   rw [sk L h1]
   dsimp only at hs ⊢
   split at hs
   ·rename_i hc
    rw [if_pos hc]
    split at hs
    ·rename_i b n hev
     cases hb:h b with
     |none=>rw [hb] at hs;cases hs
     |some k=>rw [hb] at hs;rw [L b k hb];exact hs
    ·exact ey hs hn
    ·exact ey hs hn
    ·cases hs
   ·cases hs
 |appendN e by_ z x y=>
  simp only [ag] at hs ⊢
  split at hs
  ·rename_i l hl
   split at hs
   ·rename_i hc
    rw [if_pos hc]
    unfold ur at hs ⊢
    split at hs
    ·rename_i hc
     rw [if_pos hc]
     split at hs
     ·rename_i b n hev
      cases hb:h b with
      |none=>rw [hb] at hs;cases hs
      |some k=>rw [hb] at hs;rw [L b k hb];exact hs
     ·exact ey hs hn
     ·exact ey hs hn
     ·cases hs
    ·cases hs
   ·cases hs
  ·cases hs
 |copy e x y=>
  simp only [ag] at hs ⊢
  cases h1:bI h e (ev y) with
  |none=>rw [h1] at hs;cases hs
  |some ns=>
   rw [h1] at hs
   rw [sk L h1]
   cases hev:ev x with
   |sl b s n=>
    rw [hev] at hs
    dsimp only at hs ⊢
    cases hb:h b with
    |none=>rw [hb] at hs;cases hs
    |some k=>rw [hb] at hs;rw [L b k hb];exact hs
   |_=>rw [hev] at hs;cases hs
 |arrOf n x=>
  simp only [ag] at hs ⊢
  cases h1:ic h (ev x) with
  |none=>rw [h1] at hs;cases hs
  |some p=>rw [h1] at hs;rw [Bv L h1];exact hs
 |bytesOwn x=>
  simp only [ag] at hs ⊢
  cases hev:ev x with
  |sl b s n=>
   rw [hev] at hs
   dsimp only at hs ⊢
   cases hb:h b with
   |none=>rw [hb] at hs;cases hs
   |some k=>rw [hb] at hs;rw [L b k hb];exact hs
  |_=>rw [hev] at hs;cases hs
 |mkMap=>
  simp only [ag] at hs ⊢
  split at hs
  ·rename_i hc
   cases hs
   have:=hn new (by simp) (by simpa using hc)
   rw [if_pos (by simpa using this)]
  ·cases hs
 |mapGet m k=>
  simp only [ag] at hs ⊢
  cases h1:iT h (ev m) with
  |none=>rw [h1] at hs;cases hs
  |some p=>rw [h1] at hs;rw [pP L h1];exact hs
 |mapSet m k x=>
  simp only [ag] at hs ⊢
  cases h1:iT h (ev m) with
  |none=>rw [h1] at hs;cases hs
  |some p=>rw [h1] at hs;rw [pP L h1];exact hs
 |mapEnt m k=>
  simp only [ag] at hs ⊢
  cases h1:iT h (ev m) with
  |none=>rw [h1] at hs;cases hs
  |some p=>rw [h1] at hs;rw [pP L h1];exact hs
 |mapPut m i x=>
  simp only [ag] at hs ⊢
  cases h1:iT h (ev m) with
  |none=>rw [h1] at hs;cases hs
  |some p=>rw [h1] at hs;rw [pP L h1];exact hs
 |call f args=>exact Be L hs hn
 |dyn f args=>
  simp only [ag] at hs ⊢
  split at hs
  ·rename_i hev;exact Be L hs hn
  ·cases hs
 |_=>exact hs
end
end Go.AI
