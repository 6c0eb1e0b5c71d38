/- An operation that is told with a part of memory is told alike with all of it. -/
import Derived.Test.YtdmhkkcihecndaaGreatAiCall3
set_option linter.unusedVariables false
set_option linter.unusedSimpArgs false
namespace Go.AI
def Le (h h':al):Prop:= ∀b k,h b=some k→h' b=some k
section
variable {h h':al}
theorem Tv (L:Le h h') {v:V} {r:V×List Nat} (hs:nf h v=some r):nf h' v=some r:=by
 cases v with
 |sl b s n=>
  simp only [nf] at hs ⊢
  cases hb:h b with
  |none=>rw [hb] at hs;cases hs
  |some k=>rw [hb] at hs;rw [L b k hb];exact hs
 |_=>exact hs
theorem GT (L:Le h h'): ∀{vs:List V} {r:List V×List Nat},jZ h vs=some r→jZ h' vs=some r
 |[],r,hs=>hs
 |v::vs,r,hs=>by
  simp only [jZ] at hs ⊢
  cases h1:nf h v with
  |none=>rw [h1] at hs;cases hs
  |some p=>
   rw [h1] at hs
   rw [Tv L h1]
   cases h2:jZ h vs with
   |none=>rw [h2] at hs;cases hs
   |some q=>rw [h2] at hs;rw [GT L h2];exact hs
theorem BY (L:Le h h') {e:Nat} {v:V} {r:List (List V)} (hs:cA h e v=some r):cA h' e v=some r:=by
 cases v with
 |sl b s n=>
  simp only [cA] at hs ⊢
  cases hb:h b with
  |none=>rw [hb] at hs;cases hs
  |some k=>rw [hb] at hs;rw [L b k hb];exact hs
 |lit y=>
  cases y with
  |slice a n c=>cases a<;>cases n<;>cases c<;>exact hs
  |_=>exact hs
 |_=>exact hs
theorem a0t (L:Le h h') {g:Option Nat} {v r:V} (hs:uj g h v=some r):uj g h' v=some r:=by
 cases v with
 |ptr b i o n=>
  simp only [uj] at hs ⊢
  cases hb:h b with
  |none=>rw [hb] at hs;cases hs
  |some k=>rw [hb] at hs;rw [L b k hb];exact hs
 |_=>exact hs
theorem BA (L:Le h h') {ev:Opd→V}: ∀{ps:List (Nat×Opd)} {r:List (Nat×V)×List Nat},cI h ev ps=some r→cI h' ev ps=some r
 |[],r,hs=>hs
 | (i,x)::ps,r,hs=>by
   simp only [cI] at hs ⊢
   cases h1:jZ h (ev x).cells with
   |none=>rw [h1] at hs;cases hs
   |some p=>
    rw [h1] at hs
    rw [GT L h1]
    cases h2:cI h ev ps with
    |none=>rw [h2] at hs;cases hs
    |some q=>rw [h2] at hs;rw [BA L h2];exact hs
theorem Iu (L:Le h h') {own:Bool} {ids:List Nat} {v:V} {r:V×List Nat×List Nat} (hs:cp h own ids v=some r):cp h' own ids v=some r:=by
 cases v with
 |ptr b i o n=>
  simp only [cp] at hs ⊢
  cases hb:h b with
  |none=>rw [hb] at hs;cases hs
  |some k=>rw [hb] at hs;rw [L b k hb];exact hs
 |sl b s n=>
  simp only [cp] at hs ⊢
  cases hb:h b with
  |none=>rw [hb] at hs;cases hs
  |some k=>rw [hb] at hs;rw [L b k hb];exact hs
 |fn f cs=>cases cs<;>exact hs
 |_=>exact hs
theorem wX (L:Le h h') {own:Bool}: ∀{vs:List V} {ids:List Nat} {r:List V×List Nat×List Nat},cL h own ids vs=some r→cL h' own ids vs=some r
 |[],ids,r,hs=>hs
 |v::vs,ids,r,hs=>by
  simp only [cL] at hs ⊢
  cases h1:cp h own ids v with
  |none=>rw [h1] at hs;cases hs
  |some p=>
   obtain ⟨a,b,c⟩:=p
   rw [h1] at hs
   rw [Iu L h1]
   dsimp only at hs ⊢
   cases h2:cL h own b vs with
   |none=>rw [h2] at hs;cases hs
   |some q=>rw [h2] at hs;rw [wX L h2];exact hs
theorem KK (L:Le h h') {own:Bool} {ids:List Nat} {v:V} {r:V×List Nat×List Nat} (hs:dq h own ids v=some r):dq h' own ids v=some r:=by
 have other: ∀v,dq h own ids v=cp h own ids v→dq h' own ids v=cp h' own ids v→dq h own ids v=some r→dq h' own ids v=some r:=fun v e1 e2 e3=>by
  rw [e1] at e3;rw [e2];exact Iu L e3
 cases v with
 |agg cs=>
  simp only [dq] at hs ⊢
  cases h1:cL h own ids cs with
  |none=>rw [h1] at hs;cases hs
  |some p=>rw [h1] at hs;rw [wX L h1];exact hs
 |fn f cs=>
  simp only [dq] at hs ⊢
  cases h1:cL h true ids cs with
  |none=>rw [h1] at hs;cases hs
  |some p=>rw [h1] at hs;rw [wX L h1];exact hs
 |lit v=>exact other _ rfl rfl hs
 |tup v=>exact other _ rfl rfl hs
 |ptr b i o n=>exact other _ rfl rfl hs
 |sl b s n=>exact other _ rfl rfl hs
 |imm e r=>exact other _ rfl rfl hs
 |iptr r o=>exact other _ rfl rfl hs
 |undef=>exact other _ rfl rfl hs
theorem J8 (L:Le h h') {owns:List Nat}: ∀{vs:List V} {j:Nat} {ids:List Nat} {r:List V×List Nat×List Nat},gy h owns j ids vs=some r→gy h' owns j ids vs=some r
 |[],j,ids,r,hs=>hs
 |v::vs,j,ids,r,hs=>by
  simp only [gy] at hs ⊢
  cases h1:dq h (j∈owns) ids v with
  |none=>rw [h1] at hs;cases hs
  |some p=>
   obtain ⟨a,b,c⟩:=p
   rw [h1] at hs
   rw [KK L h1]
   dsimp only at hs ⊢
   cases h2:gy h owns (j+1) b vs with
   |none=>rw [h2] at hs;cases hs
   |some q=>rw [h2] at hs;rw [J8 L h2];exact hs
theorem Q6 (L:Le h h'): ∀{vs:List V} {ids:List Nat} {r:List V×List Nat},o8 h ids vs=some r→o8 h' ids vs=some r
 |[],ids,r,hs=>hs
 |v::vs,ids,r,hs=>by
  simp only [o8] at hs ⊢
  cases h1:dq h true ids v with
  |none=>rw [h1] at hs;cases hs
  |some p=>
   obtain ⟨a,b,c⟩:=p
   rw [h1] at hs
   rw [KK L h1]
   dsimp only at hs ⊢
   cases h2:o8 h b vs with
   |none=>rw [h2] at hs;cases hs
   |some q=>rw [h2] at hs;rw [Q6 L h2];exact hs
theorem Ii (L:Le h h'): ∀{rs:List (List V)} {ids:List Nat} {r:List (List V)×List Nat},kQ h ids rs=some r→kQ h' ids rs=some r
 |[],ids,r,hs=>hs
 |v::vs,ids,r,hs=>by
  simp only [kQ] at hs ⊢
  cases h1:o8 h ids v with
  |none=>rw [h1] at hs;cases hs
  |some p=>
   obtain ⟨a,b⟩:=p
   rw [h1] at hs
   rw [Q6 L h1]
   dsimp only at hs ⊢
   cases h2:kQ h b vs with
   |none=>rw [h2] at hs;cases hs
   |some q=>rw [h2] at hs;rw [Ii L h2];exact hs
theorem zd (L:Le h h'): ∀{fuel pos:Nat} {ids:List Nat} {r:List Blk×List Nat},dt h fuel pos ids=some r→dt h' fuel pos ids=some r
 |0,pos,ids,r,hs=>by simp [dt] at hs
 |fuel+1,pos,ids,r,hs=>by
  simp only [dt] at hs ⊢
  cases hp:ids[pos]? with
  |none=>rw [hp] at hs;exact hs
  |some b=>
   rw [hp] at hs
   dsimp only at hs ⊢
   cases hb:h b with
   |none=>rw [hb] at hs;cases hs
   |some k=>
    rw [hb] at hs
    rw [L b k hb]
    dsimp only at hs ⊢
    split at hs
    ·rename_i ho
     rw [if_pos ho]
     cases h1:dt h fuel (pos+1) ids with
     |none=>rw [h1] at hs;cases hs
     |some p=>rw [h1] at hs;rw [zd L h1];exact hs
    ·rename_i ho
     rw [if_neg ho]
     cases h1:kQ h ids k.rows with
     |none=>rw [h1] at hs;cases hs
     |some p=>
      obtain ⟨rows,ids1⟩:=p
      rw [h1] at hs
      rw [Ii L h1]
      dsimp only at hs ⊢
      cases h2:dt h fuel (pos+1) ids1 with
      |none=>rw [h2] at hs;cases hs
      |some q=>rw [h2] at hs;rw [zd L h2];exact hs
theorem Ru (L:Le h h') {owns:FuncId→List Nat} {f:FuncId} {args:List V} {r:List V×List Blk×List Nat×List Nat} (hs:cX owns h f args=some r):cX owns h' f args=some r:=by
 unfold cX at hs ⊢
 cases h1:gy h (owns f) 0 [] args with
 |none=>rw [h1] at hs;cases hs
 |some p=>
  obtain ⟨a,ids0,bor⟩:=p
  rw [h1] at hs
  rw [J8 L h1]
  dsimp only at hs ⊢
  cases h2:dt h 40 0 ids0 with
  |none=>rw [h2] at hs;cases hs
  |some q=>rw [h2] at hs;rw [zd L h2];exact hs
theorem LC: ∀(ids:List Nat) (M:List Blk),(kI ids M).map (·.1)=ids.take M.length
 |[],M=>by simp [kI]
 |i::r,[]=>by simp [kI]
 |i::r,k::s=>by simp [kI,LC r s]
theorem SR (L:Le h h') {C:aZ} {owns:FuncId→List Nat} {new:Nat} {f:FuncId} {args:List V} {v:V} {u:Upd} (hs:ku C owns h new f args=some (v,u)) (hn: ∀b∈u.map (·.1),h b=none→h' b=none):
 ku C owns h' new f args=some (v,u):=by
 unfold ku at hs ⊢
 cases h1:cX owns h f args with
 |none=>rw [h1] at hs;cases hs
 |some p=>
  obtain ⟨args',blks,ids,bor⟩:=p
  rw [h1] at hs
  rw [Ru L h1]
  dsimp only at hs ⊢
  cases h2:C f (pG (owns f) args') (qa (owns f) blks) with
  |none=>rw [h2] at hs;cases hs
  |some q=>
   obtain ⟨r,blks'⟩:=q
   rw [h2] at hs
   dsimp only at hs ⊢
   unfold xy at hs ⊢
   split at hs
   ·rename_i hc
    cases hs
    refine if_pos ⟨hc.1,List.all_eq_true.2 fun b hb=> ?_⟩
    have hb0:h b=none:=by simpa using List.all_eq_true.1 hc.2 b hb
    rw [hn b ?_ hb0]
    ·rfl
    ·rw [List.map_append,List.mem_append,LC,List.length_map]
     left
     rw [List.take_of_length_le (by rw [List.length_append];have:=vP (n:=new) hc.1;omega)]
     exact List.mem_append.2 (.inr hb)
   ·cases hs
theorem jf {n:Nat} {k:Blk} {v:V} {r:V×Upd} (hs:ky h n k v=some r) (hn: ∀b∈r.2.map (·.1),h b=none→h' b=none):ky h' n k v=some r:=by
 unfold ky at hs ⊢
 split at hs
 ·rename_i hc
  cases hs
  rw [if_pos ⟨by rw [hn n (by simp) (by simpa using hc.1)];rfl,hc.2⟩]
 ·cases hs
theorem a7Q (L:Le h h') {C:aZ} {ow:FuncId→List Nat} {o:AOp} {ev:Opd→V} {new:Nat} {v:V} {u:Upd} (hs:ah C ow o ev h new=some (v,u)) (hn: ∀b∈u.map (·.1),h b=none→h' b=none):
 ah C ow o ev h' new=some (v,u):=by
 cases o with
 |alloc z=>
  simp only [ah] at hs ⊢
  split at hs
  ·rename_i hc;rw [if_pos hc];exact jf hs hn
  ·cases hs
 |box s x=>
  simp only [ah] at hs ⊢
  split at hs
  ·rename_i hc;rw [if_pos hc];exact jf hs hn
  ·cases hs
 |buildSlice e z n ps=>
  simp only [ah] at hs ⊢
  cases h1:cI h ev ps with
  |none=>rw [h1] at hs;cases hs
  |some p=>
   obtain ⟨qs,bs⟩:=p
   rw [h1] at hs
   rw [BA L h1]
   dsimp only at hs ⊢
   split at hs
   ·rename_i rows hr
    split at hs
    ·rename_i hc
     rw [if_pos hc]
     cases hf:ky h new ⟨e,false,rows⟩ (.sl new 0 n) with
     |none=>rw [hf] at hs;cases hs
     |some q=>
      rw [hf] at hs
      cases hs
      rw [jf hf (fun b hm h0=>hn b (by rw [List.map_append,List.mem_append];exact .inr hm) h0)]
    ·cases hs
   ·cases hs
 |load g a=>
  simp only [ah] at hs ⊢
  cases h1:uj g h (ev a) with
  |none=>rw [h1] at hs;cases hs
  |some p=>rw [h1] at hs;rw [a0t L h1];exact hs
 |store s a x=>
  simp only [ah] at hs ⊢
  cases hev:ev a with
  |ptr b i o n=>
   rw [hev] at hs
   dsimp only at hs ⊢
   cases hb:h b with
   |none=>rw [hb] at hs;cases hs
   |some k=>
    rw [hb] at hs
    rw [L b k hb]
    dsimp only at hs ⊢
    split at hs
    ·rename_i hc
     rw [if_pos hc]
     split at hs
     ·rename_i row hr
      split at hs
      ·rename_i ho;rw [if_pos ho];exact hs
      ·rename_i ho
       rw [if_neg ho]
       cases h1:jZ h (ev x).cells with
       |none=>rw [h1] at hs;cases hs
       |some p=>rw [h1] at hs;rw [GT L h1];exact hs
     ·cases hs
    ·cases hs
  |_=>rw [hev] at hs;cases hs
 |nilCheck x=>
  simp only [ah] at hs ⊢
  cases hev:ev x with
  |ptr b i o n=>
   rw [hev] at hs
   dsimp only at hs ⊢
   cases hb:h b with
   |none=>rw [hb] at hs;cases hs
   |some k=>rw [hb] at hs;rw [L b k hb];exact hs
  |_=>rw [hev] at hs;exact hs
 |toBytes x=>
  simp only [ah] at hs ⊢
  split at hs
  ·rename_i s hev
   split at hs
   ·rename_i hc;exact (if_pos hc).trans (jf hs hn)
   ·cases hs
  ·cases hs
 |toStr x=>
  simp only [ah] at hs ⊢
  split at hs
  ·cases hs
  ·rename_i hc
   rw [if_neg hc]
   cases h1:cA h 1 (ev x) with
   |none=>rw [h1] at hs;cases hs
   |some p=>rw [h1] at hs;rw [BY L h1];exact hs
 |makeSlice e by_ z l c=>
  simp only [ah] at hs ⊢
  split at hs
  ·rename_i a b h1 h2
   split at hs
   ·rename_i hc;exact (if_pos hc).trans (jf hs hn)
   ·cases hs
  ·cases hs
 |slice e x lo hi mx=>
  cases mx with
  |some m=>exact hs
  |none=>
   simp only [ah] at hs ⊢
   cases hev:ev x with
   |sl b s n=>
    rw [hev] at hs
    dsimp only at hs ⊢
    cases hb:h b with
    |none=>rw [hb] at hs;cases hs
    |some k=>rw [hb] at hs;rw [L b k hb];exact hs
   |lit y=>
    rw [hev] at hs
    cases y with
    |slice a n c=>cases a<;>cases n<;>cases c<;>exact hs
    |_=>exact hs
   |_=>rw [hev] at hs;exact hs
 |idx e x i=>
  simp only [ah] at hs ⊢
  cases hi:asI (ev i) with
  |none=>rw [hi] at hs;cases hs
  |some q=>
   rw [hi] at hs
   dsimp only at hs ⊢
   split at hs
   ·rename_i hc
    rw [if_pos hc]
    cases hev:ev x with
    |sl b s n=>
     rw [hev] at hs
     dsimp only at hs ⊢
     cases hb:h b with
     |none=>rw [hb] at hs;cases hs
     |some k=>rw [hb] at hs;rw [L b k hb];exact hs
    |_=>rw [hev] at hs;exact hs
   ·cases hs
 |append e by_ z x y=>
  simp only [ah] at hs ⊢
  cases h1:cA h e (ev y) with
  |none=>rw [h1] at hs;cases hs
  |some ns=>
   rw [h1] at hs
   rw [BY L h1]
   dsimp only at hs ⊢
   split at hs
   ·rename_i hc
    rw [if_pos hc]
    split at hs
    ·rename_i b n hev
     cases hb:h b with
     |none=>rw [hb] at hs;cases hs
     |some k=>rw [hb] at hs;rw [L b k hb];exact hs
    ·exact jf hs hn
    ·exact jf hs hn
    ·cases hs
   ·cases hs
 |appendN e by_ z x y=>
  simp only [ah] at hs ⊢
  split at hs
  ·rename_i l hl
   split at hs
   ·rename_i hc
    rw [if_pos hc]
    unfold GX at hs ⊢
    split at hs
    ·rename_i hc
     rw [if_pos hc]
     split at hs
     ·rename_i b n hev
      cases hb:h b with
      |none=>rw [hb] at hs;cases hs
      |some k=>rw [hb] at hs;rw [L b k hb];exact hs
     ·exact jf hs hn
     ·exact jf hs hn
     ·cases hs
    ·cases hs
   ·cases hs
  ·cases hs
 |copy e x y=>
  simp only [ah] at hs ⊢
  cases h1:cA h e (ev y) with
  |none=>rw [h1] at hs;cases hs
  |some ns=>
   rw [h1] at hs
   rw [BY L h1]
   cases hev:ev x with
   |sl b s n=>
    rw [hev] at hs
    dsimp only at hs ⊢
    cases hb:h b with
    |none=>rw [hb] at hs;cases hs
    |some k=>rw [hb] at hs;rw [L b k hb];exact hs
   |_=>rw [hev] at hs;cases hs
 |arrOf n x=>
  simp only [ah] at hs ⊢
  cases h1:nf h (ev x) with
  |none=>rw [h1] at hs;cases hs
  |some p=>rw [h1] at hs;rw [Tv L h1];exact hs
 |bytesOwn x=>
  simp only [ah] at hs ⊢
  cases hev:ev x with
  |sl b s n=>
   rw [hev] at hs
   dsimp only at hs ⊢
   cases hb:h b with
   |none=>rw [hb] at hs;cases hs
   |some k=>rw [hb] at hs;rw [L b k hb];exact hs
  |_=>rw [hev] at hs;cases hs
 |call f args=>exact SR L hs hn
 |dyn f args=>
  simp only [ah] at hs ⊢
  split at hs
  ·rename_i hev;exact SR L hs hn
  ·cases hs
 |_=>exact hs
end
end Go.AI
